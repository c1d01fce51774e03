/-
  trace: TraceWrong.
-/
import Derived.Test.YtcdmdnadilafhaaDoorZtWb
import Derived.Test.YtcdmdnadilafhaaDoorZtPq
import Derived.Test.YtcdmdnadilafhaaDoorZtIn
import Derived.Test.YtcdmdnadilafhaaDoorZdQp
set_option linter.unusedSimpArgs false
set_option linter.unusedVariables false
namespace Go.Ab
open Go Go.RowKit Go.Fwd Go.Proofs
def F_tracewrong (fuel : Nat) (l : (List Sme)) (at_ : Int) (how : Int) (n : Int) : Option Bool :=
  (bindE (F_made fuel l 0 0) (fun x1 => (chk (-9223372036854775808 ≤ at_ ∧ at_ < 9223372036854775808) (chk (-9223372036854775808 ≤ ((List.length x1.l : Int) + 1) ∧ ((List.length x1.l : Int) + 1) < 9223372036854775808) (chk ((0 ≤ at_ ∧ at_ < 9223372036854775808) ∧ 0 < ((List.length x1.l : Int) + 1)) (chk (0 ≤ 0 ∧ 0 ≤ (Int.tmod at_ ((List.length x1.l : Int) + 1)) ∧ (Int.tmod at_ ((List.length x1.l : Int) + 1)) ≤ (List.length x1.l : Int)) (bindE (F_at fuel (Trc.mk (sub x1.l 0 (Int.tmod at_ ((List.length x1.l : Int) + 1))) x1.e)) (fun x2 => (chk (-9223372036854775808 ≤ (x2 + 1) ∧ (x2 + 1) < 9223372036854775808) (chk (-9223372036854775808 ≤ (x2 + 1) ∧ (x2 + 1) < 9223372036854775808) (chk (0 ≤ (Int.tmod how 7) ∧ (Int.tmod how 7) < (List.length [(En.mk 0 0 0 []), (En.mk (max how 4) 0 0 []), (En.mk 1 (max n 1) 0 []), (En.mk 2 x2 x2 ([120] : List UInt8)), (En.mk 2 (x2 + 1) (x2 + 1) []), (En.mk 3 x2 x2 []), (En.mk 2 x2 (max n 1073741825) [])] : Int)) (letE (ix [(En.mk 0 0 0 []), (En.mk (max how 4) 0 0 []), (En.mk 1 (max n 1) 0 []), (En.mk 2 x2 x2 ([120] : List UInt8)), (En.mk 2 (x2 + 1) (x2 + 1) []), (En.mk 3 x2 x2 []), (En.mk 2 x2 (max n 1073741825) [])] (Int.tmod how 7)) (fun x3 => (bif (List.isEmpty x1.l) then (chk ((Int.tmod at_ ((List.length x1.l : Int) + 1)) = 0 ∧ 0 < List.length [x3] ∧ List.length [x3] * 40 ≤ 140737488355328) (bindE (F_check fuel (Trc.mk [x3] (Ed.mk ((Ed.mk 0 0).k) ((Ed.mk 0 0).c)))) (fun x4 => (bindE (F_write fuel (Trc.mk [x3] (Ed.mk ((Ed.mk 0 0).k) ((Ed.mk 0 0).c)))) (fun x5 => (bif (x4.1 != (Int.tmod at_ ((List.length x1.l : Int) + 1))) then (some false) else (bif (x4.2 != 330) then (some false) else (bif (x5.2 != x4.2) then (some false) else (bif (!(x5.1 == ([] : List UInt8))) then (some false) else (bindE (F_taken fuel (Trc.mk [x3] (Ed.mk ((Ed.mk 0 0).k) ((Ed.mk 0 0).c)))) (fun x6 => (bindE (F_lost fuel (Trc.mk [x3] (Ed.mk ((Ed.mk 0 0).k) ((Ed.mk 0 0).c)))) (fun x7 => (chk (-9223372036854775808 ≤ (x6 + x7) ∧ (x6 + x7) < 9223372036854775808) (bindE (F_at fuel (Trc.mk [x3] (Ed.mk ((Ed.mk 0 0).k) ((Ed.mk 0 0).c)))) (fun x8 => (chk (-9223372036854775808 ≤ ((x6 + x7) + x8) ∧ ((x6 + x7) + x8) < 9223372036854775808) (bif (((x6 + x7) + x8) != 0) then (some false) else (chk (0 ≤ (Int.tmod how 5) ∧ (Int.tmod how 5) < (List.length [(Ed.mk 0 0), (Ed.mk (max how 6) 0), (Ed.mk 1 (max n 1)), (Ed.mk 2 (max n 256)), (Ed.mk 2 (min n (-1)))] : Int)) (letE (ix [(Ed.mk 0 0), (Ed.mk (max how 6) 0), (Ed.mk 1 (max n 1)), (Ed.mk 2 (max n 256)), (Ed.mk 2 (min n (-1)))] (Int.tmod how 5)) (fun x9 => (bindE (F_check fuel (Trc.mk x1.l x9)) (fun x10 => (bindE (F_write fuel (Trc.mk x1.l x9)) (fun x11 => (bif (x10.1 == (-1)) then (bif (x10.2 == 331) then (bif (x11.2 == x10.2) then (some true) else (some false)) else (some false)) else (some false))))))))))))))))))))))))))) else (chk (List.length x1.l * 40 ≤ 140737488355328) (chk (0 ≤ (Int.tmod at_ ((List.length x1.l : Int) + 1)) ∧ (Int.tmod at_ ((List.length x1.l : Int) + 1)) ≤ (List.length x1.l : Int) ∧ 0 < List.length x1.l ∧ 0 < List.length [x3] ∧ (List.length x1.l + List.length [x3]) * 40 ≤ 140737488355328) (letE (insL x1.l [x3] (Int.tmod at_ ((List.length x1.l : Int) + 1))) (fun x12 => (bindE (F_check fuel (Trc.mk x12 (Ed.mk ((Ed.mk 0 0).k) ((Ed.mk 0 0).c)))) (fun x13 => (bindE (F_write fuel (Trc.mk x12 (Ed.mk ((Ed.mk 0 0).k) ((Ed.mk 0 0).c)))) (fun x14 => (bif (x13.1 != (Int.tmod at_ ((List.length x1.l : Int) + 1))) then (some false) else (bif (x13.2 != 330) then (some false) else (bif (x14.2 != x13.2) then (some false) else (bif (!(x14.1 == ([] : List UInt8))) then (some false) else (bindE (F_taken fuel (Trc.mk x12 (Ed.mk ((Ed.mk 0 0).k) ((Ed.mk 0 0).c)))) (fun x15 => (bindE (F_lost fuel (Trc.mk x12 (Ed.mk ((Ed.mk 0 0).k) ((Ed.mk 0 0).c)))) (fun x16 => (chk (-9223372036854775808 ≤ (x15 + x16) ∧ (x15 + x16) < 9223372036854775808) (bindE (F_at fuel (Trc.mk x12 (Ed.mk ((Ed.mk 0 0).k) ((Ed.mk 0 0).c)))) (fun x17 => (chk (-9223372036854775808 ≤ ((x15 + x16) + x17) ∧ ((x15 + x16) + x17) < 9223372036854775808) (bif (((x15 + x16) + x17) != 0) then (some false) else (chk (0 ≤ (Int.tmod how 5) ∧ (Int.tmod how 5) < (List.length [(Ed.mk 0 0), (Ed.mk (max how 6) 0), (Ed.mk 1 (max n 1)), (Ed.mk 2 (max n 256)), (Ed.mk 2 (min n (-1)))] : Int)) (letE (ix [(Ed.mk 0 0), (Ed.mk (max how 6) 0), (Ed.mk 1 (max n 1)), (Ed.mk 2 (max n 256)), (Ed.mk 2 (min n (-1)))] (Int.tmod how 5)) (fun x18 => (bindE (F_check fuel (Trc.mk x1.l x18)) (fun x19 => (bindE (F_write fuel (Trc.mk x1.l x18)) (fun x20 => (bif (x19.1 == (-1)) then (bif (x19.2 == 331) then (bif (x20.2 == x19.2) then (some true) else (some false)) else (some false)) else (some false))))))))))))))))))))))))))))))))))))))))))))
theorem ent8 : Ent Tryd.prog 8 := enters_of Tryd.func8 (by kernel_rfl) rfl
set_option maxRecDepth 100000 in
set_option maxHeartbeats 32000000 in
theorem tracewrong_sh (fuel : Nat) (l : (List Sme)) (at_ : Int) (how : Int) (n : Int) (r : Bool) (h : F_tracewrong fuel l at_ how n = some r) : Pure (ITP Tryd.prog) Tryd.prog 8 [.list (List.length (l : List Sme)) (Enc.cellsL (l : List Sme)) .none, .raw (.int .u8 at_), .raw (.int .u8 how), .raw (.int .i64 n)] (.raw (.bool r)) := by
 obtain ⟨d, hd⟩ : ∃ d, Tryd.f8.body = some d := ⟨_, rfl⟩
 refine pure_of mix Tryd.func8 hd ent8 ?_
 cases hd
 unfold F_tracewrong at h
 refine w_start (by dsimp only [abeginS, Tryd.f8, List.length_cons, List.length_nil, Nat.zero_add, Nat.reduceAdd, Nat.reduceSub, List.replicate, List.cons_append, List.nil_append]) (by dsimp only [St.empty]) ?_
 refine w_seq (w_region ?_)
 refine w_op (a := .raw (.bool false)) rfl rfl rfl rfl (by dsimp only [aput, List.set]) ?_
 refine w_seq (w_region ?_)
 refine w_mv ?_
 obtain ⟨x1, hx1, h⟩ := bindE_e h
 refine w_callc (args' := [.list (List.length (l : List Sme)) (Enc.cellsL (l : List Sme)) .none, .raw (.int .u8 0), .raw (.int .u8 0)]) (r := .agg (Enc.cells (x1 : Trc))) (made_sh fuel l 0 0 x1 hx1) rfl rfl (stripL_cons (strip_l (Enc.cloL _)) (stripL_cons rfl (stripL_cons rfl rfl))) (okTrimL_cons (okTrim_l (Enc.cloL _)) (okTrimL_cons rfl (okTrimL_cons rfl rfl))) (by dsimp only [aput, List.set]) ?_
 refine w_opm (a := .ptr 0 0) (σ'' := ⟨[(26, [.list 0 [] .full, .raw (.int .u8 0), .raw (.int .i64 0)])], [], [], 0, false⟩) rfl rfl rfl rfl (by dsimp only [aput, List.set]) rfl ?_
 refine w_opm (σ'' := ⟨[(26, (Enc.cells (x1 : Trc)))], [], [], 0, false⟩) rfl rfl rfl (op_storeW (n := 3) rfl rfl rfl rfl rfl rfl rfl rfl (by decide)) (by dsimp only [aput, List.set]) rfl ?_
 refine w_seq (w_region ?_)
 refine w_mv ?_
 obtain ⟨g1, h⟩ := chk_e h
 refine w_op (a := .raw (.int .i64 at_)) rfl rfl rfl (op_q (q_conv64 g1 rfl rfl rfl)) (by dsimp only [aput, List.set]) ?_
 refine w_op (a := .ptr 0 0) rfl rfl rfl rfl (by dsimp only [aput, List.set]) ?_
 refine w_op (a := .list (List.length (x1.l : List En)) (Enc.cellsL (x1.l : List En)) .none) rfl rfl rfl rfl (by dsimp only [aput, List.set]) ?_
 refine w_op (a := .raw (.int .i64 (List.length x1.l : Int))) rfl rfl rfl rfl (by dsimp only [aput, List.set]) ?_
 obtain ⟨g2, h⟩ := chk_e h
 refine w_op (a := .raw (.int .i64 ((List.length x1.l : Int) + 1))) rfl rfl rfl (op_q (q_add rfl rfl rfl rfl g2.1 g2.2)) (by dsimp only [aput, List.set]) ?_
 obtain ⟨g3, h⟩ := chk_e h
 refine w_op (a := .raw (.int .i64 (Int.tmod at_ ((List.length x1.l : Int) + 1)))) rfl rfl rfl (op_q (q_rem64 g3 rfl rfl rfl)) (by dsimp only [aput, List.set]) ?_
 refine w_mv ?_
 refine w_seq ?_
 refine w_draw (k0 := 0) (id := 3) 6 (by kernel_rfl) (by kernel_rfl) ?_
 refine h_op (a := .ptr 0 0) rfl rfl rfl rfl (by dsimp only [aput, List.set]) ?_
 refine h_op (a := .list (List.length (x1.l : List En)) (Enc.cellsL (x1.l : List En)) .none) rfl rfl rfl rfl (by dsimp only [aput, List.set]) ?_
 refine h_mv ?_
 obtain ⟨g4, h⟩ := chk_e h
 refine h_opS (a := .list (List.length ((sub x1.l 0 (Int.tmod at_ ((List.length x1.l : Int) + 1))) : List En)) (Enc.cellsL ((sub x1.l 0 (Int.tmod at_ ((List.length x1.l : Int) + 1))) : List En)) .none) rfl rfl rfl (q_sub_H (α := En) (l := x1.l) g4 rfl rfl rfl rfl rfl) (strip_sub _ _ _) (by dsimp only [aput, List.set]) ?_
 refine h_op (a := .ptr 0 1) rfl rfl rfl rfl (by dsimp only [aput, List.set]) ?_
 refine h_op (a := .agg (Enc.cells (x1.e : Ed))) rfl rfl rfl rfl (by dsimp only [aput, List.set]) ?_
 refine h_end ?_
 refine w_qs (.agg (Enc.cells ((Trc.mk (sub x1.l 0 (Int.tmod at_ ((List.length x1.l : Int) + 1))) x1.e) : Trc))) (a0 := (trcR (Trc.mk (sub x1.l 0 (Int.tmod at_ ((List.length x1.l : Int) + 1))) x1.e) .none)) rfl rfl rfl (by kernel_rfl) (strip_trcR _ _) (by dsimp only [aput, List.set]) ?_
 obtain ⟨x2, hx2, h⟩ := bindE_e h
 refine w_callc (args' := [.agg (Enc.cells ((Trc.mk (sub x1.l 0 (Int.tmod at_ ((List.length x1.l : Int) + 1))) x1.e) : Trc))]) (r := .raw (.int .i64 x2)) (at_sh fuel (Trc.mk (sub x1.l 0 (Int.tmod at_ ((List.length x1.l : Int) + 1))) x1.e) x2 hx2) rfl rfl (stripL_cons (strip_c (clo_agg (Enc.clo _))) rfl) (okTrimL_cons (okTrim_clo _ _ (clo_agg (Enc.clo _))) rfl) (by dsimp only [aput, List.set]) ?_
 refine w_mv ?_
 refine w_seq (w_region ?_)
 refine w_op (a := .agg (Enc.cells ((En.mk 0 0 0 []) : En))) rfl rfl rfl rfl (by dsimp only [aput, List.set]) ?_
 refine w_mv ?_
 refine w_op (a := .raw (.int .u8 (max how 4))) rfl rfl rfl (op_q (q_max rfl rfl rfl rfl rfl)) (by dsimp only [aput, List.set]) ?_
 refine w_op (a := .agg (Enc.cells ((En.mk (max how 4) 0 0 []) : En))) rfl rfl rfl rfl (by dsimp only [aput, List.set]) ?_
 refine w_mv ?_
 refine w_op (a := .raw (.int .i64 (max n 1))) rfl rfl rfl (op_q (q_max rfl rfl rfl rfl rfl)) (by dsimp only [aput, List.set]) ?_
 refine w_op (a := .agg (Enc.cells ((En.mk 1 (max n 1) 0 []) : En))) rfl rfl rfl rfl (by dsimp only [aput, List.set]) ?_
 refine w_mv ?_
 refine w_mv ?_
 refine w_op (a := .agg (Enc.cells ((En.mk 2 x2 x2 ([120] : List UInt8)) : En))) rfl rfl rfl rfl (by dsimp only [aput, List.set]) ?_
 refine w_mv ?_
 obtain ⟨g5, h⟩ := chk_e h
 refine w_op (a := .raw (.int .i64 (x2 + 1))) rfl rfl rfl (op_q (q_add rfl rfl rfl rfl g5.1 g5.2)) (by dsimp only [aput, List.set]) ?_
 refine w_mv ?_
 obtain ⟨g6, h⟩ := chk_e h
 refine w_op (a := .raw (.int .i64 (x2 + 1))) rfl rfl rfl (op_q (q_add rfl rfl rfl rfl g6.1 g6.2)) (by dsimp only [aput, List.set]) ?_
 refine w_op (a := .agg (Enc.cells ((En.mk 2 (x2 + 1) (x2 + 1) []) : En))) rfl rfl rfl rfl (by dsimp only [aput, List.set]) ?_
 refine w_mv ?_
 refine w_mv ?_
 refine w_op (a := .agg (Enc.cells ((En.mk 3 x2 x2 []) : En))) rfl rfl rfl rfl (by dsimp only [aput, List.set]) ?_
 refine w_mv ?_
 refine w_mv ?_
 refine w_op (a := .raw (.int .i64 (max n 1073741825))) rfl rfl rfl (op_q (q_max rfl rfl rfl rfl rfl)) (by dsimp only [aput, List.set]) ?_
 refine w_op (a := .agg (Enc.cells ((En.mk 2 x2 (max n 1073741825) []) : En))) rfl rfl rfl rfl (by dsimp only [aput, List.set]) ?_
 refine w_op (a := .list (List.length ([(En.mk 0 0 0 []), (En.mk (max how 4) 0 0 []), (En.mk 1 (max n 1) 0 []), (En.mk 2 x2 x2 ([120] : List UInt8)), (En.mk 2 (x2 + 1) (x2 + 1) []), (En.mk 3 x2 x2 []), (En.mk 2 x2 (max n 1073741825) [])] : List En)) (Enc.cellsL ([(En.mk 0 0 0 []), (En.mk (max how 4) 0 0 []), (En.mk 1 (max n 1) 0 []), (En.mk 2 x2 x2 ([120] : List UInt8)), (En.mk 2 (x2 + 1) (x2 + 1) []), (En.mk 3 x2 x2 []), (En.mk 2 x2 (max n 1073741825) [])] : List En)) .full) rfl rfl rfl (op_q (q_lit (α := En) (l := [(En.mk 0 0 0 []), (En.mk (max how 4) 0 0 []), (En.mk 1 (max n 1) 0 []), (En.mk 2 x2 x2 ([120] : List UInt8)), (En.mk 2 (x2 + 1) (x2 + 1) []), (En.mk 3 x2 x2 []), (En.mk 2 x2 (max n 1073741825) [])]) (cs := Enc.cells ((En.mk 0 0 0 []) : En) ++ (Enc.cells ((En.mk (max how 4) 0 0 []) : En) ++ (Enc.cells ((En.mk 1 (max n 1) 0 []) : En) ++ (Enc.cells ((En.mk 2 x2 x2 ([120] : List UInt8)) : En) ++ (Enc.cells ((En.mk 2 (x2 + 1) (x2 + 1) []) : En) ++ (Enc.cells ((En.mk 3 x2 x2 []) : En) ++ (Enc.cells ((En.mk 2 x2 (max n 1073741825) []) : En) ++ []))))))) (by kernel_rfl) (by rw [Enc.cons, Enc.cons, Enc.cons, Enc.cons, Enc.cons, Enc.cons, Enc.cons, Enc.nil]))) (by dsimp only [aput, List.set]) ?_
 refine w_mv ?_
 refine w_op (a := .raw (.int .u8 (Int.tmod how 7))) rfl rfl rfl rfl (by dsimp only [aput, List.set]) ?_
 obtain ⟨g7, h⟩ := chk_e h
 obtain ⟨x3, hx3, h⟩ := letE_e h
 refine w_op (a := .iptr (Enc.cells x3 ++ Enc.cellsL (List.drop (Int.toNat (Int.tmod how 7) + 1) [(En.mk 0 0 0 []), (En.mk (max how 4) 0 0 []), (En.mk 1 (max n 1) 0 []), (En.mk 2 x2 x2 ([120] : List UInt8)), (En.mk 2 (x2 + 1) (x2 + 1) []), (En.mk 3 x2 x2 []), (En.mk 2 x2 (max n 1073741825) [])]))) rfl rfl rfl (op_q (by rw [← hx3]; exact (q_idx (α := En) (l := [(En.mk 0 0 0 []), (En.mk (max how 4) 0 0 []), (En.mk 1 (max n 1) 0 []), (En.mk 2 x2 x2 ([120] : List UInt8)), (En.mk 2 (x2 + 1) (x2 + 1) []), (En.mk 3 x2 x2 []), (En.mk 2 x2 (max n 1073741825) [])]) g7 rfl rfl rfl rfl rfl))) (by dsimp only [aput, List.set]) ?_
 refine w_op (a := .agg (Enc.cells (x3 : En))) rfl rfl rfl rfl (by dsimp only [aput, List.set]) ?_
 refine w_opm (a := .ptr 1 0) (σ'' := ⟨[(26, (Enc.cells (x1 : Trc))), (43, (Enc.cells ((En.mk 0 0 0 []) : En)))], [], [], 0, false⟩) rfl rfl rfl rfl (by dsimp only [aput, List.set]) rfl ?_
 refine w_opm (σ'' := ⟨[(26, (Enc.cells (x1 : Trc))), (43, (Enc.cells (x3 : En)))], [], [], 0, false⟩) rfl rfl rfl (op_storeW (n := 4) rfl rfl rfl rfl rfl rfl rfl rfl (by decide)) (by dsimp only [aput, List.set]) rfl ?_
 refine bif_e h (fun hc1 h => ?_) (fun hc1 h => ?_)
 ·
  obtain ⟨g8, h⟩ := chk_e h
  refine w_seqAny (id := 5) [.top, .raw (.int .u8 at_), .raw (.int .u8 how), .raw (.int .i64 n), .top, .top, .top, .top, .raw (.bool false), .ptr 0 0, .raw (.int .i64 (Int.tmod at_ ((List.length x1.l : Int) + 1))), .raw (.int .i64 x2), .top, .ptr 1 0, .top, .top, .top, .top, .top, .top, .raw (.int .u8 at_), .raw (.int .i64 at_), .top, .top, .raw (.int .i64 (List.length x1.l : Int)), .raw (.int .i64 ((List.length x1.l : Int) + 1)), .raw (.int .i64 (Int.tmod at_ ((List.length x1.l : Int) + 1))), .top, .top, .raw (.int .i64 (Int.tmod at_ ((List.length x1.l : Int) + 1))), .top, .top, .top, .top, .raw (.int .i64 x2), .top, .raw (.int .u8 how), .raw (.int .u8 (max how 4)), .top, .raw (.int .i64 n), .raw (.int .i64 (max n 1)), .top, .raw (.int .i64 x2), .raw (.int .i64 x2), .top, .raw (.int .i64 x2), .raw (.int .i64 (x2 + 1)), .raw (.int .i64 x2), .raw (.int .i64 (x2 + 1)), .top, .raw (.int .i64 x2), .raw (.int .i64 x2), .top, .raw (.int .i64 x2), .raw (.int .i64 n), .raw (.int .i64 (max n 1073741825)), .top, .top, .raw (.int .u8 how), .raw (.int .u8 (Int.tmod how 7)), .top, .top, .top, .top, .top, .raw (.int .i64 (Int.tmod at_ ((List.length x1.l : Int) + 1))), .top, .top, .top, .top, .top, .top, .top, .top, .top, .top, .top, .top, .top, .top, .top, .top, .top, .top, .top, .top, .top, .top, .top, .top, .top, .top, .top, .top, .top, .top, .top, .top, .top, .top, .top, .top, .top, .top, .top, .top, .top, .top, .top, .top, .top, .top, .top, .top, .top, .top, .top, .top, .top, .top, .top, .top, .top, .top, .top, .top, .top, .top, .top, .top, .top, .top, .top, .top, .top, .top, .top, .top, .top, .top, .top, .top, .top, .top, .top, .top, .top, .top, .top, .top, .top] ⟨[(26, (Enc.cells (x1 : Trc))), (26, (Enc.cells ((Trc.mk [x3] (Ed.mk ((Ed.mk 0 0).k) ((Ed.mk 0 0).c))) : Trc)))], [], [], 0, false⟩ ?_ ?_
  ·
   refine aany_intro (fun ops hops FIN hFIN S0 hS0 => ?_)
   let v62 : AV := .ptr 0 0
   let v66 : AV := .agg (Enc.cells (x3 : En))
   let v69 : AV := .agg (Enc.cells ((Ed.mk 0 0) : Ed))
   let v13 : AV := .ptr 2 0
   let v63 : AV := .list (List.length (x1.l : List En)) (Enc.cellsL (x1.l : List En)) .none
   let v67 : AV := .list (List.length ([x3] : List En)) (Enc.cellsL ([x3] : List En)) .full
   let v64 : AV := .list 0 [] .full
   let v68 : AV := .bsl 2 0 (List.length [x3]) 4 false
   let v13_1 : AV := .ptr 3 0
   let v68_1 : AV := .bsl 3 0 (List.length [x3]) 4 false
   let v70 : AV := .agg [.bsl 2 0 (List.length [x3]) 4 false, .raw (.int .u8 ((Ed.mk 0 0).k)), .raw (.int .i64 ((Ed.mk 0 0).c))]
   let v70_1 : AV := .agg [.bsl 3 0 (List.length [x3]) 4 false, .raw (.int .u8 ((Ed.mk 0 0).k)), .raw (.int .i64 ((Ed.mk 0 0).c))]
   let G0 : St := ⟨[(26, (Enc.cells (x1 : Trc))), (43, (Enc.cells (x3 : En)))], [], [], 0, false⟩
   let G1 : St := ⟨[(26, (Enc.cells (x1 : Trc))), (43, (Enc.cells (x3 : En))), (26, [.list 0 [] .full, .raw (.int .u8 0), .raw (.int .i64 0)])], [], [], 0, false⟩
   let G2 : St := ⟨[(26, (Enc.cells (x1 : Trc))), (43, (Enc.cells (x3 : En))), (43, (Enc.cellsL ([x3] : List En)))], [], [], 0, false⟩
   let G3 : St := ⟨[(26, (Enc.cells (x1 : Trc))), (43, (Enc.cells (x3 : En))), (43, (Enc.cellsL ([x3] : List En))), (26, [.list 0 [] .full, .raw (.int .u8 0), .raw (.int .i64 0)])], [], [], 0, false⟩
   let G4 : St := ⟨[(26, (Enc.cells (x1 : Trc))), (43, (Enc.cells (x3 : En))), (26, [.list 0 [] .full, .raw (.int .u8 0), .raw (.int .i64 0)]), (43, (Enc.cellsL ([x3] : List En)))], [], [], 0, false⟩
   let G5 : St := ⟨[(26, (Enc.cells (x1 : Trc))), (43, (Enc.cells (x3 : En))), (43, (Enc.cellsL ([x3] : List En))), (26, [.bsl 2 0 (List.length [x3]) 4 false, .raw (.int .u8 ((Ed.mk 0 0).k)), .raw (.int .i64 ((Ed.mk 0 0).c))])], [], [], 0, false⟩
   let G6 : St := ⟨[(26, (Enc.cells (x1 : Trc))), (43, (Enc.cells (x3 : En))), (26, [.bsl 3 0 (List.length [x3]) 4 false, .raw (.int .u8 ((Ed.mk 0 0).k)), .raw (.int .i64 ((Ed.mk 0 0).c))]), (43, (Enc.cellsL ([x3] : List En)))], [], [], 0, false⟩
   obtain ⟨ps0, hps0⟩ : ∃ ps : List (Option (Nat × AV)), ps = [some (62, v62), some (63, v63), some (64, v64), some (65, .raw (.int .i64 (Int.tmod at_ ((List.length x1.l : Int) + 1)))), some (66, v66), some (67, v67), some (68, v68), some (69, v69), some (70, v70), some (13, v13_1), none] := ⟨_, rfl⟩
   let N0 : Nat → Nat → St → Prop := fun k m σ => aN (ITP Tryd.prog) Tryd.prog none ops FIN S0 ps0 11 k m σ
   obtain ⟨ps1, hps1⟩ : ∃ ps : List (Option (Nat × AV)), ps = [some (62, v62), some (63, v63), some (64, v64), some (65, .raw (.int .i64 (Int.tmod at_ ((List.length x1.l : Int) + 1)))), some (66, v66), some (67, v67), some (68, v68_1), some (69, v69), some (70, v70_1), some (13, v13), none] := ⟨_, rfl⟩
   let N1 : Nat → Nat → St → Prop := fun k m σ => aN (ITP Tryd.prog) Tryd.prog none ops FIN S0 ps1 11 k m σ
   have n106 : N1 0 2047 G6 := by
    exact aN_0 hops hS0 hps1 (hFIN _ _ (wm_keep (false :: true :: true :: true :: false :: false :: false :: false :: true :: true :: true :: true :: false :: true :: false :: false :: false :: false :: false :: false :: true :: true :: false :: false :: true :: true :: true :: false :: false :: true :: false :: false :: false :: false :: true :: false :: true :: true :: false :: true :: true :: false :: true :: true :: false :: true :: true :: true :: true :: false :: true :: true :: false :: true :: true :: true :: false :: false :: true :: true :: false :: false :: false :: false :: false :: true :: false :: false :: false :: false :: false :: false :: false :: false :: false :: false :: false :: false :: false :: false :: false :: false :: false :: false :: false :: false :: false :: false :: false :: false :: false :: false :: false :: false :: false :: false :: false :: false :: false :: false :: false :: false :: false :: false :: false :: false :: false :: false :: false :: false :: false :: false :: false :: false :: false :: false :: false :: false :: false :: false :: false :: false :: false :: false :: false :: false :: false :: false :: false :: false :: false :: false :: false :: false :: false :: false :: false :: false :: false :: false :: false :: false :: false :: false :: false :: false :: false :: false :: false :: false :: false :: []) 0 [] [0, 2] 1 (Nat.le_refl _) rfl (fgK_f (fgK_t (mapK_clo _ _ _ rfl) (fgK_t (mapK_clo _ _ _ rfl) (fgK_t (mapK_clo _ _ _ rfl) (fgK_f (fgK_f (fgK_f (fgK_f (fgK_t (mapK_clo _ _ _ rfl) (fgK_t rfl (fgK_t (mapK_clo _ _ _ rfl) (fgK_t (mapK_clo _ _ _ rfl) (fgK_f (fgK_t rfl (fgK_f (fgK_f (fgK_f (fgK_f (fgK_f (fgK_f (fgK_t (mapK_clo _ _ _ rfl) (fgK_t (mapK_clo _ _ _ rfl) (fgK_f (fgK_f (fgK_t (mapK_clo _ _ _ rfl) (fgK_t (mapK_clo _ _ _ rfl) (fgK_t (mapK_clo _ _ _ rfl) (fgK_f (fgK_f (fgK_t (mapK_clo _ _ _ rfl) (fgK_f (fgK_f (fgK_f (fgK_f (fgK_t (mapK_clo _ _ _ rfl) (fgK_f (fgK_t (mapK_clo _ _ _ rfl) (fgK_t (mapK_clo _ _ _ rfl) (fgK_f (fgK_t (mapK_clo _ _ _ rfl) (fgK_t (mapK_clo _ _ _ rfl) (fgK_f (fgK_t (mapK_clo _ _ _ rfl) (fgK_t (mapK_clo _ _ _ rfl) (fgK_f (fgK_t (mapK_clo _ _ _ rfl) (fgK_t (mapK_clo _ _ _ rfl) (fgK_t (mapK_clo _ _ _ rfl) (fgK_t (mapK_clo _ _ _ rfl) (fgK_f (fgK_t (mapK_clo _ _ _ rfl) (fgK_t (mapK_clo _ _ _ rfl) (fgK_f (fgK_t (mapK_clo _ _ _ rfl) (fgK_t (mapK_clo _ _ _ rfl) (fgK_t (mapK_clo _ _ _ rfl) (fgK_f (fgK_f (fgK_t (mapK_clo _ _ _ rfl) (fgK_t (mapK_clo _ _ _ rfl) (fgK_f (fgK_f (fgK_f (fgK_f (fgK_f (fgK_t (mapK_clo _ _ _ rfl) (fgK_f (fgK_f (fgK_f (fgK_f (fgK_f (fgK_f (fgK_f (fgK_f (fgK_f (fgK_f (fgK_f (fgK_f (fgK_f (fgK_f (fgK_f (fgK_f (fgK_f (fgK_f (fgK_f (fgK_f (fgK_f (fgK_f (fgK_f (fgK_f (fgK_f (fgK_f (fgK_f (fgK_f (fgK_f (fgK_f (fgK_f (fgK_f (fgK_f (fgK_f (fgK_f (fgK_f (fgK_f (fgK_f (fgK_f (fgK_f (fgK_f (fgK_f (fgK_f (fgK_f (fgK_f (fgK_f (fgK_f (fgK_f (fgK_f (fgK_f (fgK_f (fgK_f (fgK_f (fgK_f (fgK_f (fgK_f (fgK_f (fgK_f (fgK_f (fgK_f (fgK_f (fgK_f (fgK_f (fgK_f (fgK_f (fgK_f (fgK_f (fgK_f (fgK_f (fgK_f (fgK_f (fgK_f (fgK_f (fgK_f (fgK_f (fgK_f (fgK_f (fgK_f (fgK_f (fgK_f (fgK_f (fgK_f (fgK_f (fgK_f (fgK_f fgK_nil))))))))))))))))))))))))))))))))))))))))))))))))))))))))))))))))))))))))))))))))))))))))))))))))))))))))))))))))))))))))))))))))))))))))))))))))))))))) (keep_of (keep_cons rfl (mapKL_clo _ _ _ (Enc.clo _)) (keep_cons rfl (mapKL_cons' (kz_bsl (α := En) (t := 43) (l := [x3]) rfl rfl rfl) (mapKL_cons' (mapK_clo _ _ _ rfl) (mapKL_cons' (mapK_clo _ _ _ rfl) mapKL_nil'))) keep_nil)) rfl)))
   have n105 : N0 0 2047 G5 := by
    exact aN_0 hops hS0 hps0 (hFIN _ _ (wm_keep (false :: true :: true :: true :: false :: false :: false :: false :: true :: true :: true :: true :: false :: true :: false :: false :: false :: false :: false :: false :: true :: true :: false :: false :: true :: true :: true :: false :: false :: true :: false :: false :: false :: false :: true :: false :: true :: true :: false :: true :: true :: false :: true :: true :: false :: true :: true :: true :: true :: false :: true :: true :: false :: true :: true :: true :: false :: false :: true :: true :: false :: false :: false :: false :: false :: true :: false :: false :: false :: false :: false :: false :: false :: false :: false :: false :: false :: false :: false :: false :: false :: false :: false :: false :: false :: false :: false :: false :: false :: false :: false :: false :: false :: false :: false :: false :: false :: false :: false :: false :: false :: false :: false :: false :: false :: false :: false :: false :: false :: false :: false :: false :: false :: false :: false :: false :: false :: false :: false :: false :: false :: false :: false :: false :: false :: false :: false :: false :: false :: false :: false :: false :: false :: false :: false :: false :: false :: false :: false :: false :: false :: false :: false :: false :: false :: false :: false :: false :: false :: false :: false :: []) 0 [] [0, 3] 1 (Nat.le_refl _) rfl (fgK_f (fgK_t (mapK_clo _ _ _ rfl) (fgK_t (mapK_clo _ _ _ rfl) (fgK_t (mapK_clo _ _ _ rfl) (fgK_f (fgK_f (fgK_f (fgK_f (fgK_t (mapK_clo _ _ _ rfl) (fgK_t rfl (fgK_t (mapK_clo _ _ _ rfl) (fgK_t (mapK_clo _ _ _ rfl) (fgK_f (fgK_t rfl (fgK_f (fgK_f (fgK_f (fgK_f (fgK_f (fgK_f (fgK_t (mapK_clo _ _ _ rfl) (fgK_t (mapK_clo _ _ _ rfl) (fgK_f (fgK_f (fgK_t (mapK_clo _ _ _ rfl) (fgK_t (mapK_clo _ _ _ rfl) (fgK_t (mapK_clo _ _ _ rfl) (fgK_f (fgK_f (fgK_t (mapK_clo _ _ _ rfl) (fgK_f (fgK_f (fgK_f (fgK_f (fgK_t (mapK_clo _ _ _ rfl) (fgK_f (fgK_t (mapK_clo _ _ _ rfl) (fgK_t (mapK_clo _ _ _ rfl) (fgK_f (fgK_t (mapK_clo _ _ _ rfl) (fgK_t (mapK_clo _ _ _ rfl) (fgK_f (fgK_t (mapK_clo _ _ _ rfl) (fgK_t (mapK_clo _ _ _ rfl) (fgK_f (fgK_t (mapK_clo _ _ _ rfl) (fgK_t (mapK_clo _ _ _ rfl) (fgK_t (mapK_clo _ _ _ rfl) (fgK_t (mapK_clo _ _ _ rfl) (fgK_f (fgK_t (mapK_clo _ _ _ rfl) (fgK_t (mapK_clo _ _ _ rfl) (fgK_f (fgK_t (mapK_clo _ _ _ rfl) (fgK_t (mapK_clo _ _ _ rfl) (fgK_t (mapK_clo _ _ _ rfl) (fgK_f (fgK_f (fgK_t (mapK_clo _ _ _ rfl) (fgK_t (mapK_clo _ _ _ rfl) (fgK_f (fgK_f (fgK_f (fgK_f (fgK_f (fgK_t (mapK_clo _ _ _ rfl) (fgK_f (fgK_f (fgK_f (fgK_f (fgK_f (fgK_f (fgK_f (fgK_f (fgK_f (fgK_f (fgK_f (fgK_f (fgK_f (fgK_f (fgK_f (fgK_f (fgK_f (fgK_f (fgK_f (fgK_f (fgK_f (fgK_f (fgK_f (fgK_f (fgK_f (fgK_f (fgK_f (fgK_f (fgK_f (fgK_f (fgK_f (fgK_f (fgK_f (fgK_f (fgK_f (fgK_f (fgK_f (fgK_f (fgK_f (fgK_f (fgK_f (fgK_f (fgK_f (fgK_f (fgK_f (fgK_f (fgK_f (fgK_f (fgK_f (fgK_f (fgK_f (fgK_f (fgK_f (fgK_f (fgK_f (fgK_f (fgK_f (fgK_f (fgK_f (fgK_f (fgK_f (fgK_f (fgK_f (fgK_f (fgK_f (fgK_f (fgK_f (fgK_f (fgK_f (fgK_f (fgK_f (fgK_f (fgK_f (fgK_f (fgK_f (fgK_f (fgK_f (fgK_f (fgK_f (fgK_f (fgK_f (fgK_f (fgK_f (fgK_f (fgK_f fgK_nil))))))))))))))))))))))))))))))))))))))))))))))))))))))))))))))))))))))))))))))))))))))))))))))))))))))))))))))))))))))))))))))))))))))))))))))))))))))) (keep_of (keep_cons rfl (mapKL_clo _ _ _ (Enc.clo _)) (keep_cons rfl (mapKL_cons' (kz_bsl (α := En) (t := 43) (l := [x3]) rfl rfl rfl) (mapKL_cons' (mapK_clo _ _ _ rfl) (mapKL_cons' (mapK_clo _ _ _ rfl) mapKL_nil'))) keep_nil)) rfl)))
   have n104 : N1 1 1023 G4 := by
    refine aN_1 hops hS0 hps1 10 ?_
    ·
     refine w_opm (σ'' := G6) rfl rfl rfl (op_storeW (n := 3) rfl rfl rfl rfl rfl rfl rfl rfl (by decide)) (by dsimp only [aput, List.set]) rfl ?_
     exact aN_of n106 hS0 hps1
   have n103 : N0 1 1023 G3 := by
    refine aN_1 hops hS0 hps0 10 ?_
    ·
     refine w_opm (σ'' := G5) rfl rfl rfl (op_storeW (n := 3) rfl rfl rfl rfl rfl rfl rfl rfl (by decide)) (by dsimp only [aput, List.set]) rfl ?_
     exact aN_of n105 hS0 hps0
   have n102 : N1 2 767 G4 := by
    refine aN_1 hops hS0 hps1 8 ?_
    ·
     refine w_op (a := v70_1) rfl rfl rfl rfl (by dsimp only [aput, List.set]) ?_
     exact aN_of n104 hS0 hps1
   have n101 : N0 2 767 G3 := by
    refine aN_1 hops hS0 hps0 8 ?_
    ·
     refine w_op (a := v70) rfl rfl rfl rfl (by dsimp only [aput, List.set]) ?_
     exact aN_of n103 hS0 hps0
   have n100 : N0 2 511 G2 := by
    refine aN_1 hops hS0 hps0 9 ?_
    ·
     refine w_opm (a := v13_1) (σ'' := G3) rfl rfl rfl rfl (by dsimp only [aput, List.set]) rfl ?_
     exact aN_of n103 hS0 hps0
   have n99 : N1 3 639 G4 := by
    refine aN_1 hops hS0 hps1 7 ?_
    ·
     refine w_op (a := v69) rfl rfl rfl rfl (by dsimp only [aput, List.set]) ?_
     exact aN_of n102 hS0 hps1
   have n98 : N1 3 703 G1 := by
    refine aN_1 hops hS0 hps1 6 ?_
    ·
     refine w_snd (r := v68_1) (σ' := ⟨[(26, (Enc.cells (x1 : Trc))), (43, (Enc.cells (x3 : En))), (26, [.list 0 [] .full, .raw (.int .u8 0), .raw (.int .i64 0)]), (43, (Enc.cellsL ([x3] : List En)))], [], [], 0, false⟩) (insT_nil [x3] (Int.tmod at_ ((List.length x1.l : Int) + 1)) _ _ 3 g8 rfl) rfl rfl ⟨rfl, rfl⟩ (by dsimp only [aput, List.set]) ?_
     exact aN_of n102 hS0 hps1
   have n97 : N0 3 639 G3 := by
    refine aN_1 hops hS0 hps0 7 ?_
    ·
     refine w_op (a := v69) rfl rfl rfl rfl (by dsimp only [aput, List.set]) ?_
     exact aN_of n101 hS0 hps0
   have n96 : N0 3 255 G2 := by
    refine aN_2 hops hS0 hps0 8 9 ?_ ?_
    ·
     refine w_op (a := v70) rfl rfl rfl rfl (by dsimp only [aput, List.set]) ?_
     exact aN_of n100 hS0 hps0
    ·
     refine w_opm (a := v13_1) (σ'' := G3) rfl rfl rfl rfl (by dsimp only [aput, List.set]) rfl ?_
     exact aN_of n101 hS0 hps0
   have n95 : N1 4 699 G1 := by
    refine aN_1 hops hS0 hps1 2 ?_
    ·
     refine w_snd (r := v64) (σ' := ⟨[(26, (Enc.cells (x1 : Trc))), (43, (Enc.cells (x3 : En))), (26, [.list 0 [] .full, .raw (.int .u8 0), .raw (.int .i64 0)])], [], [], 0, false⟩) (cloneT_nil x1.l hc1 _) rfl rfl ⟨rfl, rfl⟩ (by dsimp only [aput, List.set]) ?_
     exact aN_of n98 hS0 hps1
   have n94 : N1 4 695 G1 := by
    refine aN_1 hops hS0 hps1 3 ?_
    ·
     refine w_mv ?_
     exact aN_of n98 hS0 hps1
   have n93 : N1 4 671 G1 := by
    refine aN_1 hops hS0 hps1 5 ?_
    ·
     refine w_op (a := v67) rfl rfl rfl (op_q (q_lit (α := En) (l := [x3]) (cs := Enc.cells (x3 : En) ++ []) rfl (by rw [Enc.cons, Enc.nil]))) (by dsimp only [aput, List.set]) ?_
     exact aN_of n98 hS0 hps1
   have n92 : N1 4 575 G1 := by
    refine aN_2 hops hS0 hps1 6 7 ?_ ?_
    ·
     refine w_snd (r := v68_1) (σ' := ⟨[(26, (Enc.cells (x1 : Trc))), (43, (Enc.cells (x3 : En))), (26, [.list 0 [] .full, .raw (.int .u8 0), .raw (.int .i64 0)]), (43, (Enc.cellsL ([x3] : List En)))], [], [], 0, false⟩) (insT_nil [x3] (Int.tmod at_ ((List.length x1.l : Int) + 1)) _ _ 3 g8 rfl) rfl rfl ⟨rfl, rfl⟩ (by dsimp only [aput, List.set]) ?_
     exact aN_of n99 hS0 hps1
    ·
     refine w_op (a := v69) rfl rfl rfl rfl (by dsimp only [aput, List.set]) ?_
     exact aN_of n98 hS0 hps1
   have n91 : N0 4 191 G0 := by
    refine aN_2 hops hS0 hps0 6 9 ?_ ?_
    ·
     refine w_snd (r := v68) (σ' := ⟨[(26, (Enc.cells (x1 : Trc))), (43, (Enc.cells (x3 : En))), (43, (Enc.cellsL ([x3] : List En)))], [], [], 0, false⟩) (insT_nil [x3] (Int.tmod at_ ((List.length x1.l : Int) + 1)) _ _ 2 g8 rfl) rfl rfl ⟨rfl, rfl⟩ (by dsimp only [aput, List.set]) ?_
     exact aN_of n96 hS0 hps0
    ·
     refine w_opm (a := v13) (σ'' := G1) rfl rfl rfl rfl (by dsimp only [aput, List.set]) rfl ?_
     exact aN_of n98 hS0 hps1
   have n90 : N0 4 127 G2 := by
    refine aN_2 hops hS0 hps0 7 9 ?_ ?_
    ·
     refine w_op (a := v69) rfl rfl rfl rfl (by dsimp only [aput, List.set]) ?_
     exact aN_of n96 hS0 hps0
    ·
     refine w_opm (a := v13_1) (σ'' := G3) rfl rfl rfl rfl (by dsimp only [aput, List.set]) rfl ?_
     exact aN_of n97 hS0 hps0
   have n89 : N1 5 697 G1 := by
    refine aN_1 hops hS0 hps1 1 ?_
    ·
     refine w_op (a := v63) rfl rfl rfl rfl (by dsimp only [aput, List.set]) ?_
     exact aN_of n95 hS0 hps1
   have n88 : N1 5 691 G1 := by
    refine aN_2 hops hS0 hps1 2 3 ?_ ?_
    ·
     refine w_snd (r := v64) (σ' := ⟨[(26, (Enc.cells (x1 : Trc))), (43, (Enc.cells (x3 : En))), (26, [.list 0 [] .full, .raw (.int .u8 0), .raw (.int .i64 0)])], [], [], 0, false⟩) (cloneT_nil x1.l hc1 _) rfl rfl ⟨rfl, rfl⟩ (by dsimp only [aput, List.set]) ?_
     exact aN_of n94 hS0 hps1
    ·
     refine w_mv ?_
     exact aN_of n95 hS0 hps1
   have n87 : N1 5 667 G1 := by
    refine aN_2 hops hS0 hps1 2 5 ?_ ?_
    ·
     refine w_snd (r := v64) (σ' := ⟨[(26, (Enc.cells (x1 : Trc))), (43, (Enc.cells (x3 : En))), (26, [.list 0 [] .full, .raw (.int .u8 0), .raw (.int .i64 0)])], [], [], 0, false⟩) (cloneT_nil x1.l hc1 _) rfl rfl ⟨rfl, rfl⟩ (by dsimp only [aput, List.set]) ?_
     exact aN_of n93 hS0 hps1
    ·
     refine w_op (a := v67) rfl rfl rfl (op_q (q_lit (α := En) (l := [x3]) (cs := Enc.cells (x3 : En) ++ []) rfl (by rw [Enc.cons, Enc.nil]))) (by dsimp only [aput, List.set]) ?_
     exact aN_of n95 hS0 hps1
   have n86 : N1 5 571 G1 := by
    refine aN_2 hops hS0 hps1 2 7 ?_ ?_
    ·
     refine w_snd (r := v64) (σ' := ⟨[(26, (Enc.cells (x1 : Trc))), (43, (Enc.cells (x3 : En))), (26, [.list 0 [] .full, .raw (.int .u8 0), .raw (.int .i64 0)])], [], [], 0, false⟩) (cloneT_nil x1.l hc1 _) rfl rfl ⟨rfl, rfl⟩ (by dsimp only [aput, List.set]) ?_
     exact aN_of n92 hS0 hps1
    ·
     refine w_op (a := v69) rfl rfl rfl rfl (by dsimp only [aput, List.set]) ?_
     exact aN_of n95 hS0 hps1
   have n85 : N0 5 187 G0 := by
    refine aN_2 hops hS0 hps0 2 9 ?_ ?_
    ·
     refine w_snd (r := v64) (σ' := ⟨[(26, (Enc.cells (x1 : Trc))), (43, (Enc.cells (x3 : En)))], [], [], 0, false⟩) (cloneT_nil x1.l hc1 _) rfl rfl ⟨rfl, rfl⟩ (by dsimp only [aput, List.set]) ?_
     exact aN_of n91 hS0 hps0
    ·
     refine w_opm (a := v13) (σ'' := G1) rfl rfl rfl rfl (by dsimp only [aput, List.set]) rfl ?_
     exact aN_of n95 hS0 hps1
   have n84 : N1 5 663 G1 := by
    refine aN_2 hops hS0 hps1 3 5 ?_ ?_
    ·
     refine w_mv ?_
     exact aN_of n93 hS0 hps1
    ·
     refine w_op (a := v67) rfl rfl rfl (op_q (q_lit (α := En) (l := [x3]) (cs := Enc.cells (x3 : En) ++ []) rfl (by rw [Enc.cons, Enc.nil]))) (by dsimp only [aput, List.set]) ?_
     exact aN_of n94 hS0 hps1
   have n83 : N1 5 567 G1 := by
    refine aN_2 hops hS0 hps1 3 7 ?_ ?_
    ·
     refine w_mv ?_
     exact aN_of n92 hS0 hps1
    ·
     refine w_op (a := v69) rfl rfl rfl rfl (by dsimp only [aput, List.set]) ?_
     exact aN_of n94 hS0 hps1
   have n82 : N0 5 183 G0 := by
    refine aN_2 hops hS0 hps0 3 9 ?_ ?_
    ·
     refine w_mv ?_
     exact aN_of n91 hS0 hps0
    ·
     refine w_opm (a := v13) (σ'' := G1) rfl rfl rfl rfl (by dsimp only [aput, List.set]) rfl ?_
     exact aN_of n94 hS0 hps1
   have n81 : N1 5 655 G1 := by
    refine aN_1 hops hS0 hps1 4 ?_
    ·
     refine w_op (a := v66) rfl rfl rfl rfl (by dsimp only [aput, List.set]) ?_
     exact aN_of n93 hS0 hps1
   have n80 : N1 5 543 G1 := by
    refine aN_2 hops hS0 hps1 5 7 ?_ ?_
    ·
     refine w_op (a := v67) rfl rfl rfl (op_q (q_lit (α := En) (l := [x3]) (cs := Enc.cells (x3 : En) ++ []) rfl (by rw [Enc.cons, Enc.nil]))) (by dsimp only [aput, List.set]) ?_
     exact aN_of n92 hS0 hps1
    ·
     refine w_op (a := v69) rfl rfl rfl rfl (by dsimp only [aput, List.set]) ?_
     exact aN_of n93 hS0 hps1
   have n79 : N0 5 159 G0 := by
    refine aN_2 hops hS0 hps0 5 9 ?_ ?_
    ·
     refine w_op (a := v67) rfl rfl rfl (op_q (q_lit (α := En) (l := [x3]) (cs := Enc.cells (x3 : En) ++ []) rfl (by rw [Enc.cons, Enc.nil]))) (by dsimp only [aput, List.set]) ?_
     exact aN_of n91 hS0 hps0
    ·
     refine w_opm (a := v13) (σ'' := G1) rfl rfl rfl rfl (by dsimp only [aput, List.set]) rfl ?_
     exact aN_of n93 hS0 hps1
   have n78 : N0 5 63 G0 := by
    refine aN_3 hops hS0 hps0 6 7 9 ?_ ?_ ?_
    ·
     refine w_snd (r := v68) (σ' := ⟨[(26, (Enc.cells (x1 : Trc))), (43, (Enc.cells (x3 : En))), (43, (Enc.cellsL ([x3] : List En)))], [], [], 0, false⟩) (insT_nil [x3] (Int.tmod at_ ((List.length x1.l : Int) + 1)) _ _ 2 g8 rfl) rfl rfl ⟨rfl, rfl⟩ (by dsimp only [aput, List.set]) ?_
     exact aN_of n90 hS0 hps0
    ·
     refine w_op (a := v69) rfl rfl rfl rfl (by dsimp only [aput, List.set]) ?_
     exact aN_of n91 hS0 hps0
    ·
     refine w_opm (a := v13) (σ'' := G1) rfl rfl rfl rfl (by dsimp only [aput, List.set]) rfl ?_
     exact aN_of n92 hS0 hps1
   have n77 : N1 6 696 G1 := by
    refine aN_1 hops hS0 hps1 0 ?_
    ·
     refine w_op (a := v62) rfl rfl rfl rfl (by dsimp only [aput, List.set]) ?_
     exact aN_of n89 hS0 hps1
   have n76 : N1 6 689 G1 := by
    refine aN_2 hops hS0 hps1 1 3 ?_ ?_
    ·
     refine w_op (a := v63) rfl rfl rfl rfl (by dsimp only [aput, List.set]) ?_
     exact aN_of n88 hS0 hps1
    ·
     refine w_mv ?_
     exact aN_of n89 hS0 hps1
   have n75 : N1 6 665 G1 := by
    refine aN_2 hops hS0 hps1 1 5 ?_ ?_
    ·
     refine w_op (a := v63) rfl rfl rfl rfl (by dsimp only [aput, List.set]) ?_
     exact aN_of n87 hS0 hps1
    ·
     refine w_op (a := v67) rfl rfl rfl (op_q (q_lit (α := En) (l := [x3]) (cs := Enc.cells (x3 : En) ++ []) rfl (by rw [Enc.cons, Enc.nil]))) (by dsimp only [aput, List.set]) ?_
     exact aN_of n89 hS0 hps1
   have n74 : N1 6 569 G1 := by
    refine aN_2 hops hS0 hps1 1 7 ?_ ?_
    ·
     refine w_op (a := v63) rfl rfl rfl rfl (by dsimp only [aput, List.set]) ?_
     exact aN_of n86 hS0 hps1
    ·
     refine w_op (a := v69) rfl rfl rfl rfl (by dsimp only [aput, List.set]) ?_
     exact aN_of n89 hS0 hps1
   have n73 : N0 6 185 G0 := by
    refine aN_2 hops hS0 hps0 1 9 ?_ ?_
    ·
     refine w_op (a := v63) rfl rfl rfl rfl (by dsimp only [aput, List.set]) ?_
     exact aN_of n85 hS0 hps0
    ·
     refine w_opm (a := v13) (σ'' := G1) rfl rfl rfl rfl (by dsimp only [aput, List.set]) rfl ?_
     exact aN_of n89 hS0 hps1
   have n72 : N1 6 659 G1 := by
    refine aN_3 hops hS0 hps1 2 3 5 ?_ ?_ ?_
    ·
     refine w_snd (r := v64) (σ' := ⟨[(26, (Enc.cells (x1 : Trc))), (43, (Enc.cells (x3 : En))), (26, [.list 0 [] .full, .raw (.int .u8 0), .raw (.int .i64 0)])], [], [], 0, false⟩) (cloneT_nil x1.l hc1 _) rfl rfl ⟨rfl, rfl⟩ (by dsimp only [aput, List.set]) ?_
     exact aN_of n84 hS0 hps1
    ·
     refine w_mv ?_
     exact aN_of n87 hS0 hps1
    ·
     refine w_op (a := v67) rfl rfl rfl (op_q (q_lit (α := En) (l := [x3]) (cs := Enc.cells (x3 : En) ++ []) rfl (by rw [Enc.cons, Enc.nil]))) (by dsimp only [aput, List.set]) ?_
     exact aN_of n88 hS0 hps1
   have n71 : N1 6 563 G1 := by
    refine aN_3 hops hS0 hps1 2 3 7 ?_ ?_ ?_
    ·
     refine w_snd (r := v64) (σ' := ⟨[(26, (Enc.cells (x1 : Trc))), (43, (Enc.cells (x3 : En))), (26, [.list 0 [] .full, .raw (.int .u8 0), .raw (.int .i64 0)])], [], [], 0, false⟩) (cloneT_nil x1.l hc1 _) rfl rfl ⟨rfl, rfl⟩ (by dsimp only [aput, List.set]) ?_
     exact aN_of n83 hS0 hps1
    ·
     refine w_mv ?_
     exact aN_of n86 hS0 hps1
    ·
     refine w_op (a := v69) rfl rfl rfl rfl (by dsimp only [aput, List.set]) ?_
     exact aN_of n88 hS0 hps1
   have n70 : N0 6 179 G0 := by
    refine aN_3 hops hS0 hps0 2 3 9 ?_ ?_ ?_
    ·
     refine w_snd (r := v64) (σ' := ⟨[(26, (Enc.cells (x1 : Trc))), (43, (Enc.cells (x3 : En)))], [], [], 0, false⟩) (cloneT_nil x1.l hc1 _) rfl rfl ⟨rfl, rfl⟩ (by dsimp only [aput, List.set]) ?_
     exact aN_of n82 hS0 hps0
    ·
     refine w_mv ?_
     exact aN_of n85 hS0 hps0
    ·
     refine w_opm (a := v13) (σ'' := G1) rfl rfl rfl rfl (by dsimp only [aput, List.set]) rfl ?_
     exact aN_of n88 hS0 hps1
   have n69 : N1 6 651 G1 := by
    refine aN_2 hops hS0 hps1 2 4 ?_ ?_
    ·
     refine w_snd (r := v64) (σ' := ⟨[(26, (Enc.cells (x1 : Trc))), (43, (Enc.cells (x3 : En))), (26, [.list 0 [] .full, .raw (.int .u8 0), .raw (.int .i64 0)])], [], [], 0, false⟩) (cloneT_nil x1.l hc1 _) rfl rfl ⟨rfl, rfl⟩ (by dsimp only [aput, List.set]) ?_
     exact aN_of n81 hS0 hps1
    ·
     refine w_op (a := v66) rfl rfl rfl rfl (by dsimp only [aput, List.set]) ?_
     exact aN_of n87 hS0 hps1
   have n68 : N1 6 539 G1 := by
    refine aN_3 hops hS0 hps1 2 5 7 ?_ ?_ ?_
    ·
     refine w_snd (r := v64) (σ' := ⟨[(26, (Enc.cells (x1 : Trc))), (43, (Enc.cells (x3 : En))), (26, [.list 0 [] .full, .raw (.int .u8 0), .raw (.int .i64 0)])], [], [], 0, false⟩) (cloneT_nil x1.l hc1 _) rfl rfl ⟨rfl, rfl⟩ (by dsimp only [aput, List.set]) ?_
     exact aN_of n80 hS0 hps1
    ·
     refine w_op (a := v67) rfl rfl rfl (op_q (q_lit (α := En) (l := [x3]) (cs := Enc.cells (x3 : En) ++ []) rfl (by rw [Enc.cons, Enc.nil]))) (by dsimp only [aput, List.set]) ?_
     exact aN_of n86 hS0 hps1
    ·
     refine w_op (a := v69) rfl rfl rfl rfl (by dsimp only [aput, List.set]) ?_
     exact aN_of n87 hS0 hps1
   have n67 : N0 6 155 G0 := by
    refine aN_3 hops hS0 hps0 2 5 9 ?_ ?_ ?_
    ·
     refine w_snd (r := v64) (σ' := ⟨[(26, (Enc.cells (x1 : Trc))), (43, (Enc.cells (x3 : En)))], [], [], 0, false⟩) (cloneT_nil x1.l hc1 _) rfl rfl ⟨rfl, rfl⟩ (by dsimp only [aput, List.set]) ?_
     exact aN_of n79 hS0 hps0
    ·
     refine w_op (a := v67) rfl rfl rfl (op_q (q_lit (α := En) (l := [x3]) (cs := Enc.cells (x3 : En) ++ []) rfl (by rw [Enc.cons, Enc.nil]))) (by dsimp only [aput, List.set]) ?_
     exact aN_of n85 hS0 hps0
    ·
     refine w_opm (a := v13) (σ'' := G1) rfl rfl rfl rfl (by dsimp only [aput, List.set]) rfl ?_
     exact aN_of n87 hS0 hps1
   have n66 : N0 6 59 G0 := by
    refine aN_3 hops hS0 hps0 2 7 9 ?_ ?_ ?_
    ·
     refine w_snd (r := v64) (σ' := ⟨[(26, (Enc.cells (x1 : Trc))), (43, (Enc.cells (x3 : En)))], [], [], 0, false⟩) (cloneT_nil x1.l hc1 _) rfl rfl ⟨rfl, rfl⟩ (by dsimp only [aput, List.set]) ?_
     exact aN_of n78 hS0 hps0
    ·
     refine w_op (a := v69) rfl rfl rfl rfl (by dsimp only [aput, List.set]) ?_
     exact aN_of n85 hS0 hps0
    ·
     refine w_opm (a := v13) (σ'' := G1) rfl rfl rfl rfl (by dsimp only [aput, List.set]) rfl ?_
     exact aN_of n86 hS0 hps1
   have n65 : N1 6 647 G1 := by
    refine aN_2 hops hS0 hps1 3 4 ?_ ?_
    ·
     refine w_mv ?_
     exact aN_of n81 hS0 hps1
    ·
     refine w_op (a := v66) rfl rfl rfl rfl (by dsimp only [aput, List.set]) ?_
     exact aN_of n84 hS0 hps1
   have n64 : N1 6 535 G1 := by
    refine aN_3 hops hS0 hps1 3 5 7 ?_ ?_ ?_
    ·
     refine w_mv ?_
     exact aN_of n80 hS0 hps1
    ·
     refine w_op (a := v67) rfl rfl rfl (op_q (q_lit (α := En) (l := [x3]) (cs := Enc.cells (x3 : En) ++ []) rfl (by rw [Enc.cons, Enc.nil]))) (by dsimp only [aput, List.set]) ?_
     exact aN_of n83 hS0 hps1
    ·
     refine w_op (a := v69) rfl rfl rfl rfl (by dsimp only [aput, List.set]) ?_
     exact aN_of n84 hS0 hps1
   have n63 : N0 6 151 G0 := by
    refine aN_3 hops hS0 hps0 3 5 9 ?_ ?_ ?_
    ·
     refine w_mv ?_
     exact aN_of n79 hS0 hps0
    ·
     refine w_op (a := v67) rfl rfl rfl (op_q (q_lit (α := En) (l := [x3]) (cs := Enc.cells (x3 : En) ++ []) rfl (by rw [Enc.cons, Enc.nil]))) (by dsimp only [aput, List.set]) ?_
     exact aN_of n82 hS0 hps0
    ·
     refine w_opm (a := v13) (σ'' := G1) rfl rfl rfl rfl (by dsimp only [aput, List.set]) rfl ?_
     exact aN_of n84 hS0 hps1
   have n62 : N0 6 55 G0 := by
    refine aN_3 hops hS0 hps0 3 7 9 ?_ ?_ ?_
    ·
     refine w_mv ?_
     exact aN_of n78 hS0 hps0
    ·
     refine w_op (a := v69) rfl rfl rfl rfl (by dsimp only [aput, List.set]) ?_
     exact aN_of n82 hS0 hps0
    ·
     refine w_opm (a := v13) (σ'' := G1) rfl rfl rfl rfl (by dsimp only [aput, List.set]) rfl ?_
     exact aN_of n83 hS0 hps1
   have n61 : N1 6 527 G1 := by
    refine aN_2 hops hS0 hps1 4 7 ?_ ?_
    ·
     refine w_op (a := v66) rfl rfl rfl rfl (by dsimp only [aput, List.set]) ?_
     exact aN_of n80 hS0 hps1
    ·
     refine w_op (a := v69) rfl rfl rfl rfl (by dsimp only [aput, List.set]) ?_
     exact aN_of n81 hS0 hps1
   have n60 : N0 6 143 G0 := by
    refine aN_2 hops hS0 hps0 4 9 ?_ ?_
    ·
     refine w_op (a := v66) rfl rfl rfl rfl (by dsimp only [aput, List.set]) ?_
     exact aN_of n79 hS0 hps0
    ·
     refine w_opm (a := v13) (σ'' := G1) rfl rfl rfl rfl (by dsimp only [aput, List.set]) rfl ?_
     exact aN_of n81 hS0 hps1
   have n59 : N0 6 31 G0 := by
    refine aN_3 hops hS0 hps0 5 7 9 ?_ ?_ ?_
    ·
     refine w_op (a := v67) rfl rfl rfl (op_q (q_lit (α := En) (l := [x3]) (cs := Enc.cells (x3 : En) ++ []) rfl (by rw [Enc.cons, Enc.nil]))) (by dsimp only [aput, List.set]) ?_
     exact aN_of n78 hS0 hps0
    ·
     refine w_op (a := v69) rfl rfl rfl rfl (by dsimp only [aput, List.set]) ?_
     exact aN_of n79 hS0 hps0
    ·
     refine w_opm (a := v13) (σ'' := G1) rfl rfl rfl rfl (by dsimp only [aput, List.set]) rfl ?_
     exact aN_of n80 hS0 hps1
   have n58 : N1 7 688 G1 := by
    refine aN_2 hops hS0 hps1 0 3 ?_ ?_
    ·
     refine w_op (a := v62) rfl rfl rfl rfl (by dsimp only [aput, List.set]) ?_
     exact aN_of n76 hS0 hps1
    ·
     refine w_mv ?_
     exact aN_of n77 hS0 hps1
   have n57 : N1 7 664 G1 := by
    refine aN_2 hops hS0 hps1 0 5 ?_ ?_
    ·
     refine w_op (a := v62) rfl rfl rfl rfl (by dsimp only [aput, List.set]) ?_
     exact aN_of n75 hS0 hps1
    ·
     refine w_op (a := v67) rfl rfl rfl (op_q (q_lit (α := En) (l := [x3]) (cs := Enc.cells (x3 : En) ++ []) rfl (by rw [Enc.cons, Enc.nil]))) (by dsimp only [aput, List.set]) ?_
     exact aN_of n77 hS0 hps1
   have n56 : N1 7 568 G1 := by
    refine aN_2 hops hS0 hps1 0 7 ?_ ?_
    ·
     refine w_op (a := v62) rfl rfl rfl rfl (by dsimp only [aput, List.set]) ?_
     exact aN_of n74 hS0 hps1
    ·
     refine w_op (a := v69) rfl rfl rfl rfl (by dsimp only [aput, List.set]) ?_
     exact aN_of n77 hS0 hps1
   have n55 : N0 7 184 G0 := by
    refine aN_2 hops hS0 hps0 0 9 ?_ ?_
    ·
     refine w_op (a := v62) rfl rfl rfl rfl (by dsimp only [aput, List.set]) ?_
     exact aN_of n73 hS0 hps0
    ·
     refine w_opm (a := v13) (σ'' := G1) rfl rfl rfl rfl (by dsimp only [aput, List.set]) rfl ?_
     exact aN_of n77 hS0 hps1
   have n54 : N1 7 657 G1 := by
    refine aN_3 hops hS0 hps1 1 3 5 ?_ ?_ ?_
    ·
     refine w_op (a := v63) rfl rfl rfl rfl (by dsimp only [aput, List.set]) ?_
     exact aN_of n72 hS0 hps1
    ·
     refine w_mv ?_
     exact aN_of n75 hS0 hps1
    ·
     refine w_op (a := v67) rfl rfl rfl (op_q (q_lit (α := En) (l := [x3]) (cs := Enc.cells (x3 : En) ++ []) rfl (by rw [Enc.cons, Enc.nil]))) (by dsimp only [aput, List.set]) ?_
     exact aN_of n76 hS0 hps1
   have n53 : N1 7 561 G1 := by
    refine aN_3 hops hS0 hps1 1 3 7 ?_ ?_ ?_
    ·
     refine w_op (a := v63) rfl rfl rfl rfl (by dsimp only [aput, List.set]) ?_
     exact aN_of n71 hS0 hps1
    ·
     refine w_mv ?_
     exact aN_of n74 hS0 hps1
    ·
     refine w_op (a := v69) rfl rfl rfl rfl (by dsimp only [aput, List.set]) ?_
     exact aN_of n76 hS0 hps1
   have n52 : N0 7 177 G0 := by
    refine aN_3 hops hS0 hps0 1 3 9 ?_ ?_ ?_
    ·
     refine w_op (a := v63) rfl rfl rfl rfl (by dsimp only [aput, List.set]) ?_
     exact aN_of n70 hS0 hps0
    ·
     refine w_mv ?_
     exact aN_of n73 hS0 hps0
    ·
     refine w_opm (a := v13) (σ'' := G1) rfl rfl rfl rfl (by dsimp only [aput, List.set]) rfl ?_
     exact aN_of n76 hS0 hps1
   have n51 : N1 7 649 G1 := by
    refine aN_2 hops hS0 hps1 1 4 ?_ ?_
    ·
     refine w_op (a := v63) rfl rfl rfl rfl (by dsimp only [aput, List.set]) ?_
     exact aN_of n69 hS0 hps1
    ·
     refine w_op (a := v66) rfl rfl rfl rfl (by dsimp only [aput, List.set]) ?_
     exact aN_of n75 hS0 hps1
   have n50 : N1 7 537 G1 := by
    refine aN_3 hops hS0 hps1 1 5 7 ?_ ?_ ?_
    ·
     refine w_op (a := v63) rfl rfl rfl rfl (by dsimp only [aput, List.set]) ?_
     exact aN_of n68 hS0 hps1
    ·
     refine w_op (a := v67) rfl rfl rfl (op_q (q_lit (α := En) (l := [x3]) (cs := Enc.cells (x3 : En) ++ []) rfl (by rw [Enc.cons, Enc.nil]))) (by dsimp only [aput, List.set]) ?_
     exact aN_of n74 hS0 hps1
    ·
     refine w_op (a := v69) rfl rfl rfl rfl (by dsimp only [aput, List.set]) ?_
     exact aN_of n75 hS0 hps1
   have n49 : N0 7 153 G0 := by
    refine aN_3 hops hS0 hps0 1 5 9 ?_ ?_ ?_
    ·
     refine w_op (a := v63) rfl rfl rfl rfl (by dsimp only [aput, List.set]) ?_
     exact aN_of n67 hS0 hps0
    ·
     refine w_op (a := v67) rfl rfl rfl (op_q (q_lit (α := En) (l := [x3]) (cs := Enc.cells (x3 : En) ++ []) rfl (by rw [Enc.cons, Enc.nil]))) (by dsimp only [aput, List.set]) ?_
     exact aN_of n73 hS0 hps0
    ·
     refine w_opm (a := v13) (σ'' := G1) rfl rfl rfl rfl (by dsimp only [aput, List.set]) rfl ?_
     exact aN_of n75 hS0 hps1
   have n48 : N0 7 57 G0 := by
    refine aN_3 hops hS0 hps0 1 7 9 ?_ ?_ ?_
    ·
     refine w_op (a := v63) rfl rfl rfl rfl (by dsimp only [aput, List.set]) ?_
     exact aN_of n66 hS0 hps0
    ·
     refine w_op (a := v69) rfl rfl rfl rfl (by dsimp only [aput, List.set]) ?_
     exact aN_of n73 hS0 hps0
    ·
     refine w_opm (a := v13) (σ'' := G1) rfl rfl rfl rfl (by dsimp only [aput, List.set]) rfl ?_
     exact aN_of n74 hS0 hps1
   have n47 : N1 7 643 G1 := by
    refine aN_3 hops hS0 hps1 2 3 4 ?_ ?_ ?_
    ·
     refine w_snd (r := v64) (σ' := ⟨[(26, (Enc.cells (x1 : Trc))), (43, (Enc.cells (x3 : En))), (26, [.list 0 [] .full, .raw (.int .u8 0), .raw (.int .i64 0)])], [], [], 0, false⟩) (cloneT_nil x1.l hc1 _) rfl rfl ⟨rfl, rfl⟩ (by dsimp only [aput, List.set]) ?_
     exact aN_of n65 hS0 hps1
    ·
     refine w_mv ?_
     exact aN_of n69 hS0 hps1
    ·
     refine w_op (a := v66) rfl rfl rfl rfl (by dsimp only [aput, List.set]) ?_
     exact aN_of n72 hS0 hps1
   have n46 : N1 7 531 G1 := by
    refine aN_n hops hS0 hps1 [2, 3, 5, 7] (all_cons (aopAt_l hops rfl ?_) (all_cons (aopAt_l hops rfl ?_) (all_cons (aopAt_l hops rfl ?_) (all_cons (aopAt_l hops rfl ?_) all_nil))))
    ·
     refine w_snd (r := v64) (σ' := ⟨[(26, (Enc.cells (x1 : Trc))), (43, (Enc.cells (x3 : En))), (26, [.list 0 [] .full, .raw (.int .u8 0), .raw (.int .i64 0)])], [], [], 0, false⟩) (cloneT_nil x1.l hc1 _) rfl rfl ⟨rfl, rfl⟩ (by dsimp only [aput, List.set]) ?_
     exact aN_of n64 hS0 hps1
    ·
     refine w_mv ?_
     exact aN_of n68 hS0 hps1
    ·
     refine w_op (a := v67) rfl rfl rfl (op_q (q_lit (α := En) (l := [x3]) (cs := Enc.cells (x3 : En) ++ []) rfl (by rw [Enc.cons, Enc.nil]))) (by dsimp only [aput, List.set]) ?_
     exact aN_of n71 hS0 hps1
    ·
     refine w_op (a := v69) rfl rfl rfl rfl (by dsimp only [aput, List.set]) ?_
     exact aN_of n72 hS0 hps1
   have n45 : N0 7 147 G0 := by
    refine aN_n hops hS0 hps0 [2, 3, 5, 9] (all_cons (aopAt_l hops rfl ?_) (all_cons (aopAt_l hops rfl ?_) (all_cons (aopAt_l hops rfl ?_) (all_cons (aopAt_l hops rfl ?_) all_nil))))
    ·
     refine w_snd (r := v64) (σ' := ⟨[(26, (Enc.cells (x1 : Trc))), (43, (Enc.cells (x3 : En)))], [], [], 0, false⟩) (cloneT_nil x1.l hc1 _) rfl rfl ⟨rfl, rfl⟩ (by dsimp only [aput, List.set]) ?_
     exact aN_of n63 hS0 hps0
    ·
     refine w_mv ?_
     exact aN_of n67 hS0 hps0
    ·
     refine w_op (a := v67) rfl rfl rfl (op_q (q_lit (α := En) (l := [x3]) (cs := Enc.cells (x3 : En) ++ []) rfl (by rw [Enc.cons, Enc.nil]))) (by dsimp only [aput, List.set]) ?_
     exact aN_of n70 hS0 hps0
    ·
     refine w_opm (a := v13) (σ'' := G1) rfl rfl rfl rfl (by dsimp only [aput, List.set]) rfl ?_
     exact aN_of n72 hS0 hps1
   have n44 : N0 7 51 G0 := by
    refine aN_n hops hS0 hps0 [2, 3, 7, 9] (all_cons (aopAt_l hops rfl ?_) (all_cons (aopAt_l hops rfl ?_) (all_cons (aopAt_l hops rfl ?_) (all_cons (aopAt_l hops rfl ?_) all_nil))))
    ·
     refine w_snd (r := v64) (σ' := ⟨[(26, (Enc.cells (x1 : Trc))), (43, (Enc.cells (x3 : En)))], [], [], 0, false⟩) (cloneT_nil x1.l hc1 _) rfl rfl ⟨rfl, rfl⟩ (by dsimp only [aput, List.set]) ?_
     exact aN_of n62 hS0 hps0
    ·
     refine w_mv ?_
     exact aN_of n66 hS0 hps0
    ·
     refine w_op (a := v69) rfl rfl rfl rfl (by dsimp only [aput, List.set]) ?_
     exact aN_of n70 hS0 hps0
    ·
     refine w_opm (a := v13) (σ'' := G1) rfl rfl rfl rfl (by dsimp only [aput, List.set]) rfl ?_
     exact aN_of n71 hS0 hps1
   have n43 : N1 7 523 G1 := by
    refine aN_3 hops hS0 hps1 2 4 7 ?_ ?_ ?_
    ·
     refine w_snd (r := v64) (σ' := ⟨[(26, (Enc.cells (x1 : Trc))), (43, (Enc.cells (x3 : En))), (26, [.list 0 [] .full, .raw (.int .u8 0), .raw (.int .i64 0)])], [], [], 0, false⟩) (cloneT_nil x1.l hc1 _) rfl rfl ⟨rfl, rfl⟩ (by dsimp only [aput, List.set]) ?_
     exact aN_of n61 hS0 hps1
    ·
     refine w_op (a := v66) rfl rfl rfl rfl (by dsimp only [aput, List.set]) ?_
     exact aN_of n68 hS0 hps1
    ·
     refine w_op (a := v69) rfl rfl rfl rfl (by dsimp only [aput, List.set]) ?_
     exact aN_of n69 hS0 hps1
   have n42 : N0 7 139 G0 := by
    refine aN_3 hops hS0 hps0 2 4 9 ?_ ?_ ?_
    ·
     refine w_snd (r := v64) (σ' := ⟨[(26, (Enc.cells (x1 : Trc))), (43, (Enc.cells (x3 : En)))], [], [], 0, false⟩) (cloneT_nil x1.l hc1 _) rfl rfl ⟨rfl, rfl⟩ (by dsimp only [aput, List.set]) ?_
     exact aN_of n60 hS0 hps0
    ·
     refine w_op (a := v66) rfl rfl rfl rfl (by dsimp only [aput, List.set]) ?_
     exact aN_of n67 hS0 hps0
    ·
     refine w_opm (a := v13) (σ'' := G1) rfl rfl rfl rfl (by dsimp only [aput, List.set]) rfl ?_
     exact aN_of n69 hS0 hps1
   have n41 : N0 7 27 G0 := by
    refine aN_n hops hS0 hps0 [2, 5, 7, 9] (all_cons (aopAt_l hops rfl ?_) (all_cons (aopAt_l hops rfl ?_) (all_cons (aopAt_l hops rfl ?_) (all_cons (aopAt_l hops rfl ?_) all_nil))))
    ·
     refine w_snd (r := v64) (σ' := ⟨[(26, (Enc.cells (x1 : Trc))), (43, (Enc.cells (x3 : En)))], [], [], 0, false⟩) (cloneT_nil x1.l hc1 _) rfl rfl ⟨rfl, rfl⟩ (by dsimp only [aput, List.set]) ?_
     exact aN_of n59 hS0 hps0
    ·
     refine w_op (a := v67) rfl rfl rfl (op_q (q_lit (α := En) (l := [x3]) (cs := Enc.cells (x3 : En) ++ []) rfl (by rw [Enc.cons, Enc.nil]))) (by dsimp only [aput, List.set]) ?_
     exact aN_of n66 hS0 hps0
    ·
     refine w_op (a := v69) rfl rfl rfl rfl (by dsimp only [aput, List.set]) ?_
     exact aN_of n67 hS0 hps0
    ·
     refine w_opm (a := v13) (σ'' := G1) rfl rfl rfl rfl (by dsimp only [aput, List.set]) rfl ?_
     exact aN_of n68 hS0 hps1
   have n40 : N1 7 519 G1 := by
    refine aN_3 hops hS0 hps1 3 4 7 ?_ ?_ ?_
    ·
     refine w_mv ?_
     exact aN_of n61 hS0 hps1
    ·
     refine w_op (a := v66) rfl rfl rfl rfl (by dsimp only [aput, List.set]) ?_
     exact aN_of n64 hS0 hps1
    ·
     refine w_op (a := v69) rfl rfl rfl rfl (by dsimp only [aput, List.set]) ?_
     exact aN_of n65 hS0 hps1
   have n39 : N0 7 135 G0 := by
    refine aN_3 hops hS0 hps0 3 4 9 ?_ ?_ ?_
    ·
     refine w_mv ?_
     exact aN_of n60 hS0 hps0
    ·
     refine w_op (a := v66) rfl rfl rfl rfl (by dsimp only [aput, List.set]) ?_
     exact aN_of n63 hS0 hps0
    ·
     refine w_opm (a := v13) (σ'' := G1) rfl rfl rfl rfl (by dsimp only [aput, List.set]) rfl ?_
     exact aN_of n65 hS0 hps1
   have n38 : N0 7 23 G0 := by
    refine aN_n hops hS0 hps0 [3, 5, 7, 9] (all_cons (aopAt_l hops rfl ?_) (all_cons (aopAt_l hops rfl ?_) (all_cons (aopAt_l hops rfl ?_) (all_cons (aopAt_l hops rfl ?_) all_nil))))
    ·
     refine w_mv ?_
     exact aN_of n59 hS0 hps0
    ·
     refine w_op (a := v67) rfl rfl rfl (op_q (q_lit (α := En) (l := [x3]) (cs := Enc.cells (x3 : En) ++ []) rfl (by rw [Enc.cons, Enc.nil]))) (by dsimp only [aput, List.set]) ?_
     exact aN_of n62 hS0 hps0
    ·
     refine w_op (a := v69) rfl rfl rfl rfl (by dsimp only [aput, List.set]) ?_
     exact aN_of n63 hS0 hps0
    ·
     refine w_opm (a := v13) (σ'' := G1) rfl rfl rfl rfl (by dsimp only [aput, List.set]) rfl ?_
     exact aN_of n64 hS0 hps1
   have n37 : N0 7 15 G0 := by
    refine aN_3 hops hS0 hps0 4 7 9 ?_ ?_ ?_
    ·
     refine w_op (a := v66) rfl rfl rfl rfl (by dsimp only [aput, List.set]) ?_
     exact aN_of n59 hS0 hps0
    ·
     refine w_op (a := v69) rfl rfl rfl rfl (by dsimp only [aput, List.set]) ?_
     exact aN_of n60 hS0 hps0
    ·
     refine w_opm (a := v13) (σ'' := G1) rfl rfl rfl rfl (by dsimp only [aput, List.set]) rfl ?_
     exact aN_of n61 hS0 hps1
   have n36 : N1 8 656 G1 := by
    refine aN_3 hops hS0 hps1 0 3 5 ?_ ?_ ?_
    ·
     refine w_op (a := v62) rfl rfl rfl rfl (by dsimp only [aput, List.set]) ?_
     exact aN_of n54 hS0 hps1
    ·
     refine w_mv ?_
     exact aN_of n57 hS0 hps1
    ·
     refine w_op (a := v67) rfl rfl rfl (op_q (q_lit (α := En) (l := [x3]) (cs := Enc.cells (x3 : En) ++ []) rfl (by rw [Enc.cons, Enc.nil]))) (by dsimp only [aput, List.set]) ?_
     exact aN_of n58 hS0 hps1
   have n35 : N1 8 560 G1 := by
    refine aN_3 hops hS0 hps1 0 3 7 ?_ ?_ ?_
    ·
     refine w_op (a := v62) rfl rfl rfl rfl (by dsimp only [aput, List.set]) ?_
     exact aN_of n53 hS0 hps1
    ·
     refine w_mv ?_
     exact aN_of n56 hS0 hps1
    ·
     refine w_op (a := v69) rfl rfl rfl rfl (by dsimp only [aput, List.set]) ?_
     exact aN_of n58 hS0 hps1
   have n34 : N0 8 176 G0 := by
    refine aN_3 hops hS0 hps0 0 3 9 ?_ ?_ ?_
    ·
     refine w_op (a := v62) rfl rfl rfl rfl (by dsimp only [aput, List.set]) ?_
     exact aN_of n52 hS0 hps0
    ·
     refine w_mv ?_
     exact aN_of n55 hS0 hps0
    ·
     refine w_opm (a := v13) (σ'' := G1) rfl rfl rfl rfl (by dsimp only [aput, List.set]) rfl ?_
     exact aN_of n58 hS0 hps1
   have n33 : N1 8 648 G1 := by
    refine aN_2 hops hS0 hps1 0 4 ?_ ?_
    ·
     refine w_op (a := v62) rfl rfl rfl rfl (by dsimp only [aput, List.set]) ?_
     exact aN_of n51 hS0 hps1
    ·
     refine w_op (a := v66) rfl rfl rfl rfl (by dsimp only [aput, List.set]) ?_
     exact aN_of n57 hS0 hps1
   have n32 : N1 8 536 G1 := by
    refine aN_3 hops hS0 hps1 0 5 7 ?_ ?_ ?_
    ·
     refine w_op (a := v62) rfl rfl rfl rfl (by dsimp only [aput, List.set]) ?_
     exact aN_of n50 hS0 hps1
    ·
     refine w_op (a := v67) rfl rfl rfl (op_q (q_lit (α := En) (l := [x3]) (cs := Enc.cells (x3 : En) ++ []) rfl (by rw [Enc.cons, Enc.nil]))) (by dsimp only [aput, List.set]) ?_
     exact aN_of n56 hS0 hps1
    ·
     refine w_op (a := v69) rfl rfl rfl rfl (by dsimp only [aput, List.set]) ?_
     exact aN_of n57 hS0 hps1
   have n31 : N0 8 152 G0 := by
    refine aN_3 hops hS0 hps0 0 5 9 ?_ ?_ ?_
    ·
     refine w_op (a := v62) rfl rfl rfl rfl (by dsimp only [aput, List.set]) ?_
     exact aN_of n49 hS0 hps0
    ·
     refine w_op (a := v67) rfl rfl rfl (op_q (q_lit (α := En) (l := [x3]) (cs := Enc.cells (x3 : En) ++ []) rfl (by rw [Enc.cons, Enc.nil]))) (by dsimp only [aput, List.set]) ?_
     exact aN_of n55 hS0 hps0
    ·
     refine w_opm (a := v13) (σ'' := G1) rfl rfl rfl rfl (by dsimp only [aput, List.set]) rfl ?_
     exact aN_of n57 hS0 hps1
   have n30 : N0 8 56 G0 := by
    refine aN_3 hops hS0 hps0 0 7 9 ?_ ?_ ?_
    ·
     refine w_op (a := v62) rfl rfl rfl rfl (by dsimp only [aput, List.set]) ?_
     exact aN_of n48 hS0 hps0
    ·
     refine w_op (a := v69) rfl rfl rfl rfl (by dsimp only [aput, List.set]) ?_
     exact aN_of n55 hS0 hps0
    ·
     refine w_opm (a := v13) (σ'' := G1) rfl rfl rfl rfl (by dsimp only [aput, List.set]) rfl ?_
     exact aN_of n56 hS0 hps1
   have n29 : N1 8 641 G1 := by
    refine aN_3 hops hS0 hps1 1 3 4 ?_ ?_ ?_
    ·
     refine w_op (a := v63) rfl rfl rfl rfl (by dsimp only [aput, List.set]) ?_
     exact aN_of n47 hS0 hps1
    ·
     refine w_mv ?_
     exact aN_of n51 hS0 hps1
    ·
     refine w_op (a := v66) rfl rfl rfl rfl (by dsimp only [aput, List.set]) ?_
     exact aN_of n54 hS0 hps1
   have n28 : N1 8 529 G1 := by
    refine aN_n hops hS0 hps1 [1, 3, 5, 7] (all_cons (aopAt_l hops rfl ?_) (all_cons (aopAt_l hops rfl ?_) (all_cons (aopAt_l hops rfl ?_) (all_cons (aopAt_l hops rfl ?_) all_nil))))
    ·
     refine w_op (a := v63) rfl rfl rfl rfl (by dsimp only [aput, List.set]) ?_
     exact aN_of n46 hS0 hps1
    ·
     refine w_mv ?_
     exact aN_of n50 hS0 hps1
    ·
     refine w_op (a := v67) rfl rfl rfl (op_q (q_lit (α := En) (l := [x3]) (cs := Enc.cells (x3 : En) ++ []) rfl (by rw [Enc.cons, Enc.nil]))) (by dsimp only [aput, List.set]) ?_
     exact aN_of n53 hS0 hps1
    ·
     refine w_op (a := v69) rfl rfl rfl rfl (by dsimp only [aput, List.set]) ?_
     exact aN_of n54 hS0 hps1
   have n27 : N0 8 145 G0 := by
    refine aN_n hops hS0 hps0 [1, 3, 5, 9] (all_cons (aopAt_l hops rfl ?_) (all_cons (aopAt_l hops rfl ?_) (all_cons (aopAt_l hops rfl ?_) (all_cons (aopAt_l hops rfl ?_) all_nil))))
    ·
     refine w_op (a := v63) rfl rfl rfl rfl (by dsimp only [aput, List.set]) ?_
     exact aN_of n45 hS0 hps0
    ·
     refine w_mv ?_
     exact aN_of n49 hS0 hps0
    ·
     refine w_op (a := v67) rfl rfl rfl (op_q (q_lit (α := En) (l := [x3]) (cs := Enc.cells (x3 : En) ++ []) rfl (by rw [Enc.cons, Enc.nil]))) (by dsimp only [aput, List.set]) ?_
     exact aN_of n52 hS0 hps0
    ·
     refine w_opm (a := v13) (σ'' := G1) rfl rfl rfl rfl (by dsimp only [aput, List.set]) rfl ?_
     exact aN_of n54 hS0 hps1
   have n26 : N0 8 49 G0 := by
    refine aN_n hops hS0 hps0 [1, 3, 7, 9] (all_cons (aopAt_l hops rfl ?_) (all_cons (aopAt_l hops rfl ?_) (all_cons (aopAt_l hops rfl ?_) (all_cons (aopAt_l hops rfl ?_) all_nil))))
    ·
     refine w_op (a := v63) rfl rfl rfl rfl (by dsimp only [aput, List.set]) ?_
     exact aN_of n44 hS0 hps0
    ·
     refine w_mv ?_
     exact aN_of n48 hS0 hps0
    ·
     refine w_op (a := v69) rfl rfl rfl rfl (by dsimp only [aput, List.set]) ?_
     exact aN_of n52 hS0 hps0
    ·
     refine w_opm (a := v13) (σ'' := G1) rfl rfl rfl rfl (by dsimp only [aput, List.set]) rfl ?_
     exact aN_of n53 hS0 hps1
   have n25 : N1 8 521 G1 := by
    refine aN_3 hops hS0 hps1 1 4 7 ?_ ?_ ?_
    ·
     refine w_op (a := v63) rfl rfl rfl rfl (by dsimp only [aput, List.set]) ?_
     exact aN_of n43 hS0 hps1
    ·
     refine w_op (a := v66) rfl rfl rfl rfl (by dsimp only [aput, List.set]) ?_
     exact aN_of n50 hS0 hps1
    ·
     refine w_op (a := v69) rfl rfl rfl rfl (by dsimp only [aput, List.set]) ?_
     exact aN_of n51 hS0 hps1
   have n24 : N0 8 137 G0 := by
    refine aN_3 hops hS0 hps0 1 4 9 ?_ ?_ ?_
    ·
     refine w_op (a := v63) rfl rfl rfl rfl (by dsimp only [aput, List.set]) ?_
     exact aN_of n42 hS0 hps0
    ·
     refine w_op (a := v66) rfl rfl rfl rfl (by dsimp only [aput, List.set]) ?_
     exact aN_of n49 hS0 hps0
    ·
     refine w_opm (a := v13) (σ'' := G1) rfl rfl rfl rfl (by dsimp only [aput, List.set]) rfl ?_
     exact aN_of n51 hS0 hps1
   have n23 : N0 8 25 G0 := by
    refine aN_n hops hS0 hps0 [1, 5, 7, 9] (all_cons (aopAt_l hops rfl ?_) (all_cons (aopAt_l hops rfl ?_) (all_cons (aopAt_l hops rfl ?_) (all_cons (aopAt_l hops rfl ?_) all_nil))))
    ·
     refine w_op (a := v63) rfl rfl rfl rfl (by dsimp only [aput, List.set]) ?_
     exact aN_of n41 hS0 hps0
    ·
     refine w_op (a := v67) rfl rfl rfl (op_q (q_lit (α := En) (l := [x3]) (cs := Enc.cells (x3 : En) ++ []) rfl (by rw [Enc.cons, Enc.nil]))) (by dsimp only [aput, List.set]) ?_
     exact aN_of n48 hS0 hps0
    ·
     refine w_op (a := v69) rfl rfl rfl rfl (by dsimp only [aput, List.set]) ?_
     exact aN_of n49 hS0 hps0
    ·
     refine w_opm (a := v13) (σ'' := G1) rfl rfl rfl rfl (by dsimp only [aput, List.set]) rfl ?_
     exact aN_of n50 hS0 hps1
   have n22 : N1 8 515 G1 := by
    refine aN_n hops hS0 hps1 [2, 3, 4, 7] (all_cons (aopAt_l hops rfl ?_) (all_cons (aopAt_l hops rfl ?_) (all_cons (aopAt_l hops rfl ?_) (all_cons (aopAt_l hops rfl ?_) all_nil))))
    ·
     refine w_snd (r := v64) (σ' := ⟨[(26, (Enc.cells (x1 : Trc))), (43, (Enc.cells (x3 : En))), (26, [.list 0 [] .full, .raw (.int .u8 0), .raw (.int .i64 0)])], [], [], 0, false⟩) (cloneT_nil x1.l hc1 _) rfl rfl ⟨rfl, rfl⟩ (by dsimp only [aput, List.set]) ?_
     exact aN_of n40 hS0 hps1
    ·
     refine w_mv ?_
     exact aN_of n43 hS0 hps1
    ·
     refine w_op (a := v66) rfl rfl rfl rfl (by dsimp only [aput, List.set]) ?_
     exact aN_of n46 hS0 hps1
    ·
     refine w_op (a := v69) rfl rfl rfl rfl (by dsimp only [aput, List.set]) ?_
     exact aN_of n47 hS0 hps1
   have n21 : N0 8 131 G0 := by
    refine aN_n hops hS0 hps0 [2, 3, 4, 9] (all_cons (aopAt_l hops rfl ?_) (all_cons (aopAt_l hops rfl ?_) (all_cons (aopAt_l hops rfl ?_) (all_cons (aopAt_l hops rfl ?_) all_nil))))
    ·
     refine w_snd (r := v64) (σ' := ⟨[(26, (Enc.cells (x1 : Trc))), (43, (Enc.cells (x3 : En)))], [], [], 0, false⟩) (cloneT_nil x1.l hc1 _) rfl rfl ⟨rfl, rfl⟩ (by dsimp only [aput, List.set]) ?_
     exact aN_of n39 hS0 hps0
    ·
     refine w_mv ?_
     exact aN_of n42 hS0 hps0
    ·
     refine w_op (a := v66) rfl rfl rfl rfl (by dsimp only [aput, List.set]) ?_
     exact aN_of n45 hS0 hps0
    ·
     refine w_opm (a := v13) (σ'' := G1) rfl rfl rfl rfl (by dsimp only [aput, List.set]) rfl ?_
     exact aN_of n47 hS0 hps1
   have n20 : N0 8 19 G0 := by
    refine aN_n hops hS0 hps0 [2, 3, 5, 7, 9] (all_cons (aopAt_l hops rfl ?_) (all_cons (aopAt_l hops rfl ?_) (all_cons (aopAt_l hops rfl ?_) (all_cons (aopAt_l hops rfl ?_) (all_cons (aopAt_l hops rfl ?_) all_nil)))))
    ·
     refine w_snd (r := v64) (σ' := ⟨[(26, (Enc.cells (x1 : Trc))), (43, (Enc.cells (x3 : En)))], [], [], 0, false⟩) (cloneT_nil x1.l hc1 _) rfl rfl ⟨rfl, rfl⟩ (by dsimp only [aput, List.set]) ?_
     exact aN_of n38 hS0 hps0
    ·
     refine w_mv ?_
     exact aN_of n41 hS0 hps0
    ·
     refine w_op (a := v67) rfl rfl rfl (op_q (q_lit (α := En) (l := [x3]) (cs := Enc.cells (x3 : En) ++ []) rfl (by rw [Enc.cons, Enc.nil]))) (by dsimp only [aput, List.set]) ?_
     exact aN_of n44 hS0 hps0
    ·
     refine w_op (a := v69) rfl rfl rfl rfl (by dsimp only [aput, List.set]) ?_
     exact aN_of n45 hS0 hps0
    ·
     refine w_opm (a := v13) (σ'' := G1) rfl rfl rfl rfl (by dsimp only [aput, List.set]) rfl ?_
     exact aN_of n46 hS0 hps1
   have n19 : N0 8 11 G0 := by
    refine aN_n hops hS0 hps0 [2, 4, 7, 9] (all_cons (aopAt_l hops rfl ?_) (all_cons (aopAt_l hops rfl ?_) (all_cons (aopAt_l hops rfl ?_) (all_cons (aopAt_l hops rfl ?_) all_nil))))
    ·
     refine w_snd (r := v64) (σ' := ⟨[(26, (Enc.cells (x1 : Trc))), (43, (Enc.cells (x3 : En)))], [], [], 0, false⟩) (cloneT_nil x1.l hc1 _) rfl rfl ⟨rfl, rfl⟩ (by dsimp only [aput, List.set]) ?_
     exact aN_of n37 hS0 hps0
    ·
     refine w_op (a := v66) rfl rfl rfl rfl (by dsimp only [aput, List.set]) ?_
     exact aN_of n41 hS0 hps0
    ·
     refine w_op (a := v69) rfl rfl rfl rfl (by dsimp only [aput, List.set]) ?_
     exact aN_of n42 hS0 hps0
    ·
     refine w_opm (a := v13) (σ'' := G1) rfl rfl rfl rfl (by dsimp only [aput, List.set]) rfl ?_
     exact aN_of n43 hS0 hps1
   have n18 : N0 8 7 G0 := by
    refine aN_n hops hS0 hps0 [3, 4, 7, 9] (all_cons (aopAt_l hops rfl ?_) (all_cons (aopAt_l hops rfl ?_) (all_cons (aopAt_l hops rfl ?_) (all_cons (aopAt_l hops rfl ?_) all_nil))))
    ·
     refine w_mv ?_
     exact aN_of n37 hS0 hps0
    ·
     refine w_op (a := v66) rfl rfl rfl rfl (by dsimp only [aput, List.set]) ?_
     exact aN_of n38 hS0 hps0
    ·
     refine w_op (a := v69) rfl rfl rfl rfl (by dsimp only [aput, List.set]) ?_
     exact aN_of n39 hS0 hps0
    ·
     refine w_opm (a := v13) (σ'' := G1) rfl rfl rfl rfl (by dsimp only [aput, List.set]) rfl ?_
     exact aN_of n40 hS0 hps1
   have n17 : N1 9 640 G1 := by
    refine aN_3 hops hS0 hps1 0 3 4 ?_ ?_ ?_
    ·
     refine w_op (a := v62) rfl rfl rfl rfl (by dsimp only [aput, List.set]) ?_
     exact aN_of n29 hS0 hps1
    ·
     refine w_mv ?_
     exact aN_of n33 hS0 hps1
    ·
     refine w_op (a := v66) rfl rfl rfl rfl (by dsimp only [aput, List.set]) ?_
     exact aN_of n36 hS0 hps1
   have n16 : N1 9 528 G1 := by
    refine aN_n hops hS0 hps1 [0, 3, 5, 7] (all_cons (aopAt_l hops rfl ?_) (all_cons (aopAt_l hops rfl ?_) (all_cons (aopAt_l hops rfl ?_) (all_cons (aopAt_l hops rfl ?_) all_nil))))
    ·
     refine w_op (a := v62) rfl rfl rfl rfl (by dsimp only [aput, List.set]) ?_
     exact aN_of n28 hS0 hps1
    ·
     refine w_mv ?_
     exact aN_of n32 hS0 hps1
    ·
     refine w_op (a := v67) rfl rfl rfl (op_q (q_lit (α := En) (l := [x3]) (cs := Enc.cells (x3 : En) ++ []) rfl (by rw [Enc.cons, Enc.nil]))) (by dsimp only [aput, List.set]) ?_
     exact aN_of n35 hS0 hps1
    ·
     refine w_op (a := v69) rfl rfl rfl rfl (by dsimp only [aput, List.set]) ?_
     exact aN_of n36 hS0 hps1
   have n15 : N0 9 144 G0 := by
    refine aN_n hops hS0 hps0 [0, 3, 5, 9] (all_cons (aopAt_l hops rfl ?_) (all_cons (aopAt_l hops rfl ?_) (all_cons (aopAt_l hops rfl ?_) (all_cons (aopAt_l hops rfl ?_) all_nil))))
    ·
     refine w_op (a := v62) rfl rfl rfl rfl (by dsimp only [aput, List.set]) ?_
     exact aN_of n27 hS0 hps0
    ·
     refine w_mv ?_
     exact aN_of n31 hS0 hps0
    ·
     refine w_op (a := v67) rfl rfl rfl (op_q (q_lit (α := En) (l := [x3]) (cs := Enc.cells (x3 : En) ++ []) rfl (by rw [Enc.cons, Enc.nil]))) (by dsimp only [aput, List.set]) ?_
     exact aN_of n34 hS0 hps0
    ·
     refine w_opm (a := v13) (σ'' := G1) rfl rfl rfl rfl (by dsimp only [aput, List.set]) rfl ?_
     exact aN_of n36 hS0 hps1
   have n14 : N0 9 48 G0 := by
    refine aN_n hops hS0 hps0 [0, 3, 7, 9] (all_cons (aopAt_l hops rfl ?_) (all_cons (aopAt_l hops rfl ?_) (all_cons (aopAt_l hops rfl ?_) (all_cons (aopAt_l hops rfl ?_) all_nil))))
    ·
     refine w_op (a := v62) rfl rfl rfl rfl (by dsimp only [aput, List.set]) ?_
     exact aN_of n26 hS0 hps0
    ·
     refine w_mv ?_
     exact aN_of n30 hS0 hps0
    ·
     refine w_op (a := v69) rfl rfl rfl rfl (by dsimp only [aput, List.set]) ?_
     exact aN_of n34 hS0 hps0
    ·
     refine w_opm (a := v13) (σ'' := G1) rfl rfl rfl rfl (by dsimp only [aput, List.set]) rfl ?_
     exact aN_of n35 hS0 hps1
   have n13 : N1 9 520 G1 := by
    refine aN_3 hops hS0 hps1 0 4 7 ?_ ?_ ?_
    ·
     refine w_op (a := v62) rfl rfl rfl rfl (by dsimp only [aput, List.set]) ?_
     exact aN_of n25 hS0 hps1
    ·
     refine w_op (a := v66) rfl rfl rfl rfl (by dsimp only [aput, List.set]) ?_
     exact aN_of n32 hS0 hps1
    ·
     refine w_op (a := v69) rfl rfl rfl rfl (by dsimp only [aput, List.set]) ?_
     exact aN_of n33 hS0 hps1
   have n12 : N0 9 136 G0 := by
    refine aN_3 hops hS0 hps0 0 4 9 ?_ ?_ ?_
    ·
     refine w_op (a := v62) rfl rfl rfl rfl (by dsimp only [aput, List.set]) ?_
     exact aN_of n24 hS0 hps0
    ·
     refine w_op (a := v66) rfl rfl rfl rfl (by dsimp only [aput, List.set]) ?_
     exact aN_of n31 hS0 hps0
    ·
     refine w_opm (a := v13) (σ'' := G1) rfl rfl rfl rfl (by dsimp only [aput, List.set]) rfl ?_
     exact aN_of n33 hS0 hps1
   have n11 : N0 9 24 G0 := by
    refine aN_n hops hS0 hps0 [0, 5, 7, 9] (all_cons (aopAt_l hops rfl ?_) (all_cons (aopAt_l hops rfl ?_) (all_cons (aopAt_l hops rfl ?_) (all_cons (aopAt_l hops rfl ?_) all_nil))))
    ·
     refine w_op (a := v62) rfl rfl rfl rfl (by dsimp only [aput, List.set]) ?_
     exact aN_of n23 hS0 hps0
    ·
     refine w_op (a := v67) rfl rfl rfl (op_q (q_lit (α := En) (l := [x3]) (cs := Enc.cells (x3 : En) ++ []) rfl (by rw [Enc.cons, Enc.nil]))) (by dsimp only [aput, List.set]) ?_
     exact aN_of n30 hS0 hps0
    ·
     refine w_op (a := v69) rfl rfl rfl rfl (by dsimp only [aput, List.set]) ?_
     exact aN_of n31 hS0 hps0
    ·
     refine w_opm (a := v13) (σ'' := G1) rfl rfl rfl rfl (by dsimp only [aput, List.set]) rfl ?_
     exact aN_of n32 hS0 hps1
   have n10 : N1 9 513 G1 := by
    refine aN_n hops hS0 hps1 [1, 3, 4, 7] (all_cons (aopAt_l hops rfl ?_) (all_cons (aopAt_l hops rfl ?_) (all_cons (aopAt_l hops rfl ?_) (all_cons (aopAt_l hops rfl ?_) all_nil))))
    ·
     refine w_op (a := v63) rfl rfl rfl rfl (by dsimp only [aput, List.set]) ?_
     exact aN_of n22 hS0 hps1
    ·
     refine w_mv ?_
     exact aN_of n25 hS0 hps1
    ·
     refine w_op (a := v66) rfl rfl rfl rfl (by dsimp only [aput, List.set]) ?_
     exact aN_of n28 hS0 hps1
    ·
     refine w_op (a := v69) rfl rfl rfl rfl (by dsimp only [aput, List.set]) ?_
     exact aN_of n29 hS0 hps1
   have n9 : N0 9 129 G0 := by
    refine aN_n hops hS0 hps0 [1, 3, 4, 9] (all_cons (aopAt_l hops rfl ?_) (all_cons (aopAt_l hops rfl ?_) (all_cons (aopAt_l hops rfl ?_) (all_cons (aopAt_l hops rfl ?_) all_nil))))
    ·
     refine w_op (a := v63) rfl rfl rfl rfl (by dsimp only [aput, List.set]) ?_
     exact aN_of n21 hS0 hps0
    ·
     refine w_mv ?_
     exact aN_of n24 hS0 hps0
    ·
     refine w_op (a := v66) rfl rfl rfl rfl (by dsimp only [aput, List.set]) ?_
     exact aN_of n27 hS0 hps0
    ·
     refine w_opm (a := v13) (σ'' := G1) rfl rfl rfl rfl (by dsimp only [aput, List.set]) rfl ?_
     exact aN_of n29 hS0 hps1
   have n8 : N0 9 17 G0 := by
    refine aN_n hops hS0 hps0 [1, 3, 5, 7, 9] (all_cons (aopAt_l hops rfl ?_) (all_cons (aopAt_l hops rfl ?_) (all_cons (aopAt_l hops rfl ?_) (all_cons (aopAt_l hops rfl ?_) (all_cons (aopAt_l hops rfl ?_) all_nil)))))
    ·
     refine w_op (a := v63) rfl rfl rfl rfl (by dsimp only [aput, List.set]) ?_
     exact aN_of n20 hS0 hps0
    ·
     refine w_mv ?_
     exact aN_of n23 hS0 hps0
    ·
     refine w_op (a := v67) rfl rfl rfl (op_q (q_lit (α := En) (l := [x3]) (cs := Enc.cells (x3 : En) ++ []) rfl (by rw [Enc.cons, Enc.nil]))) (by dsimp only [aput, List.set]) ?_
     exact aN_of n26 hS0 hps0
    ·
     refine w_op (a := v69) rfl rfl rfl rfl (by dsimp only [aput, List.set]) ?_
     exact aN_of n27 hS0 hps0
    ·
     refine w_opm (a := v13) (σ'' := G1) rfl rfl rfl rfl (by dsimp only [aput, List.set]) rfl ?_
     exact aN_of n28 hS0 hps1
   have n7 : N0 9 9 G0 := by
    refine aN_n hops hS0 hps0 [1, 4, 7, 9] (all_cons (aopAt_l hops rfl ?_) (all_cons (aopAt_l hops rfl ?_) (all_cons (aopAt_l hops rfl ?_) (all_cons (aopAt_l hops rfl ?_) all_nil))))
    ·
     refine w_op (a := v63) rfl rfl rfl rfl (by dsimp only [aput, List.set]) ?_
     exact aN_of n19 hS0 hps0
    ·
     refine w_op (a := v66) rfl rfl rfl rfl (by dsimp only [aput, List.set]) ?_
     exact aN_of n23 hS0 hps0
    ·
     refine w_op (a := v69) rfl rfl rfl rfl (by dsimp only [aput, List.set]) ?_
     exact aN_of n24 hS0 hps0
    ·
     refine w_opm (a := v13) (σ'' := G1) rfl rfl rfl rfl (by dsimp only [aput, List.set]) rfl ?_
     exact aN_of n25 hS0 hps1
   have n6 : N0 9 3 G0 := by
    refine aN_n hops hS0 hps0 [2, 3, 4, 7, 9] (all_cons (aopAt_l hops rfl ?_) (all_cons (aopAt_l hops rfl ?_) (all_cons (aopAt_l hops rfl ?_) (all_cons (aopAt_l hops rfl ?_) (all_cons (aopAt_l hops rfl ?_) all_nil)))))
    ·
     refine w_snd (r := v64) (σ' := ⟨[(26, (Enc.cells (x1 : Trc))), (43, (Enc.cells (x3 : En)))], [], [], 0, false⟩) (cloneT_nil x1.l hc1 _) rfl rfl ⟨rfl, rfl⟩ (by dsimp only [aput, List.set]) ?_
     exact aN_of n18 hS0 hps0
    ·
     refine w_mv ?_
     exact aN_of n19 hS0 hps0
    ·
     refine w_op (a := v66) rfl rfl rfl rfl (by dsimp only [aput, List.set]) ?_
     exact aN_of n20 hS0 hps0
    ·
     refine w_op (a := v69) rfl rfl rfl rfl (by dsimp only [aput, List.set]) ?_
     exact aN_of n21 hS0 hps0
    ·
     refine w_opm (a := v13) (σ'' := G1) rfl rfl rfl rfl (by dsimp only [aput, List.set]) rfl ?_
     exact aN_of n22 hS0 hps1
   have n5 : N1 10 512 G1 := by
    refine aN_n hops hS0 hps1 [0, 3, 4, 7] (all_cons (aopAt_l hops rfl ?_) (all_cons (aopAt_l hops rfl ?_) (all_cons (aopAt_l hops rfl ?_) (all_cons (aopAt_l hops rfl ?_) all_nil))))
    ·
     refine w_op (a := v62) rfl rfl rfl rfl (by dsimp only [aput, List.set]) ?_
     exact aN_of n10 hS0 hps1
    ·
     refine w_mv ?_
     exact aN_of n13 hS0 hps1
    ·
     refine w_op (a := v66) rfl rfl rfl rfl (by dsimp only [aput, List.set]) ?_
     exact aN_of n16 hS0 hps1
    ·
     refine w_op (a := v69) rfl rfl rfl rfl (by dsimp only [aput, List.set]) ?_
     exact aN_of n17 hS0 hps1
   have n4 : N0 10 128 G0 := by
    refine aN_n hops hS0 hps0 [0, 3, 4, 9] (all_cons (aopAt_l hops rfl ?_) (all_cons (aopAt_l hops rfl ?_) (all_cons (aopAt_l hops rfl ?_) (all_cons (aopAt_l hops rfl ?_) all_nil))))
    ·
     refine w_op (a := v62) rfl rfl rfl rfl (by dsimp only [aput, List.set]) ?_
     exact aN_of n9 hS0 hps0
    ·
     refine w_mv ?_
     exact aN_of n12 hS0 hps0
    ·
     refine w_op (a := v66) rfl rfl rfl rfl (by dsimp only [aput, List.set]) ?_
     exact aN_of n15 hS0 hps0
    ·
     refine w_opm (a := v13) (σ'' := G1) rfl rfl rfl rfl (by dsimp only [aput, List.set]) rfl ?_
     exact aN_of n17 hS0 hps1
   have n3 : N0 10 16 G0 := by
    refine aN_n hops hS0 hps0 [0, 3, 5, 7, 9] (all_cons (aopAt_l hops rfl ?_) (all_cons (aopAt_l hops rfl ?_) (all_cons (aopAt_l hops rfl ?_) (all_cons (aopAt_l hops rfl ?_) (all_cons (aopAt_l hops rfl ?_) all_nil)))))
    ·
     refine w_op (a := v62) rfl rfl rfl rfl (by dsimp only [aput, List.set]) ?_
     exact aN_of n8 hS0 hps0
    ·
     refine w_mv ?_
     exact aN_of n11 hS0 hps0
    ·
     refine w_op (a := v67) rfl rfl rfl (op_q (q_lit (α := En) (l := [x3]) (cs := Enc.cells (x3 : En) ++ []) rfl (by rw [Enc.cons, Enc.nil]))) (by dsimp only [aput, List.set]) ?_
     exact aN_of n14 hS0 hps0
    ·
     refine w_op (a := v69) rfl rfl rfl rfl (by dsimp only [aput, List.set]) ?_
     exact aN_of n15 hS0 hps0
    ·
     refine w_opm (a := v13) (σ'' := G1) rfl rfl rfl rfl (by dsimp only [aput, List.set]) rfl ?_
     exact aN_of n16 hS0 hps1
   have n2 : N0 10 8 G0 := by
    refine aN_n hops hS0 hps0 [0, 4, 7, 9] (all_cons (aopAt_l hops rfl ?_) (all_cons (aopAt_l hops rfl ?_) (all_cons (aopAt_l hops rfl ?_) (all_cons (aopAt_l hops rfl ?_) all_nil))))
    ·
     refine w_op (a := v62) rfl rfl rfl rfl (by dsimp only [aput, List.set]) ?_
     exact aN_of n7 hS0 hps0
    ·
     refine w_op (a := v66) rfl rfl rfl rfl (by dsimp only [aput, List.set]) ?_
     exact aN_of n11 hS0 hps0
    ·
     refine w_op (a := v69) rfl rfl rfl rfl (by dsimp only [aput, List.set]) ?_
     exact aN_of n12 hS0 hps0
    ·
     refine w_opm (a := v13) (σ'' := G1) rfl rfl rfl rfl (by dsimp only [aput, List.set]) rfl ?_
     exact aN_of n13 hS0 hps1
   have n1 : N0 10 1 G0 := by
    refine aN_n hops hS0 hps0 [1, 3, 4, 7, 9] (all_cons (aopAt_l hops rfl ?_) (all_cons (aopAt_l hops rfl ?_) (all_cons (aopAt_l hops rfl ?_) (all_cons (aopAt_l hops rfl ?_) (all_cons (aopAt_l hops rfl ?_) all_nil)))))
    ·
     refine w_op (a := v63) rfl rfl rfl rfl (by dsimp only [aput, List.set]) ?_
     exact aN_of n6 hS0 hps0
    ·
     refine w_mv ?_
     exact aN_of n7 hS0 hps0
    ·
     refine w_op (a := v66) rfl rfl rfl rfl (by dsimp only [aput, List.set]) ?_
     exact aN_of n8 hS0 hps0
    ·
     refine w_op (a := v69) rfl rfl rfl rfl (by dsimp only [aput, List.set]) ?_
     exact aN_of n9 hS0 hps0
    ·
     refine w_opm (a := v13) (σ'' := G1) rfl rfl rfl rfl (by dsimp only [aput, List.set]) rfl ?_
     exact aN_of n10 hS0 hps1
   have n0 : N0 11 0 G0 := by
    refine aN_n hops hS0 hps0 [0, 3, 4, 7, 9] (all_cons (aopAt_l hops rfl ?_) (all_cons (aopAt_l hops rfl ?_) (all_cons (aopAt_l hops rfl ?_) (all_cons (aopAt_l hops rfl ?_) (all_cons (aopAt_l hops rfl ?_) all_nil)))))
    ·
     refine w_op (a := v62) rfl rfl rfl rfl (by dsimp only [aput, List.set]) ?_
     exact aN_of n1 hS0 hps0
    ·
     refine w_mv ?_
     exact aN_of n2 hS0 hps0
    ·
     refine w_op (a := v66) rfl rfl rfl rfl (by dsimp only [aput, List.set]) ?_
     exact aN_of n3 hS0 hps0
    ·
     refine w_op (a := v69) rfl rfl rfl rfl (by dsimp only [aput, List.set]) ?_
     exact aN_of n4 hS0 hps0
    ·
     refine w_opm (a := v13) (σ'' := G1) rfl rfl rfl rfl (by dsimp only [aput, List.set]) rfl ?_
     exact aN_of n5 hS0 hps1
   exact aN_start n0 hps0
  ·
   refine w_seq (w_region ?_)
   refine w_op (a := .agg (Enc.cells ((Trc.mk [x3] (Ed.mk ((Ed.mk 0 0).k) ((Ed.mk 0 0).c))) : Trc))) rfl rfl rfl rfl (by dsimp only [aput, List.set]) ?_
   obtain ⟨x4, hx4, h⟩ := bindE_e h
   refine w_callc (args' := [.agg (Enc.cells ((Trc.mk [x3] (Ed.mk ((Ed.mk 0 0).k) ((Ed.mk 0 0).c))) : Trc))]) (r := .tup [.raw (.int .i64 x4.1), .raw (.int .i64 x4.2)]) (check_sh fuel (Trc.mk [x3] (Ed.mk ((Ed.mk 0 0).k) ((Ed.mk 0 0).c))) x4 hx4) rfl rfl (stripL_cons (strip_c (clo_agg (Enc.clo _))) rfl) (okTrimL_cons (okTrim_clo _ _ (clo_agg (Enc.clo _))) rfl) (by dsimp only [aput, List.set]) ?_
   refine w_mv ?_
   refine w_ex ?_
   refine w_ex ?_
   refine w_mv ?_
   refine w_mv ?_
   refine w_seq (w_region ?_)
   refine w_op (a := .agg (Enc.cells ((Trc.mk [x3] (Ed.mk ((Ed.mk 0 0).k) ((Ed.mk 0 0).c))) : Trc))) rfl rfl rfl rfl (by dsimp only [aput, List.set]) ?_
   obtain ⟨x5, hx5, h⟩ := bindE_e h
   refine w_callc (args' := [.agg (Enc.cells ((Trc.mk [x3] (Ed.mk ((Ed.mk 0 0).k) ((Ed.mk 0 0).c))) : Trc))]) (r := .tup [.raw (.string (bs x5.1)), .raw (.int .i64 x5.2)]) (write_sh fuel (Trc.mk [x3] (Ed.mk ((Ed.mk 0 0).k) ((Ed.mk 0 0).c))) x5 hx5) rfl rfl (stripL_cons (strip_c (clo_agg (Enc.clo _))) rfl) (okTrimL_cons (okTrim_clo _ _ (clo_agg (Enc.clo _))) rfl) (by dsimp only [aput, List.set]) ?_
   refine w_mv ?_
   refine w_ex ?_
   refine w_ex ?_
   refine w_mv ?_
   refine w_mv ?_
   refine w_seq ?_
   refine w_seq ?_
   refine w_draw (k0 := 0) (id := 8) 24 (by kernel_rfl) (by kernel_rfl) ?_
   refine h_mv ?_
   refine h_mv ?_
   refine h_op (a := .raw (.bool (x4.1 != (Int.tmod at_ ((List.length x1.l : Int) + 1))))) rfl rfl rfl rfl (by dsimp only [aput, List.set]) ?_
   refine bif_e h (fun hc2 h => ?_) (fun hc2 h => ?_)
   ·
    refine h_op (a := .raw (.bool true)) rfl rfl rfl (q_bool rfl hc2) (by dsimp only [aput, List.set]) ?_
    refine h_pass rfl rfl rfl (by decide) (by dsimp only [aput, List.set]) ?_
    refine h_pass rfl rfl rfl (by decide) (by dsimp only [aput, List.set]) ?_
    refine h_op (a := .raw (.bool true)) rfl rfl rfl rfl (by dsimp only [aput, List.set]) ?_
    refine h_mv ?_
    refine h_pass rfl rfl rfl (by decide) (by dsimp only [aput, List.set]) ?_
    refine h_pass rfl rfl rfl (by decide) (by dsimp only [aput, List.set]) ?_
    refine h_pass rfl rfl rfl (by decide) (by dsimp only [aput, List.set]) ?_
    refine h_op (a := .raw (.bool true)) rfl rfl rfl rfl (by dsimp only [aput, List.set]) ?_
    refine h_mv ?_
    refine h_pass rfl rfl rfl (by decide) (by dsimp only [aput, List.set]) ?_
    refine h_pass rfl rfl rfl (by decide) (by dsimp only [aput, List.set]) ?_
    refine h_op (a := .raw (.bool true)) rfl rfl rfl rfl (by dsimp only [aput, List.set]) ?_
    refine h_mv ?_
    refine h_pass rfl rfl rfl (by decide) (by dsimp only [aput, List.set]) ?_
    refine h_pass rfl rfl rfl (by decide) (by dsimp only [aput, List.set]) ?_
    refine h_pass rfl rfl rfl (by decide) (by dsimp only [aput, List.set]) ?_
    refine h_pass rfl rfl rfl (by decide) (by dsimp only [aput, List.set]) ?_
    refine h_pass rfl rfl rfl (by decide) (by dsimp only [aput, List.set]) ?_
    refine h_pass rfl rfl rfl (by decide) (by dsimp only [aput, List.set]) ?_
    refine h_pass rfl rfl rfl (by decide) (by dsimp only [aput, List.set]) ?_
    refine h_end ?_
    refine w_pass rfl rfl (by decide) (by dsimp only [aput, List.set]) ?_
    refine w_pass rfl rfl (by decide) (by dsimp only [aput, List.set]) ?_
    refine w_op (a := .raw (.bool true)) rfl rfl rfl rfl (by dsimp only [aput, List.set]) ?_
    refine w_true rfl ?_
    refine w_seq (w_region ?_)
    refine w_op (a := .raw (.bool false)) rfl rfl rfl rfl (by dsimp only [aput, List.set]) ?_
    exact end_b h
   ·
    refine h_op (a := .raw (.bool false)) rfl rfl rfl (q_bool rfl hc2) (by dsimp only [aput, List.set]) ?_
    refine h_met rfl rfl ?_
    refine h_mv ?_
    refine h_met rfl rfl ?_
    refine h_op (a := .raw (.bool (x4.2 != 330))) rfl rfl rfl rfl (by dsimp only [aput, List.set]) ?_
    refine h_op (a := .raw (.bool (x4.2 != 330))) rfl rfl rfl rfl (by dsimp only [aput, List.set]) ?_
    refine bif_e h (fun hc3 h => ?_) (fun hc3 h => ?_)
    ·
     refine h_op (a := .raw (.bool true)) rfl rfl rfl (q_bool rfl hc3) (by dsimp only [aput, List.set]) ?_
     refine h_pass rfl rfl rfl (by decide) (by dsimp only [aput, List.set]) ?_
     refine h_pass rfl rfl rfl (by decide) (by dsimp only [aput, List.set]) ?_
     refine h_pass rfl rfl rfl (by decide) (by dsimp only [aput, List.set]) ?_
     refine h_op (a := .raw (.bool true)) rfl rfl rfl rfl (by dsimp only [aput, List.set]) ?_
     refine h_mv ?_
     refine h_pass rfl rfl rfl (by decide) (by dsimp only [aput, List.set]) ?_
     refine h_pass rfl rfl rfl (by decide) (by dsimp only [aput, List.set]) ?_
     refine h_op (a := .raw (.bool true)) rfl rfl rfl rfl (by dsimp only [aput, List.set]) ?_
     refine h_mv ?_
     refine h_pass rfl rfl rfl (by decide) (by dsimp only [aput, List.set]) ?_
     refine h_pass rfl rfl rfl (by decide) (by dsimp only [aput, List.set]) ?_
     refine h_pass rfl rfl rfl (by decide) (by dsimp only [aput, List.set]) ?_
     refine h_pass rfl rfl rfl (by decide) (by dsimp only [aput, List.set]) ?_
     refine h_pass rfl rfl rfl (by decide) (by dsimp only [aput, List.set]) ?_
     refine h_pass rfl rfl rfl (by decide) (by dsimp only [aput, List.set]) ?_
     refine h_pass rfl rfl rfl (by decide) (by dsimp only [aput, List.set]) ?_
     refine h_end ?_
     refine w_pass rfl rfl (by decide) (by dsimp only [aput, List.set]) ?_
     refine w_pass rfl rfl (by decide) (by dsimp only [aput, List.set]) ?_
     refine w_op (a := .raw (.bool true)) rfl rfl rfl rfl (by dsimp only [aput, List.set]) ?_
     refine w_true rfl ?_
     refine w_seq (w_region ?_)
     refine w_op (a := .raw (.bool false)) rfl rfl rfl rfl (by dsimp only [aput, List.set]) ?_
     exact end_b h
    ·
     refine h_op (a := .raw (.bool false)) rfl rfl rfl (q_bool rfl hc3) (by dsimp only [aput, List.set]) ?_
     refine h_met rfl rfl ?_
     refine h_mv ?_
     refine h_met rfl rfl ?_
     refine h_mv ?_
     refine h_met rfl rfl ?_
     refine h_op (a := .raw (.bool (x5.2 != x4.2))) rfl rfl rfl rfl (by dsimp only [aput, List.set]) ?_
     refine h_op (a := .raw (.bool (x5.2 != x4.2))) rfl rfl rfl rfl (by dsimp only [aput, List.set]) ?_
     refine bif_e h (fun hc4 h => ?_) (fun hc4 h => ?_)
     ·
      refine h_op (a := .raw (.bool true)) rfl rfl rfl (q_bool rfl hc4) (by dsimp only [aput, List.set]) ?_
      refine h_pass rfl rfl rfl (by decide) (by dsimp only [aput, List.set]) ?_
      refine h_pass rfl rfl rfl (by decide) (by dsimp only [aput, List.set]) ?_
      refine h_op (a := .raw (.bool true)) rfl rfl rfl rfl (by dsimp only [aput, List.set]) ?_
      refine h_mv ?_
      refine h_pass rfl rfl rfl (by decide) (by dsimp only [aput, List.set]) ?_
      refine h_pass rfl rfl rfl (by decide) (by dsimp only [aput, List.set]) ?_
      refine h_pass rfl rfl rfl (by decide) (by dsimp only [aput, List.set]) ?_
      refine h_pass rfl rfl rfl (by decide) (by dsimp only [aput, List.set]) ?_
      refine h_pass rfl rfl rfl (by decide) (by dsimp only [aput, List.set]) ?_
      refine h_pass rfl rfl rfl (by decide) (by dsimp only [aput, List.set]) ?_
      refine h_pass rfl rfl rfl (by decide) (by dsimp only [aput, List.set]) ?_
      refine h_end ?_
      refine w_pass rfl rfl (by decide) (by dsimp only [aput, List.set]) ?_
      refine w_pass rfl rfl (by decide) (by dsimp only [aput, List.set]) ?_
      refine w_op (a := .raw (.bool true)) rfl rfl rfl rfl (by dsimp only [aput, List.set]) ?_
      refine w_true rfl ?_
      refine w_seq (w_region ?_)
      refine w_op (a := .raw (.bool false)) rfl rfl rfl rfl (by dsimp only [aput, List.set]) ?_
      exact end_b h
     ·
      refine h_op (a := .raw (.bool false)) rfl rfl rfl (q_bool rfl hc4) (by dsimp only [aput, List.set]) ?_
      refine h_met rfl rfl ?_
      refine h_mv ?_
      refine h_met rfl rfl ?_
      refine h_op (a := .raw (.bool (!(x5.1 == ([] : List UInt8))))) rfl rfl rfl (q_strne rfl rfl rfl) (by dsimp only [aput, List.set]) ?_
      refine h_op (a := .raw (.bool (!(x5.1 == ([] : List UInt8))))) rfl rfl rfl rfl (by dsimp only [aput, List.set]) ?_
      refine bif_e h (fun hc5 h => ?_) (fun hc5 h => ?_)
      ·
       refine h_op (a := .raw (.bool true)) rfl rfl rfl (q_bool rfl hc5) (by dsimp only [aput, List.set]) ?_
       refine h_pass rfl rfl rfl (by decide) (by dsimp only [aput, List.set]) ?_
       refine h_pass rfl rfl rfl (by decide) (by dsimp only [aput, List.set]) ?_
       refine h_pass rfl rfl rfl (by decide) (by dsimp only [aput, List.set]) ?_
       refine h_pass rfl rfl rfl (by decide) (by dsimp only [aput, List.set]) ?_
       refine h_pass rfl rfl rfl (by decide) (by dsimp only [aput, List.set]) ?_
       refine h_pass rfl rfl rfl (by decide) (by dsimp only [aput, List.set]) ?_
       refine h_pass rfl rfl rfl (by decide) (by dsimp only [aput, List.set]) ?_
       refine h_end ?_
       refine w_pass rfl rfl (by decide) (by dsimp only [aput, List.set]) ?_
       refine w_pass rfl rfl (by decide) (by dsimp only [aput, List.set]) ?_
       refine w_op (a := .raw (.bool true)) rfl rfl rfl rfl (by dsimp only [aput, List.set]) ?_
       refine w_true rfl ?_
       refine w_seq (w_region ?_)
       refine w_op (a := .raw (.bool false)) rfl rfl rfl rfl (by dsimp only [aput, List.set]) ?_
       exact end_b h
      ·
       refine h_op (a := .raw (.bool false)) rfl rfl rfl (q_bool rfl hc5) (by dsimp only [aput, List.set]) ?_
       refine h_met rfl rfl ?_
       refine h_op (a := .agg (Enc.cells ((Trc.mk [x3] (Ed.mk ((Ed.mk 0 0).k) ((Ed.mk 0 0).c))) : Trc))) rfl rfl rfl rfl (by dsimp only [aput, List.set]) ?_
       refine h_met rfl rfl ?_
       obtain ⟨x6, hx6, h⟩ := bindE_e h
       refine h_call (args' := [.agg (Enc.cells ((Trc.mk [x3] (Ed.mk ((Ed.mk 0 0).k) ((Ed.mk 0 0).c))) : Trc))]) (r := .raw (.int .i64 x6)) (taken_sh fuel (Trc.mk [x3] (Ed.mk ((Ed.mk 0 0).k) ((Ed.mk 0 0).c))) x6 hx6) rfl rfl rfl (stripL_cons (strip_c (clo_agg (Enc.clo _))) rfl) (okTrimL_cons (okTrim_clo _ _ (clo_agg (Enc.clo _))) rfl) (by dsimp only [aput, List.set]) ?_
       refine h_met rfl rfl ?_
       refine h_op (a := .agg (Enc.cells ((Trc.mk [x3] (Ed.mk ((Ed.mk 0 0).k) ((Ed.mk 0 0).c))) : Trc))) rfl rfl rfl rfl (by dsimp only [aput, List.set]) ?_
       refine h_met rfl rfl ?_
       obtain ⟨x7, hx7, h⟩ := bindE_e h
       refine h_call (args' := [.agg (Enc.cells ((Trc.mk [x3] (Ed.mk ((Ed.mk 0 0).k) ((Ed.mk 0 0).c))) : Trc))]) (r := .raw (.int .i64 x7)) (lost_sh fuel (Trc.mk [x3] (Ed.mk ((Ed.mk 0 0).k) ((Ed.mk 0 0).c))) x7 hx7) rfl rfl rfl (stripL_cons (strip_c (clo_agg (Enc.clo _))) rfl) (okTrimL_cons (okTrim_clo _ _ (clo_agg (Enc.clo _))) rfl) (by dsimp only [aput, List.set]) ?_
       refine h_met rfl rfl ?_
       obtain ⟨g9, h⟩ := chk_e h
       refine h_op (a := .raw (.int .i64 (x6 + x7))) rfl rfl rfl (q_add rfl rfl rfl rfl g9.1 g9.2) (by dsimp only [aput, List.set]) ?_
       refine h_met rfl rfl ?_
       refine h_op (a := .agg (Enc.cells ((Trc.mk [x3] (Ed.mk ((Ed.mk 0 0).k) ((Ed.mk 0 0).c))) : Trc))) rfl rfl rfl rfl (by dsimp only [aput, List.set]) ?_
       refine h_met rfl rfl ?_
       obtain ⟨x8, hx8, h⟩ := bindE_e h
       refine h_call (args' := [.agg (Enc.cells ((Trc.mk [x3] (Ed.mk ((Ed.mk 0 0).k) ((Ed.mk 0 0).c))) : Trc))]) (r := .raw (.int .i64 x8)) (at_sh fuel (Trc.mk [x3] (Ed.mk ((Ed.mk 0 0).k) ((Ed.mk 0 0).c))) x8 hx8) rfl rfl rfl (stripL_cons (strip_c (clo_agg (Enc.clo _))) rfl) (okTrimL_cons (okTrim_clo _ _ (clo_agg (Enc.clo _))) rfl) (by dsimp only [aput, List.set]) ?_
       refine h_end ?_
       refine w_met rfl rfl ?_
       obtain ⟨g10, h⟩ := chk_e h
       refine w_op (a := .raw (.int .i64 ((x6 + x7) + x8))) rfl rfl rfl (op_q (q_add rfl rfl rfl rfl g10.1 g10.2)) (by dsimp only [aput, List.set]) ?_
       refine w_met rfl rfl ?_
       refine w_op (a := .raw (.bool (((x6 + x7) + x8) != 0))) rfl rfl rfl rfl (by dsimp only [aput, List.set]) ?_
       refine w_op (a := .raw (.bool (((x6 + x7) + x8) != 0))) rfl rfl rfl rfl (by dsimp only [aput, List.set]) ?_
       refine bif_e h (fun hc6 h => ?_) (fun hc6 h => ?_)
       ·
        refine w_condT hc6 rfl ?_
        refine w_seq (w_region ?_)
        refine w_op (a := .raw (.bool false)) rfl rfl rfl rfl (by dsimp only [aput, List.set]) ?_
        exact end_b h
       ·
        refine w_condF hc6 rfl ?_
        refine w_seq (w_region ?_)
        refine w_op (a := .agg (Enc.cells ((Ed.mk 0 0) : Ed))) rfl rfl rfl rfl (by dsimp only [aput, List.set]) ?_
        refine w_mv ?_
        refine w_op (a := .raw (.int .u8 (max how 6))) rfl rfl rfl (op_q (q_max rfl rfl rfl rfl rfl)) (by dsimp only [aput, List.set]) ?_
        refine w_op (a := .agg (Enc.cells ((Ed.mk (max how 6) 0) : Ed))) rfl rfl rfl rfl (by dsimp only [aput, List.set]) ?_
        refine w_mv ?_
        refine w_op (a := .raw (.int .i64 (max n 1))) rfl rfl rfl (op_q (q_max rfl rfl rfl rfl rfl)) (by dsimp only [aput, List.set]) ?_
        refine w_op (a := .agg (Enc.cells ((Ed.mk 1 (max n 1)) : Ed))) rfl rfl rfl rfl (by dsimp only [aput, List.set]) ?_
        refine w_mv ?_
        refine w_op (a := .raw (.int .i64 (max n 256))) rfl rfl rfl (op_q (q_max rfl rfl rfl rfl rfl)) (by dsimp only [aput, List.set]) ?_
        refine w_op (a := .agg (Enc.cells ((Ed.mk 2 (max n 256)) : Ed))) rfl rfl rfl rfl (by dsimp only [aput, List.set]) ?_
        refine w_mv ?_
        refine w_op (a := .raw (.int .i64 (min n (-1)))) rfl rfl rfl (op_q (q_min rfl rfl rfl rfl rfl)) (by dsimp only [aput, List.set]) ?_
        refine w_op (a := .agg (Enc.cells ((Ed.mk 2 (min n (-1))) : Ed))) rfl rfl rfl rfl (by dsimp only [aput, List.set]) ?_
        refine w_op (a := .list (List.length ([(Ed.mk 0 0), (Ed.mk (max how 6) 0), (Ed.mk 1 (max n 1)), (Ed.mk 2 (max n 256)), (Ed.mk 2 (min n (-1)))] : List Ed)) (Enc.cellsL ([(Ed.mk 0 0), (Ed.mk (max how 6) 0), (Ed.mk 1 (max n 1)), (Ed.mk 2 (max n 256)), (Ed.mk 2 (min n (-1)))] : List Ed)) .full) rfl rfl rfl (op_q (q_lit (α := Ed) (l := [(Ed.mk 0 0), (Ed.mk (max how 6) 0), (Ed.mk 1 (max n 1)), (Ed.mk 2 (max n 256)), (Ed.mk 2 (min n (-1)))]) (cs := Enc.cells ((Ed.mk 0 0) : Ed) ++ (Enc.cells ((Ed.mk (max how 6) 0) : Ed) ++ (Enc.cells ((Ed.mk 1 (max n 1)) : Ed) ++ (Enc.cells ((Ed.mk 2 (max n 256)) : Ed) ++ (Enc.cells ((Ed.mk 2 (min n (-1))) : Ed) ++ []))))) (by kernel_rfl) (by rw [Enc.cons, Enc.cons, Enc.cons, Enc.cons, Enc.cons, Enc.nil]))) (by dsimp only [aput, List.set]) ?_
        refine w_mv ?_
        refine w_op (a := .raw (.int .u8 (Int.tmod how 5))) rfl rfl rfl rfl (by dsimp only [aput, List.set]) ?_
        obtain ⟨g11, h⟩ := chk_e h
        obtain ⟨x9, hx9, h⟩ := letE_e h
        refine w_op (a := .iptr (Enc.cells x9 ++ Enc.cellsL (List.drop (Int.toNat (Int.tmod how 5) + 1) [(Ed.mk 0 0), (Ed.mk (max how 6) 0), (Ed.mk 1 (max n 1)), (Ed.mk 2 (max n 256)), (Ed.mk 2 (min n (-1)))]))) rfl rfl rfl (op_q (by rw [← hx9]; exact (q_idx (α := Ed) (l := [(Ed.mk 0 0), (Ed.mk (max how 6) 0), (Ed.mk 1 (max n 1)), (Ed.mk 2 (max n 256)), (Ed.mk 2 (min n (-1)))]) g11 rfl rfl rfl rfl rfl))) (by dsimp only [aput, List.set]) ?_
        refine w_op (a := .agg (Enc.cells (x9 : Ed))) rfl rfl rfl rfl (by dsimp only [aput, List.set]) ?_
        refine w_op (a := .ptr 0 1) rfl rfl rfl rfl (by dsimp only [aput, List.set]) ?_
        refine w_opm (σ'' := ⟨[(26, (Enc.cells ((Trc.mk x1.l x9) : Trc))), (26, (Enc.cells ((Trc.mk [x3] (Ed.mk ((Ed.mk 0 0).k) ((Ed.mk 0 0).c))) : Trc)))], [], [], 0, false⟩) rfl rfl rfl (op_store (n := 2) rfl rfl rfl rfl rfl ⟨rfl, rfl, Nat.le_of_ble_eq_true rfl, by decide⟩) (by dsimp only [aput, List.set]) rfl ?_
        refine w_seq (w_region ?_)
        refine w_op (a := .agg (Enc.cells ((Trc.mk x1.l x9) : Trc))) rfl rfl rfl rfl (by dsimp only [aput, List.set]) ?_
        obtain ⟨x10, hx10, h⟩ := bindE_e h
        refine w_callc (args' := [.agg (Enc.cells ((Trc.mk x1.l x9) : Trc))]) (r := .tup [.raw (.int .i64 x10.1), .raw (.int .i64 x10.2)]) (check_sh fuel (Trc.mk x1.l x9) x10 hx10) rfl rfl (stripL_cons (strip_c (clo_agg (Enc.clo _))) rfl) (okTrimL_cons (okTrim_clo _ _ (clo_agg (Enc.clo _))) rfl) (by dsimp only [aput, List.set]) ?_
        refine w_mv ?_
        refine w_ex ?_
        refine w_ex ?_
        refine w_mv ?_
        refine w_mv ?_
        refine w_seq (w_region ?_)
        refine w_op (a := .agg (Enc.cells ((Trc.mk x1.l x9) : Trc))) rfl rfl rfl rfl (by dsimp only [aput, List.set]) ?_
        obtain ⟨x11, hx11, h⟩ := bindE_e h
        refine w_callc (args' := [.agg (Enc.cells ((Trc.mk x1.l x9) : Trc))]) (r := .tup [.raw (.string (bs x11.1)), .raw (.int .i64 x11.2)]) (write_sh fuel (Trc.mk x1.l x9) x11 hx11) rfl rfl (stripL_cons (strip_c (clo_agg (Enc.clo _))) rfl) (okTrimL_cons (okTrim_clo _ _ (clo_agg (Enc.clo _))) rfl) (by dsimp only [aput, List.set]) ?_
        refine w_mv ?_
        refine w_ex ?_
        refine w_ex ?_
        refine w_mv ?_
        refine w_seq (w_region ?_)
        refine w_mv ?_
        refine w_op (a := .raw (.bool (x10.1 == (-1)))) rfl rfl rfl rfl (by dsimp only [aput, List.set]) ?_
        refine bif_e h (fun hc7 h => ?_) (fun hc7 h => ?_)
        ·
         refine w_op (a := .raw (.bool true)) rfl rfl rfl (op_q (q_bool rfl hc7)) (by dsimp only [aput, List.set]) ?_
         refine w_met rfl rfl ?_
         refine w_mv ?_
         refine w_met rfl rfl ?_
         refine w_op (a := .raw (.bool (x10.2 == 331))) rfl rfl rfl rfl (by dsimp only [aput, List.set]) ?_
         refine w_op (a := .raw (.bool (x10.2 == 331))) rfl rfl rfl rfl (by dsimp only [aput, List.set]) ?_
         refine bif_e h (fun hc8 h => ?_) (fun hc8 h => ?_)
         ·
          refine w_op (a := .raw (.bool true)) rfl rfl rfl (op_q (q_bool rfl hc8)) (by dsimp only [aput, List.set]) ?_
          refine w_met rfl rfl ?_
          refine w_mv ?_
          refine w_met rfl rfl ?_
          refine w_mv ?_
          refine w_met rfl rfl ?_
          refine w_op (a := .raw (.bool (x11.2 == x10.2))) rfl rfl rfl rfl (by dsimp only [aput, List.set]) ?_
          refine w_op (a := .raw (.bool (x11.2 == x10.2))) rfl rfl rfl rfl (by dsimp only [aput, List.set]) ?_
          refine bif_e h (fun hc9 h => ?_) (fun hc9 h => ?_)
          ·
           refine w_op (a := .raw (.bool true)) rfl rfl rfl (op_q (q_bool rfl hc9)) (by dsimp only [aput, List.set]) ?_
           refine w_met rfl rfl ?_
           refine w_callc (args' := []) (r := .raw (.bool true)) awake_pure rfl rfl rfl rfl (by dsimp only [aput, List.set]) ?_
           refine w_op (a := .raw (.bool true)) rfl rfl rfl rfl (by dsimp only [aput, List.set]) ?_
           refine w_mv ?_
           exact end_b h
          ·
           refine w_op (a := .raw (.bool false)) rfl rfl rfl (op_q (q_bool rfl hc9)) (by dsimp only [aput, List.set]) ?_
           refine w_pass rfl rfl (by decide) (by dsimp only [aput, List.set]) ?_
           refine w_op (a := .raw (.bool false)) rfl rfl rfl rfl (by dsimp only [aput, List.set]) ?_
           refine w_mv ?_
           exact end_b h
         ·
          refine w_op (a := .raw (.bool false)) rfl rfl rfl (op_q (q_bool rfl hc8)) (by dsimp only [aput, List.set]) ?_
          refine w_pass rfl rfl (by decide) (by dsimp only [aput, List.set]) ?_
          refine w_pass rfl rfl (by decide) (by dsimp only [aput, List.set]) ?_
          refine w_pass rfl rfl (by decide) (by dsimp only [aput, List.set]) ?_
          refine w_op (a := .raw (.bool false)) rfl rfl rfl rfl (by dsimp only [aput, List.set]) ?_
          refine w_mv ?_
          refine w_pass rfl rfl (by decide) (by dsimp only [aput, List.set]) ?_
          refine w_op (a := .raw (.bool false)) rfl rfl rfl rfl (by dsimp only [aput, List.set]) ?_
          refine w_mv ?_
          exact end_b h
        ·
         refine w_op (a := .raw (.bool false)) rfl rfl rfl (op_q (q_bool rfl hc7)) (by dsimp only [aput, List.set]) ?_
         refine w_pass rfl rfl (by decide) (by dsimp only [aput, List.set]) ?_
         refine w_pass rfl rfl (by decide) (by dsimp only [aput, List.set]) ?_
         refine w_op (a := .raw (.bool false)) rfl rfl rfl rfl (by dsimp only [aput, List.set]) ?_
         refine w_mv ?_
         refine w_pass rfl rfl (by decide) (by dsimp only [aput, List.set]) ?_
         refine w_pass rfl rfl (by decide) (by dsimp only [aput, List.set]) ?_
         refine w_pass rfl rfl (by decide) (by dsimp only [aput, List.set]) ?_
         refine w_op (a := .raw (.bool false)) rfl rfl rfl rfl (by dsimp only [aput, List.set]) ?_
         refine w_mv ?_
         refine w_pass rfl rfl (by decide) (by dsimp only [aput, List.set]) ?_
         refine w_op (a := .raw (.bool false)) rfl rfl rfl rfl (by dsimp only [aput, List.set]) ?_
         refine w_mv ?_
         exact end_b h
 ·
  obtain ⟨g12, h⟩ := chk_e h
  obtain ⟨g13, h⟩ := chk_e h
  obtain ⟨x12, hx12, h⟩ := letE_e h
  refine w_seqAny (id := 5) [.top, .raw (.int .u8 at_), .raw (.int .u8 how), .raw (.int .i64 n), .top, .top, .top, .top, .raw (.bool false), .ptr 0 0, .raw (.int .i64 (Int.tmod at_ ((List.length x1.l : Int) + 1))), .raw (.int .i64 x2), .top, .ptr 1 0, .top, .top, .top, .top, .top, .top, .raw (.int .u8 at_), .raw (.int .i64 at_), .top, .top, .raw (.int .i64 (List.length x1.l : Int)), .raw (.int .i64 ((List.length x1.l : Int) + 1)), .raw (.int .i64 (Int.tmod at_ ((List.length x1.l : Int) + 1))), .top, .top, .raw (.int .i64 (Int.tmod at_ ((List.length x1.l : Int) + 1))), .top, .top, .top, .top, .raw (.int .i64 x2), .top, .raw (.int .u8 how), .raw (.int .u8 (max how 4)), .top, .raw (.int .i64 n), .raw (.int .i64 (max n 1)), .top, .raw (.int .i64 x2), .raw (.int .i64 x2), .top, .raw (.int .i64 x2), .raw (.int .i64 (x2 + 1)), .raw (.int .i64 x2), .raw (.int .i64 (x2 + 1)), .top, .raw (.int .i64 x2), .raw (.int .i64 x2), .top, .raw (.int .i64 x2), .raw (.int .i64 n), .raw (.int .i64 (max n 1073741825)), .top, .top, .raw (.int .u8 how), .raw (.int .u8 (Int.tmod how 7)), .top, .top, .top, .top, .top, .raw (.int .i64 (Int.tmod at_ ((List.length x1.l : Int) + 1))), .top, .top, .top, .top, .top, .top, .top, .top, .top, .top, .top, .top, .top, .top, .top, .top, .top, .top, .top, .top, .top, .top, .top, .top, .top, .top, .top, .top, .top, .top, .top, .top, .top, .top, .top, .top, .top, .top, .top, .top, .top, .top, .top, .top, .top, .top, .top, .top, .top, .top, .top, .top, .top, .top, .top, .top, .top, .top, .top, .top, .top, .top, .top, .top, .top, .top, .top, .top, .top, .top, .top, .top, .top, .top, .top, .top, .top, .top, .top, .top, .top, .top, .top, .top, .top] ⟨[(26, (Enc.cells (x1 : Trc))), (26, (Enc.cells ((Trc.mk x12 (Ed.mk ((Ed.mk 0 0).k) ((Ed.mk 0 0).c))) : Trc)))], [], [], 0, false⟩ ?_ ?_
  ·
   refine aany_intro (fun ops hops FIN hFIN S0 hS0 => ?_)
   let v62 : AV := .ptr 0 0
   let v66 : AV := .agg (Enc.cells (x3 : En))
   let v69 : AV := .agg (Enc.cells ((Ed.mk 0 0) : Ed))
   let v13 : AV := .ptr 2 0
   let v63 : AV := .list (List.length (x1.l : List En)) (Enc.cellsL (x1.l : List En)) .none
   let v67 : AV := .list (List.length ([x3] : List En)) (Enc.cellsL ([x3] : List En)) .full
   let v64 : AV := .bsl 2 0 (List.length x1.l) 4 false
   let v13_1 : AV := .ptr 3 0
   let v64_1 : AV := .bsl 3 0 (List.length x1.l) 4 false
   let v68 : AV := .bsl 3 0 (List.length x12) 4 false
   let v13_2 : AV := .ptr 4 0
   let v68_1 : AV := .bsl 4 0 (List.length x12) 4 false
   let v70 : AV := .agg [.bsl 3 0 (List.length x12) 4 false, .raw (.int .u8 ((Ed.mk 0 0).k)), .raw (.int .i64 ((Ed.mk 0 0).c))]
   let v70_1 : AV := .agg [.bsl 4 0 (List.length x12) 4 false, .raw (.int .u8 ((Ed.mk 0 0).k)), .raw (.int .i64 ((Ed.mk 0 0).c))]
   let G0 : St := ⟨[(26, (Enc.cells (x1 : Trc))), (43, (Enc.cells (x3 : En)))], [], [], 0, false⟩
   let G1 : St := ⟨[(26, (Enc.cells (x1 : Trc))), (43, (Enc.cells (x3 : En))), (26, [.list 0 [] .full, .raw (.int .u8 0), .raw (.int .i64 0)])], [], [], 0, false⟩
   let G2 : St := ⟨[(26, (Enc.cells (x1 : Trc))), (43, (Enc.cells (x3 : En))), (43, (Enc.cellsL (x1.l : List En)))], [], [], 0, false⟩
   let G3 : St := ⟨[(26, (Enc.cells (x1 : Trc))), (43, (Enc.cells (x3 : En))), (43, (Enc.cellsL (x1.l : List En))), (26, [.list 0 [] .full, .raw (.int .u8 0), .raw (.int .i64 0)])], [], [], 0, false⟩
   let G4 : St := ⟨[(26, (Enc.cells (x1 : Trc))), (43, (Enc.cells (x3 : En))), (26, [.list 0 [] .full, .raw (.int .u8 0), .raw (.int .i64 0)]), (43, (Enc.cellsL (x1.l : List En)))], [], [], 0, false⟩
   let G5 : St := ⟨[(26, (Enc.cells (x1 : Trc))), (43, (Enc.cells (x3 : En))), (43, (Enc.cellsL (([] : List En) : List En))), (43, (Enc.cellsL (x12 : List En)))], [], [], 0, false⟩
   let G6 : St := ⟨[(26, (Enc.cells (x1 : Trc))), (43, (Enc.cells (x3 : En))), (43, (Enc.cellsL (([] : List En) : List En))), (43, (Enc.cellsL (x12 : List En))), (26, [.list 0 [] .full, .raw (.int .u8 0), .raw (.int .i64 0)])], [], [], 0, false⟩
   let G7 : St := ⟨[(26, (Enc.cells (x1 : Trc))), (43, (Enc.cells (x3 : En))), (43, (Enc.cellsL (([] : List En) : List En))), (26, [.list 0 [] .full, .raw (.int .u8 0), .raw (.int .i64 0)]), (43, (Enc.cellsL (x12 : List En)))], [], [], 0, false⟩
   let G8 : St := ⟨[(26, (Enc.cells (x1 : Trc))), (43, (Enc.cells (x3 : En))), (26, [.list 0 [] .full, .raw (.int .u8 0), .raw (.int .i64 0)]), (43, (Enc.cellsL (([] : List En) : List En))), (43, (Enc.cellsL (x12 : List En)))], [], [], 0, false⟩
   let G9 : St := ⟨[(26, (Enc.cells (x1 : Trc))), (43, (Enc.cells (x3 : En))), (43, (Enc.cellsL (([] : List En) : List En))), (43, (Enc.cellsL (x12 : List En))), (26, [.bsl 3 0 (List.length x12) 4 false, .raw (.int .u8 ((Ed.mk 0 0).k)), .raw (.int .i64 ((Ed.mk 0 0).c))])], [], [], 0, false⟩
   let G10 : St := ⟨[(26, (Enc.cells (x1 : Trc))), (43, (Enc.cells (x3 : En))), (43, (Enc.cellsL (([] : List En) : List En))), (26, [.bsl 4 0 (List.length x12) 4 false, .raw (.int .u8 ((Ed.mk 0 0).k)), .raw (.int .i64 ((Ed.mk 0 0).c))]), (43, (Enc.cellsL (x12 : List En)))], [], [], 0, false⟩
   let G11 : St := ⟨[(26, (Enc.cells (x1 : Trc))), (43, (Enc.cells (x3 : En))), (26, [.bsl 4 0 (List.length x12) 4 false, .raw (.int .u8 ((Ed.mk 0 0).k)), .raw (.int .i64 ((Ed.mk 0 0).c))]), (43, (Enc.cellsL (([] : List En) : List En))), (43, (Enc.cellsL (x12 : List En)))], [], [], 0, false⟩
   obtain ⟨ps0, hps0⟩ : ∃ ps : List (Option (Nat × AV)), ps = [some (62, v62), some (63, v63), some (64, v64), some (65, .raw (.int .i64 (Int.tmod at_ ((List.length x1.l : Int) + 1)))), some (66, v66), some (67, v67), some (68, v68), some (69, v69), some (70, v70), some (13, v13_2), none] := ⟨_, rfl⟩
   let N0 : Nat → Nat → St → Prop := fun k m σ => aN (ITP Tryd.prog) Tryd.prog none ops FIN S0 ps0 11 k m σ
   obtain ⟨ps1, hps1⟩ : ∃ ps : List (Option (Nat × AV)), ps = [some (62, v62), some (63, v63), some (64, v64), some (65, .raw (.int .i64 (Int.tmod at_ ((List.length x1.l : Int) + 1)))), some (66, v66), some (67, v67), some (68, v68_1), some (69, v69), some (70, v70_1), some (13, v13_1), none] := ⟨_, rfl⟩
   let N1 : Nat → Nat → St → Prop := fun k m σ => aN (ITP Tryd.prog) Tryd.prog none ops FIN S0 ps1 11 k m σ
   obtain ⟨ps2, hps2⟩ : ∃ ps : List (Option (Nat × AV)), ps = [some (62, v62), some (63, v63), some (64, v64_1), some (65, .raw (.int .i64 (Int.tmod at_ ((List.length x1.l : Int) + 1)))), some (66, v66), some (67, v67), some (68, v68_1), some (69, v69), some (70, v70_1), some (13, v13), none] := ⟨_, rfl⟩
   let N2 : Nat → Nat → St → Prop := fun k m σ => aN (ITP Tryd.prog) Tryd.prog none ops FIN S0 ps2 11 k m σ
   have n122 : N2 0 2047 G11 := by
    exact aN_0 hops hS0 hps2 (hFIN _ _ (wm_keep (false :: true :: true :: true :: false :: false :: false :: false :: true :: true :: true :: true :: false :: true :: false :: false :: false :: false :: false :: false :: true :: true :: false :: false :: true :: true :: true :: false :: false :: true :: false :: false :: false :: false :: true :: false :: true :: true :: false :: true :: true :: false :: true :: true :: false :: true :: true :: true :: true :: false :: true :: true :: false :: true :: true :: true :: false :: false :: true :: true :: false :: false :: false :: false :: false :: true :: false :: false :: false :: false :: false :: false :: false :: false :: false :: false :: false :: false :: false :: false :: false :: false :: false :: false :: false :: false :: false :: false :: false :: false :: false :: false :: false :: false :: false :: false :: false :: false :: false :: false :: false :: false :: false :: false :: false :: false :: false :: false :: false :: false :: false :: false :: false :: false :: false :: false :: false :: false :: false :: false :: false :: false :: false :: false :: false :: false :: false :: false :: false :: false :: false :: false :: false :: false :: false :: false :: false :: false :: false :: false :: false :: false :: false :: false :: false :: false :: false :: false :: false :: false :: false :: []) 0 [] [0, 2] 1 (Nat.le_refl _) rfl (fgK_f (fgK_t (mapK_clo _ _ _ rfl) (fgK_t (mapK_clo _ _ _ rfl) (fgK_t (mapK_clo _ _ _ rfl) (fgK_f (fgK_f (fgK_f (fgK_f (fgK_t (mapK_clo _ _ _ rfl) (fgK_t rfl (fgK_t (mapK_clo _ _ _ rfl) (fgK_t (mapK_clo _ _ _ rfl) (fgK_f (fgK_t rfl (fgK_f (fgK_f (fgK_f (fgK_f (fgK_f (fgK_f (fgK_t (mapK_clo _ _ _ rfl) (fgK_t (mapK_clo _ _ _ rfl) (fgK_f (fgK_f (fgK_t (mapK_clo _ _ _ rfl) (fgK_t (mapK_clo _ _ _ rfl) (fgK_t (mapK_clo _ _ _ rfl) (fgK_f (fgK_f (fgK_t (mapK_clo _ _ _ rfl) (fgK_f (fgK_f (fgK_f (fgK_f (fgK_t (mapK_clo _ _ _ rfl) (fgK_f (fgK_t (mapK_clo _ _ _ rfl) (fgK_t (mapK_clo _ _ _ rfl) (fgK_f (fgK_t (mapK_clo _ _ _ rfl) (fgK_t (mapK_clo _ _ _ rfl) (fgK_f (fgK_t (mapK_clo _ _ _ rfl) (fgK_t (mapK_clo _ _ _ rfl) (fgK_f (fgK_t (mapK_clo _ _ _ rfl) (fgK_t (mapK_clo _ _ _ rfl) (fgK_t (mapK_clo _ _ _ rfl) (fgK_t (mapK_clo _ _ _ rfl) (fgK_f (fgK_t (mapK_clo _ _ _ rfl) (fgK_t (mapK_clo _ _ _ rfl) (fgK_f (fgK_t (mapK_clo _ _ _ rfl) (fgK_t (mapK_clo _ _ _ rfl) (fgK_t (mapK_clo _ _ _ rfl) (fgK_f (fgK_f (fgK_t (mapK_clo _ _ _ rfl) (fgK_t (mapK_clo _ _ _ rfl) (fgK_f (fgK_f (fgK_f (fgK_f (fgK_f (fgK_t (mapK_clo _ _ _ rfl) (fgK_f (fgK_f (fgK_f (fgK_f (fgK_f (fgK_f (fgK_f (fgK_f (fgK_f (fgK_f (fgK_f (fgK_f (fgK_f (fgK_f (fgK_f (fgK_f (fgK_f (fgK_f (fgK_f (fgK_f (fgK_f (fgK_f (fgK_f (fgK_f (fgK_f (fgK_f (fgK_f (fgK_f (fgK_f (fgK_f (fgK_f (fgK_f (fgK_f (fgK_f (fgK_f (fgK_f (fgK_f (fgK_f (fgK_f (fgK_f (fgK_f (fgK_f (fgK_f (fgK_f (fgK_f (fgK_f (fgK_f (fgK_f (fgK_f (fgK_f (fgK_f (fgK_f (fgK_f (fgK_f (fgK_f (fgK_f (fgK_f (fgK_f (fgK_f (fgK_f (fgK_f (fgK_f (fgK_f (fgK_f (fgK_f (fgK_f (fgK_f (fgK_f (fgK_f (fgK_f (fgK_f (fgK_f (fgK_f (fgK_f (fgK_f (fgK_f (fgK_f (fgK_f (fgK_f (fgK_f (fgK_f (fgK_f (fgK_f (fgK_f (fgK_f fgK_nil))))))))))))))))))))))))))))))))))))))))))))))))))))))))))))))))))))))))))))))))))))))))))))))))))))))))))))))))))))))))))))))))))))))))))))))))))))))) (keep_of (keep_cons rfl (mapKL_clo _ _ _ (Enc.clo _)) (keep_cons rfl (mapKL_cons' (kz_bsl (α := En) (t := 43) (l := x12) rfl rfl rfl) (mapKL_cons' (mapK_clo _ _ _ rfl) (mapKL_cons' (mapK_clo _ _ _ rfl) mapKL_nil'))) keep_nil)) rfl)))
   have n121 : N1 0 2047 G10 := by
    exact aN_0 hops hS0 hps1 (hFIN _ _ (wm_keep (false :: true :: true :: true :: false :: false :: false :: false :: true :: true :: true :: true :: false :: true :: false :: false :: false :: false :: false :: false :: true :: true :: false :: false :: true :: true :: true :: false :: false :: true :: false :: false :: false :: false :: true :: false :: true :: true :: false :: true :: true :: false :: true :: true :: false :: true :: true :: true :: true :: false :: true :: true :: false :: true :: true :: true :: false :: false :: true :: true :: false :: false :: false :: false :: false :: true :: false :: false :: false :: false :: false :: false :: false :: false :: false :: false :: false :: false :: false :: false :: false :: false :: false :: false :: false :: false :: false :: false :: false :: false :: false :: false :: false :: false :: false :: false :: false :: false :: false :: false :: false :: false :: false :: false :: false :: false :: false :: false :: false :: false :: false :: false :: false :: false :: false :: false :: false :: false :: false :: false :: false :: false :: false :: false :: false :: false :: false :: false :: false :: false :: false :: false :: false :: false :: false :: false :: false :: false :: false :: false :: false :: false :: false :: false :: false :: false :: false :: false :: false :: false :: false :: []) 0 [] [0, 3] 1 (Nat.le_refl _) rfl (fgK_f (fgK_t (mapK_clo _ _ _ rfl) (fgK_t (mapK_clo _ _ _ rfl) (fgK_t (mapK_clo _ _ _ rfl) (fgK_f (fgK_f (fgK_f (fgK_f (fgK_t (mapK_clo _ _ _ rfl) (fgK_t rfl (fgK_t (mapK_clo _ _ _ rfl) (fgK_t (mapK_clo _ _ _ rfl) (fgK_f (fgK_t rfl (fgK_f (fgK_f (fgK_f (fgK_f (fgK_f (fgK_f (fgK_t (mapK_clo _ _ _ rfl) (fgK_t (mapK_clo _ _ _ rfl) (fgK_f (fgK_f (fgK_t (mapK_clo _ _ _ rfl) (fgK_t (mapK_clo _ _ _ rfl) (fgK_t (mapK_clo _ _ _ rfl) (fgK_f (fgK_f (fgK_t (mapK_clo _ _ _ rfl) (fgK_f (fgK_f (fgK_f (fgK_f (fgK_t (mapK_clo _ _ _ rfl) (fgK_f (fgK_t (mapK_clo _ _ _ rfl) (fgK_t (mapK_clo _ _ _ rfl) (fgK_f (fgK_t (mapK_clo _ _ _ rfl) (fgK_t (mapK_clo _ _ _ rfl) (fgK_f (fgK_t (mapK_clo _ _ _ rfl) (fgK_t (mapK_clo _ _ _ rfl) (fgK_f (fgK_t (mapK_clo _ _ _ rfl) (fgK_t (mapK_clo _ _ _ rfl) (fgK_t (mapK_clo _ _ _ rfl) (fgK_t (mapK_clo _ _ _ rfl) (fgK_f (fgK_t (mapK_clo _ _ _ rfl) (fgK_t (mapK_clo _ _ _ rfl) (fgK_f (fgK_t (mapK_clo _ _ _ rfl) (fgK_t (mapK_clo _ _ _ rfl) (fgK_t (mapK_clo _ _ _ rfl) (fgK_f (fgK_f (fgK_t (mapK_clo _ _ _ rfl) (fgK_t (mapK_clo _ _ _ rfl) (fgK_f (fgK_f (fgK_f (fgK_f (fgK_f (fgK_t (mapK_clo _ _ _ rfl) (fgK_f (fgK_f (fgK_f (fgK_f (fgK_f (fgK_f (fgK_f (fgK_f (fgK_f (fgK_f (fgK_f (fgK_f (fgK_f (fgK_f (fgK_f (fgK_f (fgK_f (fgK_f (fgK_f (fgK_f (fgK_f (fgK_f (fgK_f (fgK_f (fgK_f (fgK_f (fgK_f (fgK_f (fgK_f (fgK_f (fgK_f (fgK_f (fgK_f (fgK_f (fgK_f (fgK_f (fgK_f (fgK_f (fgK_f (fgK_f (fgK_f (fgK_f (fgK_f (fgK_f (fgK_f (fgK_f (fgK_f (fgK_f (fgK_f (fgK_f (fgK_f (fgK_f (fgK_f (fgK_f (fgK_f (fgK_f (fgK_f (fgK_f (fgK_f (fgK_f (fgK_f (fgK_f (fgK_f (fgK_f (fgK_f (fgK_f (fgK_f (fgK_f (fgK_f (fgK_f (fgK_f (fgK_f (fgK_f (fgK_f (fgK_f (fgK_f (fgK_f (fgK_f (fgK_f (fgK_f (fgK_f (fgK_f (fgK_f (fgK_f (fgK_f fgK_nil))))))))))))))))))))))))))))))))))))))))))))))))))))))))))))))))))))))))))))))))))))))))))))))))))))))))))))))))))))))))))))))))))))))))))))))))))))))) (keep_of (keep_cons rfl (mapKL_clo _ _ _ (Enc.clo _)) (keep_cons rfl (mapKL_cons' (kz_bsl (α := En) (t := 43) (l := x12) rfl rfl rfl) (mapKL_cons' (mapK_clo _ _ _ rfl) (mapKL_cons' (mapK_clo _ _ _ rfl) mapKL_nil'))) keep_nil)) rfl)))
   have n120 : N0 0 2047 G9 := by
    exact aN_0 hops hS0 hps0 (hFIN _ _ (wm_keep (false :: true :: true :: true :: false :: false :: false :: false :: true :: true :: true :: true :: false :: true :: false :: false :: false :: false :: false :: false :: true :: true :: false :: false :: true :: true :: true :: false :: false :: true :: false :: false :: false :: false :: true :: false :: true :: true :: false :: true :: true :: false :: true :: true :: false :: true :: true :: true :: true :: false :: true :: true :: false :: true :: true :: true :: false :: false :: true :: true :: false :: false :: false :: false :: false :: true :: false :: false :: false :: false :: false :: false :: false :: false :: false :: false :: false :: false :: false :: false :: false :: false :: false :: false :: false :: false :: false :: false :: false :: false :: false :: false :: false :: false :: false :: false :: false :: false :: false :: false :: false :: false :: false :: false :: false :: false :: false :: false :: false :: false :: false :: false :: false :: false :: false :: false :: false :: false :: false :: false :: false :: false :: false :: false :: false :: false :: false :: false :: false :: false :: false :: false :: false :: false :: false :: false :: false :: false :: false :: false :: false :: false :: false :: false :: false :: false :: false :: false :: false :: false :: false :: []) 0 [] [0, 4] 1 (Nat.le_refl _) rfl (fgK_f (fgK_t (mapK_clo _ _ _ rfl) (fgK_t (mapK_clo _ _ _ rfl) (fgK_t (mapK_clo _ _ _ rfl) (fgK_f (fgK_f (fgK_f (fgK_f (fgK_t (mapK_clo _ _ _ rfl) (fgK_t rfl (fgK_t (mapK_clo _ _ _ rfl) (fgK_t (mapK_clo _ _ _ rfl) (fgK_f (fgK_t rfl (fgK_f (fgK_f (fgK_f (fgK_f (fgK_f (fgK_f (fgK_t (mapK_clo _ _ _ rfl) (fgK_t (mapK_clo _ _ _ rfl) (fgK_f (fgK_f (fgK_t (mapK_clo _ _ _ rfl) (fgK_t (mapK_clo _ _ _ rfl) (fgK_t (mapK_clo _ _ _ rfl) (fgK_f (fgK_f (fgK_t (mapK_clo _ _ _ rfl) (fgK_f (fgK_f (fgK_f (fgK_f (fgK_t (mapK_clo _ _ _ rfl) (fgK_f (fgK_t (mapK_clo _ _ _ rfl) (fgK_t (mapK_clo _ _ _ rfl) (fgK_f (fgK_t (mapK_clo _ _ _ rfl) (fgK_t (mapK_clo _ _ _ rfl) (fgK_f (fgK_t (mapK_clo _ _ _ rfl) (fgK_t (mapK_clo _ _ _ rfl) (fgK_f (fgK_t (mapK_clo _ _ _ rfl) (fgK_t (mapK_clo _ _ _ rfl) (fgK_t (mapK_clo _ _ _ rfl) (fgK_t (mapK_clo _ _ _ rfl) (fgK_f (fgK_t (mapK_clo _ _ _ rfl) (fgK_t (mapK_clo _ _ _ rfl) (fgK_f (fgK_t (mapK_clo _ _ _ rfl) (fgK_t (mapK_clo _ _ _ rfl) (fgK_t (mapK_clo _ _ _ rfl) (fgK_f (fgK_f (fgK_t (mapK_clo _ _ _ rfl) (fgK_t (mapK_clo _ _ _ rfl) (fgK_f (fgK_f (fgK_f (fgK_f (fgK_f (fgK_t (mapK_clo _ _ _ rfl) (fgK_f (fgK_f (fgK_f (fgK_f (fgK_f (fgK_f (fgK_f (fgK_f (fgK_f (fgK_f (fgK_f (fgK_f (fgK_f (fgK_f (fgK_f (fgK_f (fgK_f (fgK_f (fgK_f (fgK_f (fgK_f (fgK_f (fgK_f (fgK_f (fgK_f (fgK_f (fgK_f (fgK_f (fgK_f (fgK_f (fgK_f (fgK_f (fgK_f (fgK_f (fgK_f (fgK_f (fgK_f (fgK_f (fgK_f (fgK_f (fgK_f (fgK_f (fgK_f (fgK_f (fgK_f (fgK_f (fgK_f (fgK_f (fgK_f (fgK_f (fgK_f (fgK_f (fgK_f (fgK_f (fgK_f (fgK_f (fgK_f (fgK_f (fgK_f (fgK_f (fgK_f (fgK_f (fgK_f (fgK_f (fgK_f (fgK_f (fgK_f (fgK_f (fgK_f (fgK_f (fgK_f (fgK_f (fgK_f (fgK_f (fgK_f (fgK_f (fgK_f (fgK_f (fgK_f (fgK_f (fgK_f (fgK_f (fgK_f (fgK_f (fgK_f fgK_nil))))))))))))))))))))))))))))))))))))))))))))))))))))))))))))))))))))))))))))))))))))))))))))))))))))))))))))))))))))))))))))))))))))))))))))))))))))))) (keep_of (keep_cons rfl (mapKL_clo _ _ _ (Enc.clo _)) (keep_cons rfl (mapKL_cons' (kz_bsl (α := En) (t := 43) (l := x12) rfl rfl rfl) (mapKL_cons' (mapK_clo _ _ _ rfl) (mapKL_cons' (mapK_clo _ _ _ rfl) mapKL_nil'))) keep_nil)) rfl)))
   have n119 : N2 1 1023 G8 := by
    refine aN_1 hops hS0 hps2 10 ?_
    ·
     refine w_opm (σ'' := G11) rfl rfl rfl (op_storeW (n := 3) rfl rfl rfl rfl rfl rfl rfl rfl (by decide)) (by dsimp only [aput, List.set]) rfl ?_
     exact aN_of n122 hS0 hps2
   have n118 : N1 1 1023 G7 := by
    refine aN_1 hops hS0 hps1 10 ?_
    ·
     refine w_opm (σ'' := G10) rfl rfl rfl (op_storeW (n := 3) rfl rfl rfl rfl rfl rfl rfl rfl (by decide)) (by dsimp only [aput, List.set]) rfl ?_
     exact aN_of n121 hS0 hps1
   have n117 : N0 1 1023 G6 := by
    refine aN_1 hops hS0 hps0 10 ?_
    ·
     refine w_opm (σ'' := G9) rfl rfl rfl (op_storeW (n := 3) rfl rfl rfl rfl rfl rfl rfl rfl (by decide)) (by dsimp only [aput, List.set]) rfl ?_
     exact aN_of n120 hS0 hps0
   have n116 : N2 2 767 G8 := by
    refine aN_1 hops hS0 hps2 8 ?_
    ·
     refine w_op (a := v70_1) rfl rfl rfl rfl (by dsimp only [aput, List.set]) ?_
     exact aN_of n119 hS0 hps2
   have n115 : N1 2 767 G7 := by
    refine aN_1 hops hS0 hps1 8 ?_
    ·
     refine w_op (a := v70_1) rfl rfl rfl rfl (by dsimp only [aput, List.set]) ?_
     exact aN_of n118 hS0 hps1
   have n114 : N0 2 767 G6 := by
    refine aN_1 hops hS0 hps0 8 ?_
    ·
     refine w_op (a := v70) rfl rfl rfl rfl (by dsimp only [aput, List.set]) ?_
     exact aN_of n117 hS0 hps0
   have n113 : N0 2 511 G5 := by
    refine aN_1 hops hS0 hps0 9 ?_
    ·
     refine w_opm (a := v13_2) (σ'' := G6) rfl rfl rfl rfl (by dsimp only [aput, List.set]) rfl ?_
     exact aN_of n117 hS0 hps0
   have n112 : N2 3 639 G8 := by
    refine aN_1 hops hS0 hps2 7 ?_
    ·
     refine w_op (a := v69) rfl rfl rfl rfl (by dsimp only [aput, List.set]) ?_
     exact aN_of n116 hS0 hps2
   have n111 : N2 3 703 G4 := by
    refine aN_1 hops hS0 hps2 6 ?_
    ·
     refine w_snd (r := v68_1) (σ' := ⟨[(26, (Enc.cells (x1 : Trc))), (43, (Enc.cells (x3 : En))), (26, [.list 0 [] .full, .raw (.int .u8 0), .raw (.int .i64 0)]), (43, (Enc.cellsL (([] : List En) : List En))), (43, (Enc.cellsL (x12 : List En)))], [], [], 0, false⟩) (insT_snd x1.l [x3] (Int.tmod at_ ((List.length x1.l : Int) + 1)) _ _ 3 4 x12 hx12 g13 rfl rfl) rfl rfl ⟨rfl, rfl⟩ (by dsimp only [aput, List.set]) ?_
     exact aN_of n116 hS0 hps2
   have n110 : N1 3 639 G7 := by
    refine aN_1 hops hS0 hps1 7 ?_
    ·
     refine w_op (a := v69) rfl rfl rfl rfl (by dsimp only [aput, List.set]) ?_
     exact aN_of n115 hS0 hps1
   have n109 : N1 3 703 G3 := by
    refine aN_1 hops hS0 hps1 6 ?_
    ·
     refine w_snd (r := v68_1) (σ' := ⟨[(26, (Enc.cells (x1 : Trc))), (43, (Enc.cells (x3 : En))), (43, (Enc.cellsL (([] : List En) : List En))), (26, [.list 0 [] .full, .raw (.int .u8 0), .raw (.int .i64 0)]), (43, (Enc.cellsL (x12 : List En)))], [], [], 0, false⟩) (insT_snd x1.l [x3] (Int.tmod at_ ((List.length x1.l : Int) + 1)) _ _ 2 4 x12 hx12 g13 rfl rfl) rfl rfl ⟨rfl, rfl⟩ (by dsimp only [aput, List.set]) ?_
     exact aN_of n115 hS0 hps1
   have n108 : N0 3 639 G6 := by
    refine aN_1 hops hS0 hps0 7 ?_
    ·
     refine w_op (a := v69) rfl rfl rfl rfl (by dsimp only [aput, List.set]) ?_
     exact aN_of n114 hS0 hps0
   have n107 : N0 3 255 G5 := by
    refine aN_2 hops hS0 hps0 8 9 ?_ ?_
    ·
     refine w_op (a := v70) rfl rfl rfl rfl (by dsimp only [aput, List.set]) ?_
     exact aN_of n113 hS0 hps0
    ·
     refine w_opm (a := v13_2) (σ'' := G6) rfl rfl rfl rfl (by dsimp only [aput, List.set]) rfl ?_
     exact aN_of n114 hS0 hps0
   have n106 : N2 4 695 G4 := by
    refine aN_1 hops hS0 hps2 3 ?_
    ·
     refine w_mv ?_
     exact aN_of n111 hS0 hps2
   have n105 : N2 4 671 G4 := by
    refine aN_1 hops hS0 hps2 5 ?_
    ·
     refine w_op (a := v67) rfl rfl rfl (op_q (q_lit (α := En) (l := [x3]) (cs := Enc.cells (x3 : En) ++ []) rfl (by rw [Enc.cons, Enc.nil]))) (by dsimp only [aput, List.set]) ?_
     exact aN_of n111 hS0 hps2
   have n104 : N2 4 575 G4 := by
    refine aN_2 hops hS0 hps2 6 7 ?_ ?_
    ·
     refine w_snd (r := v68_1) (σ' := ⟨[(26, (Enc.cells (x1 : Trc))), (43, (Enc.cells (x3 : En))), (26, [.list 0 [] .full, .raw (.int .u8 0), .raw (.int .i64 0)]), (43, (Enc.cellsL (([] : List En) : List En))), (43, (Enc.cellsL (x12 : List En)))], [], [], 0, false⟩) (insT_snd x1.l [x3] (Int.tmod at_ ((List.length x1.l : Int) + 1)) _ _ 3 4 x12 hx12 g13 rfl rfl) rfl rfl ⟨rfl, rfl⟩ (by dsimp only [aput, List.set]) ?_
     exact aN_of n112 hS0 hps2
    ·
     refine w_op (a := v69) rfl rfl rfl rfl (by dsimp only [aput, List.set]) ?_
     exact aN_of n111 hS0 hps2
   have n103 : N2 4 699 G1 := by
    refine aN_1 hops hS0 hps2 2 ?_
    ·
     refine w_snd (r := v64_1) (σ' := ⟨[(26, (Enc.cells (x1 : Trc))), (43, (Enc.cells (x3 : En))), (26, [.list 0 [] .full, .raw (.int .u8 0), .raw (.int .i64 0)]), (43, (Enc.cellsL (x1.l : List En)))], [], [], 0, false⟩) (cloneT_some x1.l g12 hc1 3 _ rfl) rfl rfl ⟨rfl, rfl⟩ (by dsimp only [aput, List.set]) ?_
     exact aN_of n111 hS0 hps2
   have n102 : N1 4 695 G3 := by
    refine aN_1 hops hS0 hps1 3 ?_
    ·
     refine w_mv ?_
     exact aN_of n109 hS0 hps1
   have n101 : N1 4 671 G3 := by
    refine aN_1 hops hS0 hps1 5 ?_
    ·
     refine w_op (a := v67) rfl rfl rfl (op_q (q_lit (α := En) (l := [x3]) (cs := Enc.cells (x3 : En) ++ []) rfl (by rw [Enc.cons, Enc.nil]))) (by dsimp only [aput, List.set]) ?_
     exact aN_of n109 hS0 hps1
   have n100 : N1 4 575 G3 := by
    refine aN_2 hops hS0 hps1 6 7 ?_ ?_
    ·
     refine w_snd (r := v68_1) (σ' := ⟨[(26, (Enc.cells (x1 : Trc))), (43, (Enc.cells (x3 : En))), (43, (Enc.cellsL (([] : List En) : List En))), (26, [.list 0 [] .full, .raw (.int .u8 0), .raw (.int .i64 0)]), (43, (Enc.cellsL (x12 : List En)))], [], [], 0, false⟩) (insT_snd x1.l [x3] (Int.tmod at_ ((List.length x1.l : Int) + 1)) _ _ 2 4 x12 hx12 g13 rfl rfl) rfl rfl ⟨rfl, rfl⟩ (by dsimp only [aput, List.set]) ?_
     exact aN_of n110 hS0 hps1
    ·
     refine w_op (a := v69) rfl rfl rfl rfl (by dsimp only [aput, List.set]) ?_
     exact aN_of n109 hS0 hps1
   have n99 : N0 4 191 G2 := by
    refine aN_2 hops hS0 hps0 6 9 ?_ ?_
    ·
     refine w_snd (r := v68) (σ' := ⟨[(26, (Enc.cells (x1 : Trc))), (43, (Enc.cells (x3 : En))), (43, (Enc.cellsL (([] : List En) : List En))), (43, (Enc.cellsL (x12 : List En)))], [], [], 0, false⟩) (insT_snd x1.l [x3] (Int.tmod at_ ((List.length x1.l : Int) + 1)) _ _ 2 3 x12 hx12 g13 rfl rfl) rfl rfl ⟨rfl, rfl⟩ (by dsimp only [aput, List.set]) ?_
     exact aN_of n107 hS0 hps0
    ·
     refine w_opm (a := v13_1) (σ'' := G3) rfl rfl rfl rfl (by dsimp only [aput, List.set]) rfl ?_
     exact aN_of n109 hS0 hps1
   have n98 : N0 4 127 G5 := by
    refine aN_2 hops hS0 hps0 7 9 ?_ ?_
    ·
     refine w_op (a := v69) rfl rfl rfl rfl (by dsimp only [aput, List.set]) ?_
     exact aN_of n107 hS0 hps0
    ·
     refine w_opm (a := v13_2) (σ'' := G6) rfl rfl rfl rfl (by dsimp only [aput, List.set]) rfl ?_
     exact aN_of n108 hS0 hps0
   have n97 : N2 5 697 G1 := by
    refine aN_1 hops hS0 hps2 1 ?_
    ·
     refine w_op (a := v63) rfl rfl rfl rfl (by dsimp only [aput, List.set]) ?_
     exact aN_of n103 hS0 hps2
   have n96 : N2 5 663 G4 := by
    refine aN_2 hops hS0 hps2 3 5 ?_ ?_
    ·
     refine w_mv ?_
     exact aN_of n105 hS0 hps2
    ·
     refine w_op (a := v67) rfl rfl rfl (op_q (q_lit (α := En) (l := [x3]) (cs := Enc.cells (x3 : En) ++ []) rfl (by rw [Enc.cons, Enc.nil]))) (by dsimp only [aput, List.set]) ?_
     exact aN_of n106 hS0 hps2
   have n95 : N2 5 567 G4 := by
    refine aN_2 hops hS0 hps2 3 7 ?_ ?_
    ·
     refine w_mv ?_
     exact aN_of n104 hS0 hps2
    ·
     refine w_op (a := v69) rfl rfl rfl rfl (by dsimp only [aput, List.set]) ?_
     exact aN_of n106 hS0 hps2
   have n94 : N2 5 691 G1 := by
    refine aN_2 hops hS0 hps2 2 3 ?_ ?_
    ·
     refine w_snd (r := v64_1) (σ' := ⟨[(26, (Enc.cells (x1 : Trc))), (43, (Enc.cells (x3 : En))), (26, [.list 0 [] .full, .raw (.int .u8 0), .raw (.int .i64 0)]), (43, (Enc.cellsL (x1.l : List En)))], [], [], 0, false⟩) (cloneT_some x1.l g12 hc1 3 _ rfl) rfl rfl ⟨rfl, rfl⟩ (by dsimp only [aput, List.set]) ?_
     exact aN_of n106 hS0 hps2
    ·
     refine w_mv ?_
     exact aN_of n103 hS0 hps2
   have n93 : N2 5 655 G4 := by
    refine aN_1 hops hS0 hps2 4 ?_
    ·
     refine w_op (a := v66) rfl rfl rfl rfl (by dsimp only [aput, List.set]) ?_
     exact aN_of n105 hS0 hps2
   have n92 : N2 5 543 G4 := by
    refine aN_2 hops hS0 hps2 5 7 ?_ ?_
    ·
     refine w_op (a := v67) rfl rfl rfl (op_q (q_lit (α := En) (l := [x3]) (cs := Enc.cells (x3 : En) ++ []) rfl (by rw [Enc.cons, Enc.nil]))) (by dsimp only [aput, List.set]) ?_
     exact aN_of n104 hS0 hps2
    ·
     refine w_op (a := v69) rfl rfl rfl rfl (by dsimp only [aput, List.set]) ?_
     exact aN_of n105 hS0 hps2
   have n91 : N2 5 667 G1 := by
    refine aN_2 hops hS0 hps2 2 5 ?_ ?_
    ·
     refine w_snd (r := v64_1) (σ' := ⟨[(26, (Enc.cells (x1 : Trc))), (43, (Enc.cells (x3 : En))), (26, [.list 0 [] .full, .raw (.int .u8 0), .raw (.int .i64 0)]), (43, (Enc.cellsL (x1.l : List En)))], [], [], 0, false⟩) (cloneT_some x1.l g12 hc1 3 _ rfl) rfl rfl ⟨rfl, rfl⟩ (by dsimp only [aput, List.set]) ?_
     exact aN_of n105 hS0 hps2
    ·
     refine w_op (a := v67) rfl rfl rfl (op_q (q_lit (α := En) (l := [x3]) (cs := Enc.cells (x3 : En) ++ []) rfl (by rw [Enc.cons, Enc.nil]))) (by dsimp only [aput, List.set]) ?_
     exact aN_of n103 hS0 hps2
   have n90 : N2 5 571 G1 := by
    refine aN_2 hops hS0 hps2 2 7 ?_ ?_
    ·
     refine w_snd (r := v64_1) (σ' := ⟨[(26, (Enc.cells (x1 : Trc))), (43, (Enc.cells (x3 : En))), (26, [.list 0 [] .full, .raw (.int .u8 0), .raw (.int .i64 0)]), (43, (Enc.cellsL (x1.l : List En)))], [], [], 0, false⟩) (cloneT_some x1.l g12 hc1 3 _ rfl) rfl rfl ⟨rfl, rfl⟩ (by dsimp only [aput, List.set]) ?_
     exact aN_of n104 hS0 hps2
    ·
     refine w_op (a := v69) rfl rfl rfl rfl (by dsimp only [aput, List.set]) ?_
     exact aN_of n103 hS0 hps2
   have n89 : N0 5 187 G0 := by
    refine aN_2 hops hS0 hps0 2 9 ?_ ?_
    ·
     refine w_snd (r := v64) (σ' := ⟨[(26, (Enc.cells (x1 : Trc))), (43, (Enc.cells (x3 : En))), (43, (Enc.cellsL (x1.l : List En)))], [], [], 0, false⟩) (cloneT_some x1.l g12 hc1 2 _ rfl) rfl rfl ⟨rfl, rfl⟩ (by dsimp only [aput, List.set]) ?_
     exact aN_of n99 hS0 hps0
    ·
     refine w_opm (a := v13) (σ'' := G1) rfl rfl rfl rfl (by dsimp only [aput, List.set]) rfl ?_
     exact aN_of n103 hS0 hps2
   have n88 : N1 5 663 G3 := by
    refine aN_2 hops hS0 hps1 3 5 ?_ ?_
    ·
     refine w_mv ?_
     exact aN_of n101 hS0 hps1
    ·
     refine w_op (a := v67) rfl rfl rfl (op_q (q_lit (α := En) (l := [x3]) (cs := Enc.cells (x3 : En) ++ []) rfl (by rw [Enc.cons, Enc.nil]))) (by dsimp only [aput, List.set]) ?_
     exact aN_of n102 hS0 hps1
   have n87 : N1 5 567 G3 := by
    refine aN_2 hops hS0 hps1 3 7 ?_ ?_
    ·
     refine w_mv ?_
     exact aN_of n100 hS0 hps1
    ·
     refine w_op (a := v69) rfl rfl rfl rfl (by dsimp only [aput, List.set]) ?_
     exact aN_of n102 hS0 hps1
   have n86 : N0 5 183 G2 := by
    refine aN_2 hops hS0 hps0 3 9 ?_ ?_
    ·
     refine w_mv ?_
     exact aN_of n99 hS0 hps0
    ·
     refine w_opm (a := v13_1) (σ'' := G3) rfl rfl rfl rfl (by dsimp only [aput, List.set]) rfl ?_
     exact aN_of n102 hS0 hps1
   have n85 : N1 5 655 G3 := by
    refine aN_1 hops hS0 hps1 4 ?_
    ·
     refine w_op (a := v66) rfl rfl rfl rfl (by dsimp only [aput, List.set]) ?_
     exact aN_of n101 hS0 hps1
   have n84 : N1 5 543 G3 := by
    refine aN_2 hops hS0 hps1 5 7 ?_ ?_
    ·
     refine w_op (a := v67) rfl rfl rfl (op_q (q_lit (α := En) (l := [x3]) (cs := Enc.cells (x3 : En) ++ []) rfl (by rw [Enc.cons, Enc.nil]))) (by dsimp only [aput, List.set]) ?_
     exact aN_of n100 hS0 hps1
    ·
     refine w_op (a := v69) rfl rfl rfl rfl (by dsimp only [aput, List.set]) ?_
     exact aN_of n101 hS0 hps1
   have n83 : N0 5 159 G2 := by
    refine aN_2 hops hS0 hps0 5 9 ?_ ?_
    ·
     refine w_op (a := v67) rfl rfl rfl (op_q (q_lit (α := En) (l := [x3]) (cs := Enc.cells (x3 : En) ++ []) rfl (by rw [Enc.cons, Enc.nil]))) (by dsimp only [aput, List.set]) ?_
     exact aN_of n99 hS0 hps0
    ·
     refine w_opm (a := v13_1) (σ'' := G3) rfl rfl rfl rfl (by dsimp only [aput, List.set]) rfl ?_
     exact aN_of n101 hS0 hps1
   have n82 : N0 5 63 G2 := by
    refine aN_3 hops hS0 hps0 6 7 9 ?_ ?_ ?_
    ·
     refine w_snd (r := v68) (σ' := ⟨[(26, (Enc.cells (x1 : Trc))), (43, (Enc.cells (x3 : En))), (43, (Enc.cellsL (([] : List En) : List En))), (43, (Enc.cellsL (x12 : List En)))], [], [], 0, false⟩) (insT_snd x1.l [x3] (Int.tmod at_ ((List.length x1.l : Int) + 1)) _ _ 2 3 x12 hx12 g13 rfl rfl) rfl rfl ⟨rfl, rfl⟩ (by dsimp only [aput, List.set]) ?_
     exact aN_of n98 hS0 hps0
    ·
     refine w_op (a := v69) rfl rfl rfl rfl (by dsimp only [aput, List.set]) ?_
     exact aN_of n99 hS0 hps0
    ·
     refine w_opm (a := v13_1) (σ'' := G3) rfl rfl rfl rfl (by dsimp only [aput, List.set]) rfl ?_
     exact aN_of n100 hS0 hps1
   have n81 : N2 6 696 G1 := by
    refine aN_1 hops hS0 hps2 0 ?_
    ·
     refine w_op (a := v62) rfl rfl rfl rfl (by dsimp only [aput, List.set]) ?_
     exact aN_of n97 hS0 hps2
   have n80 : N2 6 689 G1 := by
    refine aN_2 hops hS0 hps2 1 3 ?_ ?_
    ·
     refine w_op (a := v63) rfl rfl rfl rfl (by dsimp only [aput, List.set]) ?_
     exact aN_of n94 hS0 hps2
    ·
     refine w_mv ?_
     exact aN_of n97 hS0 hps2
   have n79 : N2 6 665 G1 := by
    refine aN_2 hops hS0 hps2 1 5 ?_ ?_
    ·
     refine w_op (a := v63) rfl rfl rfl rfl (by dsimp only [aput, List.set]) ?_
     exact aN_of n91 hS0 hps2
    ·
     refine w_op (a := v67) rfl rfl rfl (op_q (q_lit (α := En) (l := [x3]) (cs := Enc.cells (x3 : En) ++ []) rfl (by rw [Enc.cons, Enc.nil]))) (by dsimp only [aput, List.set]) ?_
     exact aN_of n97 hS0 hps2
   have n78 : N2 6 569 G1 := by
    refine aN_2 hops hS0 hps2 1 7 ?_ ?_
    ·
     refine w_op (a := v63) rfl rfl rfl rfl (by dsimp only [aput, List.set]) ?_
     exact aN_of n90 hS0 hps2
    ·
     refine w_op (a := v69) rfl rfl rfl rfl (by dsimp only [aput, List.set]) ?_
     exact aN_of n97 hS0 hps2
   have n77 : N0 6 185 G0 := by
    refine aN_2 hops hS0 hps0 1 9 ?_ ?_
    ·
     refine w_op (a := v63) rfl rfl rfl rfl (by dsimp only [aput, List.set]) ?_
     exact aN_of n89 hS0 hps0
    ·
     refine w_opm (a := v13) (σ'' := G1) rfl rfl rfl rfl (by dsimp only [aput, List.set]) rfl ?_
     exact aN_of n97 hS0 hps2
   have n76 : N2 6 647 G4 := by
    refine aN_2 hops hS0 hps2 3 4 ?_ ?_
    ·
     refine w_mv ?_
     exact aN_of n93 hS0 hps2
    ·
     refine w_op (a := v66) rfl rfl rfl rfl (by dsimp only [aput, List.set]) ?_
     exact aN_of n96 hS0 hps2
   have n75 : N2 6 535 G4 := by
    refine aN_3 hops hS0 hps2 3 5 7 ?_ ?_ ?_
    ·
     refine w_mv ?_
     exact aN_of n92 hS0 hps2
    ·
     refine w_op (a := v67) rfl rfl rfl (op_q (q_lit (α := En) (l := [x3]) (cs := Enc.cells (x3 : En) ++ []) rfl (by rw [Enc.cons, Enc.nil]))) (by dsimp only [aput, List.set]) ?_
     exact aN_of n95 hS0 hps2
    ·
     refine w_op (a := v69) rfl rfl rfl rfl (by dsimp only [aput, List.set]) ?_
     exact aN_of n96 hS0 hps2
   have n74 : N2 6 659 G1 := by
    refine aN_3 hops hS0 hps2 2 3 5 ?_ ?_ ?_
    ·
     refine w_snd (r := v64_1) (σ' := ⟨[(26, (Enc.cells (x1 : Trc))), (43, (Enc.cells (x3 : En))), (26, [.list 0 [] .full, .raw (.int .u8 0), .raw (.int .i64 0)]), (43, (Enc.cellsL (x1.l : List En)))], [], [], 0, false⟩) (cloneT_some x1.l g12 hc1 3 _ rfl) rfl rfl ⟨rfl, rfl⟩ (by dsimp only [aput, List.set]) ?_
     exact aN_of n96 hS0 hps2
    ·
     refine w_mv ?_
     exact aN_of n91 hS0 hps2
    ·
     refine w_op (a := v67) rfl rfl rfl (op_q (q_lit (α := En) (l := [x3]) (cs := Enc.cells (x3 : En) ++ []) rfl (by rw [Enc.cons, Enc.nil]))) (by dsimp only [aput, List.set]) ?_
     exact aN_of n94 hS0 hps2
   have n73 : N2 6 563 G1 := by
    refine aN_3 hops hS0 hps2 2 3 7 ?_ ?_ ?_
    ·
     refine w_snd (r := v64_1) (σ' := ⟨[(26, (Enc.cells (x1 : Trc))), (43, (Enc.cells (x3 : En))), (26, [.list 0 [] .full, .raw (.int .u8 0), .raw (.int .i64 0)]), (43, (Enc.cellsL (x1.l : List En)))], [], [], 0, false⟩) (cloneT_some x1.l g12 hc1 3 _ rfl) rfl rfl ⟨rfl, rfl⟩ (by dsimp only [aput, List.set]) ?_
     exact aN_of n95 hS0 hps2
    ·
     refine w_mv ?_
     exact aN_of n90 hS0 hps2
    ·
     refine w_op (a := v69) rfl rfl rfl rfl (by dsimp only [aput, List.set]) ?_
     exact aN_of n94 hS0 hps2
   have n72 : N0 6 179 G0 := by
    refine aN_3 hops hS0 hps0 2 3 9 ?_ ?_ ?_
    ·
     refine w_snd (r := v64) (σ' := ⟨[(26, (Enc.cells (x1 : Trc))), (43, (Enc.cells (x3 : En))), (43, (Enc.cellsL (x1.l : List En)))], [], [], 0, false⟩) (cloneT_some x1.l g12 hc1 2 _ rfl) rfl rfl ⟨rfl, rfl⟩ (by dsimp only [aput, List.set]) ?_
     exact aN_of n86 hS0 hps0
    ·
     refine w_mv ?_
     exact aN_of n89 hS0 hps0
    ·
     refine w_opm (a := v13) (σ'' := G1) rfl rfl rfl rfl (by dsimp only [aput, List.set]) rfl ?_
     exact aN_of n94 hS0 hps2
   have n71 : N2 6 527 G4 := by
    refine aN_2 hops hS0 hps2 4 7 ?_ ?_
    ·
     refine w_op (a := v66) rfl rfl rfl rfl (by dsimp only [aput, List.set]) ?_
     exact aN_of n92 hS0 hps2
    ·
     refine w_op (a := v69) rfl rfl rfl rfl (by dsimp only [aput, List.set]) ?_
     exact aN_of n93 hS0 hps2
   have n70 : N2 6 651 G1 := by
    refine aN_2 hops hS0 hps2 2 4 ?_ ?_
    ·
     refine w_snd (r := v64_1) (σ' := ⟨[(26, (Enc.cells (x1 : Trc))), (43, (Enc.cells (x3 : En))), (26, [.list 0 [] .full, .raw (.int .u8 0), .raw (.int .i64 0)]), (43, (Enc.cellsL (x1.l : List En)))], [], [], 0, false⟩) (cloneT_some x1.l g12 hc1 3 _ rfl) rfl rfl ⟨rfl, rfl⟩ (by dsimp only [aput, List.set]) ?_
     exact aN_of n93 hS0 hps2
    ·
     refine w_op (a := v66) rfl rfl rfl rfl (by dsimp only [aput, List.set]) ?_
     exact aN_of n91 hS0 hps2
   have n69 : N2 6 539 G1 := by
    refine aN_3 hops hS0 hps2 2 5 7 ?_ ?_ ?_
    ·
     refine w_snd (r := v64_1) (σ' := ⟨[(26, (Enc.cells (x1 : Trc))), (43, (Enc.cells (x3 : En))), (26, [.list 0 [] .full, .raw (.int .u8 0), .raw (.int .i64 0)]), (43, (Enc.cellsL (x1.l : List En)))], [], [], 0, false⟩) (cloneT_some x1.l g12 hc1 3 _ rfl) rfl rfl ⟨rfl, rfl⟩ (by dsimp only [aput, List.set]) ?_
     exact aN_of n92 hS0 hps2
    ·
     refine w_op (a := v67) rfl rfl rfl (op_q (q_lit (α := En) (l := [x3]) (cs := Enc.cells (x3 : En) ++ []) rfl (by rw [Enc.cons, Enc.nil]))) (by dsimp only [aput, List.set]) ?_
     exact aN_of n90 hS0 hps2
    ·
     refine w_op (a := v69) rfl rfl rfl rfl (by dsimp only [aput, List.set]) ?_
     exact aN_of n91 hS0 hps2
   have n68 : N0 6 155 G0 := by
    refine aN_3 hops hS0 hps0 2 5 9 ?_ ?_ ?_
    ·
     refine w_snd (r := v64) (σ' := ⟨[(26, (Enc.cells (x1 : Trc))), (43, (Enc.cells (x3 : En))), (43, (Enc.cellsL (x1.l : List En)))], [], [], 0, false⟩) (cloneT_some x1.l g12 hc1 2 _ rfl) rfl rfl ⟨rfl, rfl⟩ (by dsimp only [aput, List.set]) ?_
     exact aN_of n83 hS0 hps0
    ·
     refine w_op (a := v67) rfl rfl rfl (op_q (q_lit (α := En) (l := [x3]) (cs := Enc.cells (x3 : En) ++ []) rfl (by rw [Enc.cons, Enc.nil]))) (by dsimp only [aput, List.set]) ?_
     exact aN_of n89 hS0 hps0
    ·
     refine w_opm (a := v13) (σ'' := G1) rfl rfl rfl rfl (by dsimp only [aput, List.set]) rfl ?_
     exact aN_of n91 hS0 hps2
   have n67 : N0 6 59 G0 := by
    refine aN_3 hops hS0 hps0 2 7 9 ?_ ?_ ?_
    ·
     refine w_snd (r := v64) (σ' := ⟨[(26, (Enc.cells (x1 : Trc))), (43, (Enc.cells (x3 : En))), (43, (Enc.cellsL (x1.l : List En)))], [], [], 0, false⟩) (cloneT_some x1.l g12 hc1 2 _ rfl) rfl rfl ⟨rfl, rfl⟩ (by dsimp only [aput, List.set]) ?_
     exact aN_of n82 hS0 hps0
    ·
     refine w_op (a := v69) rfl rfl rfl rfl (by dsimp only [aput, List.set]) ?_
     exact aN_of n89 hS0 hps0
    ·
     refine w_opm (a := v13) (σ'' := G1) rfl rfl rfl rfl (by dsimp only [aput, List.set]) rfl ?_
     exact aN_of n90 hS0 hps2
   have n66 : N1 6 647 G3 := by
    refine aN_2 hops hS0 hps1 3 4 ?_ ?_
    ·
     refine w_mv ?_
     exact aN_of n85 hS0 hps1
    ·
     refine w_op (a := v66) rfl rfl rfl rfl (by dsimp only [aput, List.set]) ?_
     exact aN_of n88 hS0 hps1
   have n65 : N1 6 535 G3 := by
    refine aN_3 hops hS0 hps1 3 5 7 ?_ ?_ ?_
    ·
     refine w_mv ?_
     exact aN_of n84 hS0 hps1
    ·
     refine w_op (a := v67) rfl rfl rfl (op_q (q_lit (α := En) (l := [x3]) (cs := Enc.cells (x3 : En) ++ []) rfl (by rw [Enc.cons, Enc.nil]))) (by dsimp only [aput, List.set]) ?_
     exact aN_of n87 hS0 hps1
    ·
     refine w_op (a := v69) rfl rfl rfl rfl (by dsimp only [aput, List.set]) ?_
     exact aN_of n88 hS0 hps1
   have n64 : N0 6 151 G2 := by
    refine aN_3 hops hS0 hps0 3 5 9 ?_ ?_ ?_
    ·
     refine w_mv ?_
     exact aN_of n83 hS0 hps0
    ·
     refine w_op (a := v67) rfl rfl rfl (op_q (q_lit (α := En) (l := [x3]) (cs := Enc.cells (x3 : En) ++ []) rfl (by rw [Enc.cons, Enc.nil]))) (by dsimp only [aput, List.set]) ?_
     exact aN_of n86 hS0 hps0
    ·
     refine w_opm (a := v13_1) (σ'' := G3) rfl rfl rfl rfl (by dsimp only [aput, List.set]) rfl ?_
     exact aN_of n88 hS0 hps1
   have n63 : N0 6 55 G2 := by
    refine aN_3 hops hS0 hps0 3 7 9 ?_ ?_ ?_
    ·
     refine w_mv ?_
     exact aN_of n82 hS0 hps0
    ·
     refine w_op (a := v69) rfl rfl rfl rfl (by dsimp only [aput, List.set]) ?_
     exact aN_of n86 hS0 hps0
    ·
     refine w_opm (a := v13_1) (σ'' := G3) rfl rfl rfl rfl (by dsimp only [aput, List.set]) rfl ?_
     exact aN_of n87 hS0 hps1
   have n62 : N1 6 527 G3 := by
    refine aN_2 hops hS0 hps1 4 7 ?_ ?_
    ·
     refine w_op (a := v66) rfl rfl rfl rfl (by dsimp only [aput, List.set]) ?_
     exact aN_of n84 hS0 hps1
    ·
     refine w_op (a := v69) rfl rfl rfl rfl (by dsimp only [aput, List.set]) ?_
     exact aN_of n85 hS0 hps1
   have n61 : N0 6 143 G2 := by
    refine aN_2 hops hS0 hps0 4 9 ?_ ?_
    ·
     refine w_op (a := v66) rfl rfl rfl rfl (by dsimp only [aput, List.set]) ?_
     exact aN_of n83 hS0 hps0
    ·
     refine w_opm (a := v13_1) (σ'' := G3) rfl rfl rfl rfl (by dsimp only [aput, List.set]) rfl ?_
     exact aN_of n85 hS0 hps1
   have n60 : N0 6 31 G2 := by
    refine aN_3 hops hS0 hps0 5 7 9 ?_ ?_ ?_
    ·
     refine w_op (a := v67) rfl rfl rfl (op_q (q_lit (α := En) (l := [x3]) (cs := Enc.cells (x3 : En) ++ []) rfl (by rw [Enc.cons, Enc.nil]))) (by dsimp only [aput, List.set]) ?_
     exact aN_of n82 hS0 hps0
    ·
     refine w_op (a := v69) rfl rfl rfl rfl (by dsimp only [aput, List.set]) ?_
     exact aN_of n83 hS0 hps0
    ·
     refine w_opm (a := v13_1) (σ'' := G3) rfl rfl rfl rfl (by dsimp only [aput, List.set]) rfl ?_
     exact aN_of n84 hS0 hps1
   have n59 : N2 7 688 G1 := by
    refine aN_2 hops hS0 hps2 0 3 ?_ ?_
    ·
     refine w_op (a := v62) rfl rfl rfl rfl (by dsimp only [aput, List.set]) ?_
     exact aN_of n80 hS0 hps2
    ·
     refine w_mv ?_
     exact aN_of n81 hS0 hps2
   have n58 : N2 7 664 G1 := by
    refine aN_2 hops hS0 hps2 0 5 ?_ ?_
    ·
     refine w_op (a := v62) rfl rfl rfl rfl (by dsimp only [aput, List.set]) ?_
     exact aN_of n79 hS0 hps2
    ·
     refine w_op (a := v67) rfl rfl rfl (op_q (q_lit (α := En) (l := [x3]) (cs := Enc.cells (x3 : En) ++ []) rfl (by rw [Enc.cons, Enc.nil]))) (by dsimp only [aput, List.set]) ?_
     exact aN_of n81 hS0 hps2
   have n57 : N2 7 568 G1 := by
    refine aN_2 hops hS0 hps2 0 7 ?_ ?_
    ·
     refine w_op (a := v62) rfl rfl rfl rfl (by dsimp only [aput, List.set]) ?_
     exact aN_of n78 hS0 hps2
    ·
     refine w_op (a := v69) rfl rfl rfl rfl (by dsimp only [aput, List.set]) ?_
     exact aN_of n81 hS0 hps2
   have n56 : N0 7 184 G0 := by
    refine aN_2 hops hS0 hps0 0 9 ?_ ?_
    ·
     refine w_op (a := v62) rfl rfl rfl rfl (by dsimp only [aput, List.set]) ?_
     exact aN_of n77 hS0 hps0
    ·
     refine w_opm (a := v13) (σ'' := G1) rfl rfl rfl rfl (by dsimp only [aput, List.set]) rfl ?_
     exact aN_of n81 hS0 hps2
   have n55 : N2 7 657 G1 := by
    refine aN_3 hops hS0 hps2 1 3 5 ?_ ?_ ?_
    ·
     refine w_op (a := v63) rfl rfl rfl rfl (by dsimp only [aput, List.set]) ?_
     exact aN_of n74 hS0 hps2
    ·
     refine w_mv ?_
     exact aN_of n79 hS0 hps2
    ·
     refine w_op (a := v67) rfl rfl rfl (op_q (q_lit (α := En) (l := [x3]) (cs := Enc.cells (x3 : En) ++ []) rfl (by rw [Enc.cons, Enc.nil]))) (by dsimp only [aput, List.set]) ?_
     exact aN_of n80 hS0 hps2
   have n54 : N2 7 561 G1 := by
    refine aN_3 hops hS0 hps2 1 3 7 ?_ ?_ ?_
    ·
     refine w_op (a := v63) rfl rfl rfl rfl (by dsimp only [aput, List.set]) ?_
     exact aN_of n73 hS0 hps2
    ·
     refine w_mv ?_
     exact aN_of n78 hS0 hps2
    ·
     refine w_op (a := v69) rfl rfl rfl rfl (by dsimp only [aput, List.set]) ?_
     exact aN_of n80 hS0 hps2
   have n53 : N0 7 177 G0 := by
    refine aN_3 hops hS0 hps0 1 3 9 ?_ ?_ ?_
    ·
     refine w_op (a := v63) rfl rfl rfl rfl (by dsimp only [aput, List.set]) ?_
     exact aN_of n72 hS0 hps0
    ·
     refine w_mv ?_
     exact aN_of n77 hS0 hps0
    ·
     refine w_opm (a := v13) (σ'' := G1) rfl rfl rfl rfl (by dsimp only [aput, List.set]) rfl ?_
     exact aN_of n80 hS0 hps2
   have n52 : N2 7 649 G1 := by
    refine aN_2 hops hS0 hps2 1 4 ?_ ?_
    ·
     refine w_op (a := v63) rfl rfl rfl rfl (by dsimp only [aput, List.set]) ?_
     exact aN_of n70 hS0 hps2
    ·
     refine w_op (a := v66) rfl rfl rfl rfl (by dsimp only [aput, List.set]) ?_
     exact aN_of n79 hS0 hps2
   have n51 : N2 7 537 G1 := by
    refine aN_3 hops hS0 hps2 1 5 7 ?_ ?_ ?_
    ·
     refine w_op (a := v63) rfl rfl rfl rfl (by dsimp only [aput, List.set]) ?_
     exact aN_of n69 hS0 hps2
    ·
     refine w_op (a := v67) rfl rfl rfl (op_q (q_lit (α := En) (l := [x3]) (cs := Enc.cells (x3 : En) ++ []) rfl (by rw [Enc.cons, Enc.nil]))) (by dsimp only [aput, List.set]) ?_
     exact aN_of n78 hS0 hps2
    ·
     refine w_op (a := v69) rfl rfl rfl rfl (by dsimp only [aput, List.set]) ?_
     exact aN_of n79 hS0 hps2
   have n50 : N0 7 153 G0 := by
    refine aN_3 hops hS0 hps0 1 5 9 ?_ ?_ ?_
    ·
     refine w_op (a := v63) rfl rfl rfl rfl (by dsimp only [aput, List.set]) ?_
     exact aN_of n68 hS0 hps0
    ·
     refine w_op (a := v67) rfl rfl rfl (op_q (q_lit (α := En) (l := [x3]) (cs := Enc.cells (x3 : En) ++ []) rfl (by rw [Enc.cons, Enc.nil]))) (by dsimp only [aput, List.set]) ?_
     exact aN_of n77 hS0 hps0
    ·
     refine w_opm (a := v13) (σ'' := G1) rfl rfl rfl rfl (by dsimp only [aput, List.set]) rfl ?_
     exact aN_of n79 hS0 hps2
   have n49 : N0 7 57 G0 := by
    refine aN_3 hops hS0 hps0 1 7 9 ?_ ?_ ?_
    ·
     refine w_op (a := v63) rfl rfl rfl rfl (by dsimp only [aput, List.set]) ?_
     exact aN_of n67 hS0 hps0
    ·
     refine w_op (a := v69) rfl rfl rfl rfl (by dsimp only [aput, List.set]) ?_
     exact aN_of n77 hS0 hps0
    ·
     refine w_opm (a := v13) (σ'' := G1) rfl rfl rfl rfl (by dsimp only [aput, List.set]) rfl ?_
     exact aN_of n78 hS0 hps2
   have n48 : N2 7 519 G4 := by
    refine aN_3 hops hS0 hps2 3 4 7 ?_ ?_ ?_
    ·
     refine w_mv ?_
     exact aN_of n71 hS0 hps2
    ·
     refine w_op (a := v66) rfl rfl rfl rfl (by dsimp only [aput, List.set]) ?_
     exact aN_of n75 hS0 hps2
    ·
     refine w_op (a := v69) rfl rfl rfl rfl (by dsimp only [aput, List.set]) ?_
     exact aN_of n76 hS0 hps2
   have n47 : N2 7 643 G1 := by
    refine aN_3 hops hS0 hps2 2 3 4 ?_ ?_ ?_
    ·
     refine w_snd (r := v64_1) (σ' := ⟨[(26, (Enc.cells (x1 : Trc))), (43, (Enc.cells (x3 : En))), (26, [.list 0 [] .full, .raw (.int .u8 0), .raw (.int .i64 0)]), (43, (Enc.cellsL (x1.l : List En)))], [], [], 0, false⟩) (cloneT_some x1.l g12 hc1 3 _ rfl) rfl rfl ⟨rfl, rfl⟩ (by dsimp only [aput, List.set]) ?_
     exact aN_of n76 hS0 hps2
    ·
     refine w_mv ?_
     exact aN_of n70 hS0 hps2
    ·
     refine w_op (a := v66) rfl rfl rfl rfl (by dsimp only [aput, List.set]) ?_
     exact aN_of n74 hS0 hps2
   have n46 : N2 7 531 G1 := by
    refine aN_n hops hS0 hps2 [2, 3, 5, 7] (all_cons (aopAt_l hops rfl ?_) (all_cons (aopAt_l hops rfl ?_) (all_cons (aopAt_l hops rfl ?_) (all_cons (aopAt_l hops rfl ?_) all_nil))))
    ·
     refine w_snd (r := v64_1) (σ' := ⟨[(26, (Enc.cells (x1 : Trc))), (43, (Enc.cells (x3 : En))), (26, [.list 0 [] .full, .raw (.int .u8 0), .raw (.int .i64 0)]), (43, (Enc.cellsL (x1.l : List En)))], [], [], 0, false⟩) (cloneT_some x1.l g12 hc1 3 _ rfl) rfl rfl ⟨rfl, rfl⟩ (by dsimp only [aput, List.set]) ?_
     exact aN_of n75 hS0 hps2
    ·
     refine w_mv ?_
     exact aN_of n69 hS0 hps2
    ·
     refine w_op (a := v67) rfl rfl rfl (op_q (q_lit (α := En) (l := [x3]) (cs := Enc.cells (x3 : En) ++ []) rfl (by rw [Enc.cons, Enc.nil]))) (by dsimp only [aput, List.set]) ?_
     exact aN_of n73 hS0 hps2
    ·
     refine w_op (a := v69) rfl rfl rfl rfl (by dsimp only [aput, List.set]) ?_
     exact aN_of n74 hS0 hps2
   have n45 : N0 7 147 G0 := by
    refine aN_n hops hS0 hps0 [2, 3, 5, 9] (all_cons (aopAt_l hops rfl ?_) (all_cons (aopAt_l hops rfl ?_) (all_cons (aopAt_l hops rfl ?_) (all_cons (aopAt_l hops rfl ?_) all_nil))))
    ·
     refine w_snd (r := v64) (σ' := ⟨[(26, (Enc.cells (x1 : Trc))), (43, (Enc.cells (x3 : En))), (43, (Enc.cellsL (x1.l : List En)))], [], [], 0, false⟩) (cloneT_some x1.l g12 hc1 2 _ rfl) rfl rfl ⟨rfl, rfl⟩ (by dsimp only [aput, List.set]) ?_
     exact aN_of n64 hS0 hps0
    ·
     refine w_mv ?_
     exact aN_of n68 hS0 hps0
    ·
     refine w_op (a := v67) rfl rfl rfl (op_q (q_lit (α := En) (l := [x3]) (cs := Enc.cells (x3 : En) ++ []) rfl (by rw [Enc.cons, Enc.nil]))) (by dsimp only [aput, List.set]) ?_
     exact aN_of n72 hS0 hps0
    ·
     refine w_opm (a := v13) (σ'' := G1) rfl rfl rfl rfl (by dsimp only [aput, List.set]) rfl ?_
     exact aN_of n74 hS0 hps2
   have n44 : N0 7 51 G0 := by
    refine aN_n hops hS0 hps0 [2, 3, 7, 9] (all_cons (aopAt_l hops rfl ?_) (all_cons (aopAt_l hops rfl ?_) (all_cons (aopAt_l hops rfl ?_) (all_cons (aopAt_l hops rfl ?_) all_nil))))
    ·
     refine w_snd (r := v64) (σ' := ⟨[(26, (Enc.cells (x1 : Trc))), (43, (Enc.cells (x3 : En))), (43, (Enc.cellsL (x1.l : List En)))], [], [], 0, false⟩) (cloneT_some x1.l g12 hc1 2 _ rfl) rfl rfl ⟨rfl, rfl⟩ (by dsimp only [aput, List.set]) ?_
     exact aN_of n63 hS0 hps0
    ·
     refine w_mv ?_
     exact aN_of n67 hS0 hps0
    ·
     refine w_op (a := v69) rfl rfl rfl rfl (by dsimp only [aput, List.set]) ?_
     exact aN_of n72 hS0 hps0
    ·
     refine w_opm (a := v13) (σ'' := G1) rfl rfl rfl rfl (by dsimp only [aput, List.set]) rfl ?_
     exact aN_of n73 hS0 hps2
   have n43 : N2 7 523 G1 := by
    refine aN_3 hops hS0 hps2 2 4 7 ?_ ?_ ?_
    ·
     refine w_snd (r := v64_1) (σ' := ⟨[(26, (Enc.cells (x1 : Trc))), (43, (Enc.cells (x3 : En))), (26, [.list 0 [] .full, .raw (.int .u8 0), .raw (.int .i64 0)]), (43, (Enc.cellsL (x1.l : List En)))], [], [], 0, false⟩) (cloneT_some x1.l g12 hc1 3 _ rfl) rfl rfl ⟨rfl, rfl⟩ (by dsimp only [aput, List.set]) ?_
     exact aN_of n71 hS0 hps2
    ·
     refine w_op (a := v66) rfl rfl rfl rfl (by dsimp only [aput, List.set]) ?_
     exact aN_of n69 hS0 hps2
    ·
     refine w_op (a := v69) rfl rfl rfl rfl (by dsimp only [aput, List.set]) ?_
     exact aN_of n70 hS0 hps2
   have n42 : N0 7 139 G0 := by
    refine aN_3 hops hS0 hps0 2 4 9 ?_ ?_ ?_
    ·
     refine w_snd (r := v64) (σ' := ⟨[(26, (Enc.cells (x1 : Trc))), (43, (Enc.cells (x3 : En))), (43, (Enc.cellsL (x1.l : List En)))], [], [], 0, false⟩) (cloneT_some x1.l g12 hc1 2 _ rfl) rfl rfl ⟨rfl, rfl⟩ (by dsimp only [aput, List.set]) ?_
     exact aN_of n61 hS0 hps0
    ·
     refine w_op (a := v66) rfl rfl rfl rfl (by dsimp only [aput, List.set]) ?_
     exact aN_of n68 hS0 hps0
    ·
     refine w_opm (a := v13) (σ'' := G1) rfl rfl rfl rfl (by dsimp only [aput, List.set]) rfl ?_
     exact aN_of n70 hS0 hps2
   have n41 : N0 7 27 G0 := by
    refine aN_n hops hS0 hps0 [2, 5, 7, 9] (all_cons (aopAt_l hops rfl ?_) (all_cons (aopAt_l hops rfl ?_) (all_cons (aopAt_l hops rfl ?_) (all_cons (aopAt_l hops rfl ?_) all_nil))))
    ·
     refine w_snd (r := v64) (σ' := ⟨[(26, (Enc.cells (x1 : Trc))), (43, (Enc.cells (x3 : En))), (43, (Enc.cellsL (x1.l : List En)))], [], [], 0, false⟩) (cloneT_some x1.l g12 hc1 2 _ rfl) rfl rfl ⟨rfl, rfl⟩ (by dsimp only [aput, List.set]) ?_
     exact aN_of n60 hS0 hps0
    ·
     refine w_op (a := v67) rfl rfl rfl (op_q (q_lit (α := En) (l := [x3]) (cs := Enc.cells (x3 : En) ++ []) rfl (by rw [Enc.cons, Enc.nil]))) (by dsimp only [aput, List.set]) ?_
     exact aN_of n67 hS0 hps0
    ·
     refine w_op (a := v69) rfl rfl rfl rfl (by dsimp only [aput, List.set]) ?_
     exact aN_of n68 hS0 hps0
    ·
     refine w_opm (a := v13) (σ'' := G1) rfl rfl rfl rfl (by dsimp only [aput, List.set]) rfl ?_
     exact aN_of n69 hS0 hps2
   have n40 : N1 7 519 G3 := by
    refine aN_3 hops hS0 hps1 3 4 7 ?_ ?_ ?_
    ·
     refine w_mv ?_
     exact aN_of n62 hS0 hps1
    ·
     refine w_op (a := v66) rfl rfl rfl rfl (by dsimp only [aput, List.set]) ?_
     exact aN_of n65 hS0 hps1
    ·
     refine w_op (a := v69) rfl rfl rfl rfl (by dsimp only [aput, List.set]) ?_
     exact aN_of n66 hS0 hps1
   have n39 : N0 7 135 G2 := by
    refine aN_3 hops hS0 hps0 3 4 9 ?_ ?_ ?_
    ·
     refine w_mv ?_
     exact aN_of n61 hS0 hps0
    ·
     refine w_op (a := v66) rfl rfl rfl rfl (by dsimp only [aput, List.set]) ?_
     exact aN_of n64 hS0 hps0
    ·
     refine w_opm (a := v13_1) (σ'' := G3) rfl rfl rfl rfl (by dsimp only [aput, List.set]) rfl ?_
     exact aN_of n66 hS0 hps1
   have n38 : N0 7 23 G2 := by
    refine aN_n hops hS0 hps0 [3, 5, 7, 9] (all_cons (aopAt_l hops rfl ?_) (all_cons (aopAt_l hops rfl ?_) (all_cons (aopAt_l hops rfl ?_) (all_cons (aopAt_l hops rfl ?_) all_nil))))
    ·
     refine w_mv ?_
     exact aN_of n60 hS0 hps0
    ·
     refine w_op (a := v67) rfl rfl rfl (op_q (q_lit (α := En) (l := [x3]) (cs := Enc.cells (x3 : En) ++ []) rfl (by rw [Enc.cons, Enc.nil]))) (by dsimp only [aput, List.set]) ?_
     exact aN_of n63 hS0 hps0
    ·
     refine w_op (a := v69) rfl rfl rfl rfl (by dsimp only [aput, List.set]) ?_
     exact aN_of n64 hS0 hps0
    ·
     refine w_opm (a := v13_1) (σ'' := G3) rfl rfl rfl rfl (by dsimp only [aput, List.set]) rfl ?_
     exact aN_of n65 hS0 hps1
   have n37 : N0 7 15 G2 := by
    refine aN_3 hops hS0 hps0 4 7 9 ?_ ?_ ?_
    ·
     refine w_op (a := v66) rfl rfl rfl rfl (by dsimp only [aput, List.set]) ?_
     exact aN_of n60 hS0 hps0
    ·
     refine w_op (a := v69) rfl rfl rfl rfl (by dsimp only [aput, List.set]) ?_
     exact aN_of n61 hS0 hps0
    ·
     refine w_opm (a := v13_1) (σ'' := G3) rfl rfl rfl rfl (by dsimp only [aput, List.set]) rfl ?_
     exact aN_of n62 hS0 hps1
   have n36 : N2 8 656 G1 := by
    refine aN_3 hops hS0 hps2 0 3 5 ?_ ?_ ?_
    ·
     refine w_op (a := v62) rfl rfl rfl rfl (by dsimp only [aput, List.set]) ?_
     exact aN_of n55 hS0 hps2
    ·
     refine w_mv ?_
     exact aN_of n58 hS0 hps2
    ·
     refine w_op (a := v67) rfl rfl rfl (op_q (q_lit (α := En) (l := [x3]) (cs := Enc.cells (x3 : En) ++ []) rfl (by rw [Enc.cons, Enc.nil]))) (by dsimp only [aput, List.set]) ?_
     exact aN_of n59 hS0 hps2
   have n35 : N2 8 560 G1 := by
    refine aN_3 hops hS0 hps2 0 3 7 ?_ ?_ ?_
    ·
     refine w_op (a := v62) rfl rfl rfl rfl (by dsimp only [aput, List.set]) ?_
     exact aN_of n54 hS0 hps2
    ·
     refine w_mv ?_
     exact aN_of n57 hS0 hps2
    ·
     refine w_op (a := v69) rfl rfl rfl rfl (by dsimp only [aput, List.set]) ?_
     exact aN_of n59 hS0 hps2
   have n34 : N0 8 176 G0 := by
    refine aN_3 hops hS0 hps0 0 3 9 ?_ ?_ ?_
    ·
     refine w_op (a := v62) rfl rfl rfl rfl (by dsimp only [aput, List.set]) ?_
     exact aN_of n53 hS0 hps0
    ·
     refine w_mv ?_
     exact aN_of n56 hS0 hps0
    ·
     refine w_opm (a := v13) (σ'' := G1) rfl rfl rfl rfl (by dsimp only [aput, List.set]) rfl ?_
     exact aN_of n59 hS0 hps2
   have n33 : N2 8 648 G1 := by
    refine aN_2 hops hS0 hps2 0 4 ?_ ?_
    ·
     refine w_op (a := v62) rfl rfl rfl rfl (by dsimp only [aput, List.set]) ?_
     exact aN_of n52 hS0 hps2
    ·
     refine w_op (a := v66) rfl rfl rfl rfl (by dsimp only [aput, List.set]) ?_
     exact aN_of n58 hS0 hps2
   have n32 : N2 8 536 G1 := by
    refine aN_3 hops hS0 hps2 0 5 7 ?_ ?_ ?_
    ·
     refine w_op (a := v62) rfl rfl rfl rfl (by dsimp only [aput, List.set]) ?_
     exact aN_of n51 hS0 hps2
    ·
     refine w_op (a := v67) rfl rfl rfl (op_q (q_lit (α := En) (l := [x3]) (cs := Enc.cells (x3 : En) ++ []) rfl (by rw [Enc.cons, Enc.nil]))) (by dsimp only [aput, List.set]) ?_
     exact aN_of n57 hS0 hps2
    ·
     refine w_op (a := v69) rfl rfl rfl rfl (by dsimp only [aput, List.set]) ?_
     exact aN_of n58 hS0 hps2
   have n31 : N0 8 152 G0 := by
    refine aN_3 hops hS0 hps0 0 5 9 ?_ ?_ ?_
    ·
     refine w_op (a := v62) rfl rfl rfl rfl (by dsimp only [aput, List.set]) ?_
     exact aN_of n50 hS0 hps0
    ·
     refine w_op (a := v67) rfl rfl rfl (op_q (q_lit (α := En) (l := [x3]) (cs := Enc.cells (x3 : En) ++ []) rfl (by rw [Enc.cons, Enc.nil]))) (by dsimp only [aput, List.set]) ?_
     exact aN_of n56 hS0 hps0
    ·
     refine w_opm (a := v13) (σ'' := G1) rfl rfl rfl rfl (by dsimp only [aput, List.set]) rfl ?_
     exact aN_of n58 hS0 hps2
   have n30 : N0 8 56 G0 := by
    refine aN_3 hops hS0 hps0 0 7 9 ?_ ?_ ?_
    ·
     refine w_op (a := v62) rfl rfl rfl rfl (by dsimp only [aput, List.set]) ?_
     exact aN_of n49 hS0 hps0
    ·
     refine w_op (a := v69) rfl rfl rfl rfl (by dsimp only [aput, List.set]) ?_
     exact aN_of n56 hS0 hps0
    ·
     refine w_opm (a := v13) (σ'' := G1) rfl rfl rfl rfl (by dsimp only [aput, List.set]) rfl ?_
     exact aN_of n57 hS0 hps2
   have n29 : N2 8 641 G1 := by
    refine aN_3 hops hS0 hps2 1 3 4 ?_ ?_ ?_
    ·
     refine w_op (a := v63) rfl rfl rfl rfl (by dsimp only [aput, List.set]) ?_
     exact aN_of n47 hS0 hps2
    ·
     refine w_mv ?_
     exact aN_of n52 hS0 hps2
    ·
     refine w_op (a := v66) rfl rfl rfl rfl (by dsimp only [aput, List.set]) ?_
     exact aN_of n55 hS0 hps2
   have n28 : N2 8 529 G1 := by
    refine aN_n hops hS0 hps2 [1, 3, 5, 7] (all_cons (aopAt_l hops rfl ?_) (all_cons (aopAt_l hops rfl ?_) (all_cons (aopAt_l hops rfl ?_) (all_cons (aopAt_l hops rfl ?_) all_nil))))
    ·
     refine w_op (a := v63) rfl rfl rfl rfl (by dsimp only [aput, List.set]) ?_
     exact aN_of n46 hS0 hps2
    ·
     refine w_mv ?_
     exact aN_of n51 hS0 hps2
    ·
     refine w_op (a := v67) rfl rfl rfl (op_q (q_lit (α := En) (l := [x3]) (cs := Enc.cells (x3 : En) ++ []) rfl (by rw [Enc.cons, Enc.nil]))) (by dsimp only [aput, List.set]) ?_
     exact aN_of n54 hS0 hps2
    ·
     refine w_op (a := v69) rfl rfl rfl rfl (by dsimp only [aput, List.set]) ?_
     exact aN_of n55 hS0 hps2
   have n27 : N0 8 145 G0 := by
    refine aN_n hops hS0 hps0 [1, 3, 5, 9] (all_cons (aopAt_l hops rfl ?_) (all_cons (aopAt_l hops rfl ?_) (all_cons (aopAt_l hops rfl ?_) (all_cons (aopAt_l hops rfl ?_) all_nil))))
    ·
     refine w_op (a := v63) rfl rfl rfl rfl (by dsimp only [aput, List.set]) ?_
     exact aN_of n45 hS0 hps0
    ·
     refine w_mv ?_
     exact aN_of n50 hS0 hps0
    ·
     refine w_op (a := v67) rfl rfl rfl (op_q (q_lit (α := En) (l := [x3]) (cs := Enc.cells (x3 : En) ++ []) rfl (by rw [Enc.cons, Enc.nil]))) (by dsimp only [aput, List.set]) ?_
     exact aN_of n53 hS0 hps0
    ·
     refine w_opm (a := v13) (σ'' := G1) rfl rfl rfl rfl (by dsimp only [aput, List.set]) rfl ?_
     exact aN_of n55 hS0 hps2
   have n26 : N0 8 49 G0 := by
    refine aN_n hops hS0 hps0 [1, 3, 7, 9] (all_cons (aopAt_l hops rfl ?_) (all_cons (aopAt_l hops rfl ?_) (all_cons (aopAt_l hops rfl ?_) (all_cons (aopAt_l hops rfl ?_) all_nil))))
    ·
     refine w_op (a := v63) rfl rfl rfl rfl (by dsimp only [aput, List.set]) ?_
     exact aN_of n44 hS0 hps0
    ·
     refine w_mv ?_
     exact aN_of n49 hS0 hps0
    ·
     refine w_op (a := v69) rfl rfl rfl rfl (by dsimp only [aput, List.set]) ?_
     exact aN_of n53 hS0 hps0
    ·
     refine w_opm (a := v13) (σ'' := G1) rfl rfl rfl rfl (by dsimp only [aput, List.set]) rfl ?_
     exact aN_of n54 hS0 hps2
   have n25 : N2 8 521 G1 := by
    refine aN_3 hops hS0 hps2 1 4 7 ?_ ?_ ?_
    ·
     refine w_op (a := v63) rfl rfl rfl rfl (by dsimp only [aput, List.set]) ?_
     exact aN_of n43 hS0 hps2
    ·
     refine w_op (a := v66) rfl rfl rfl rfl (by dsimp only [aput, List.set]) ?_
     exact aN_of n51 hS0 hps2
    ·
     refine w_op (a := v69) rfl rfl rfl rfl (by dsimp only [aput, List.set]) ?_
     exact aN_of n52 hS0 hps2
   have n24 : N0 8 137 G0 := by
    refine aN_3 hops hS0 hps0 1 4 9 ?_ ?_ ?_
    ·
     refine w_op (a := v63) rfl rfl rfl rfl (by dsimp only [aput, List.set]) ?_
     exact aN_of n42 hS0 hps0
    ·
     refine w_op (a := v66) rfl rfl rfl rfl (by dsimp only [aput, List.set]) ?_
     exact aN_of n50 hS0 hps0
    ·
     refine w_opm (a := v13) (σ'' := G1) rfl rfl rfl rfl (by dsimp only [aput, List.set]) rfl ?_
     exact aN_of n52 hS0 hps2
   have n23 : N0 8 25 G0 := by
    refine aN_n hops hS0 hps0 [1, 5, 7, 9] (all_cons (aopAt_l hops rfl ?_) (all_cons (aopAt_l hops rfl ?_) (all_cons (aopAt_l hops rfl ?_) (all_cons (aopAt_l hops rfl ?_) all_nil))))
    ·
     refine w_op (a := v63) rfl rfl rfl rfl (by dsimp only [aput, List.set]) ?_
     exact aN_of n41 hS0 hps0
    ·
     refine w_op (a := v67) rfl rfl rfl (op_q (q_lit (α := En) (l := [x3]) (cs := Enc.cells (x3 : En) ++ []) rfl (by rw [Enc.cons, Enc.nil]))) (by dsimp only [aput, List.set]) ?_
     exact aN_of n49 hS0 hps0
    ·
     refine w_op (a := v69) rfl rfl rfl rfl (by dsimp only [aput, List.set]) ?_
     exact aN_of n50 hS0 hps0
    ·
     refine w_opm (a := v13) (σ'' := G1) rfl rfl rfl rfl (by dsimp only [aput, List.set]) rfl ?_
     exact aN_of n51 hS0 hps2
   have n22 : N2 8 515 G1 := by
    refine aN_n hops hS0 hps2 [2, 3, 4, 7] (all_cons (aopAt_l hops rfl ?_) (all_cons (aopAt_l hops rfl ?_) (all_cons (aopAt_l hops rfl ?_) (all_cons (aopAt_l hops rfl ?_) all_nil))))
    ·
     refine w_snd (r := v64_1) (σ' := ⟨[(26, (Enc.cells (x1 : Trc))), (43, (Enc.cells (x3 : En))), (26, [.list 0 [] .full, .raw (.int .u8 0), .raw (.int .i64 0)]), (43, (Enc.cellsL (x1.l : List En)))], [], [], 0, false⟩) (cloneT_some x1.l g12 hc1 3 _ rfl) rfl rfl ⟨rfl, rfl⟩ (by dsimp only [aput, List.set]) ?_
     exact aN_of n48 hS0 hps2
    ·
     refine w_mv ?_
     exact aN_of n43 hS0 hps2
    ·
     refine w_op (a := v66) rfl rfl rfl rfl (by dsimp only [aput, List.set]) ?_
     exact aN_of n46 hS0 hps2
    ·
     refine w_op (a := v69) rfl rfl rfl rfl (by dsimp only [aput, List.set]) ?_
     exact aN_of n47 hS0 hps2
   have n21 : N0 8 131 G0 := by
    refine aN_n hops hS0 hps0 [2, 3, 4, 9] (all_cons (aopAt_l hops rfl ?_) (all_cons (aopAt_l hops rfl ?_) (all_cons (aopAt_l hops rfl ?_) (all_cons (aopAt_l hops rfl ?_) all_nil))))
    ·
     refine w_snd (r := v64) (σ' := ⟨[(26, (Enc.cells (x1 : Trc))), (43, (Enc.cells (x3 : En))), (43, (Enc.cellsL (x1.l : List En)))], [], [], 0, false⟩) (cloneT_some x1.l g12 hc1 2 _ rfl) rfl rfl ⟨rfl, rfl⟩ (by dsimp only [aput, List.set]) ?_
     exact aN_of n39 hS0 hps0
    ·
     refine w_mv ?_
     exact aN_of n42 hS0 hps0
    ·
     refine w_op (a := v66) rfl rfl rfl rfl (by dsimp only [aput, List.set]) ?_
     exact aN_of n45 hS0 hps0
    ·
     refine w_opm (a := v13) (σ'' := G1) rfl rfl rfl rfl (by dsimp only [aput, List.set]) rfl ?_
     exact aN_of n47 hS0 hps2
   have n20 : N0 8 19 G0 := by
    refine aN_n hops hS0 hps0 [2, 3, 5, 7, 9] (all_cons (aopAt_l hops rfl ?_) (all_cons (aopAt_l hops rfl ?_) (all_cons (aopAt_l hops rfl ?_) (all_cons (aopAt_l hops rfl ?_) (all_cons (aopAt_l hops rfl ?_) all_nil)))))
    ·
     refine w_snd (r := v64) (σ' := ⟨[(26, (Enc.cells (x1 : Trc))), (43, (Enc.cells (x3 : En))), (43, (Enc.cellsL (x1.l : List En)))], [], [], 0, false⟩) (cloneT_some x1.l g12 hc1 2 _ rfl) rfl rfl ⟨rfl, rfl⟩ (by dsimp only [aput, List.set]) ?_
     exact aN_of n38 hS0 hps0
    ·
     refine w_mv ?_
     exact aN_of n41 hS0 hps0
    ·
     refine w_op (a := v67) rfl rfl rfl (op_q (q_lit (α := En) (l := [x3]) (cs := Enc.cells (x3 : En) ++ []) rfl (by rw [Enc.cons, Enc.nil]))) (by dsimp only [aput, List.set]) ?_
     exact aN_of n44 hS0 hps0
    ·
     refine w_op (a := v69) rfl rfl rfl rfl (by dsimp only [aput, List.set]) ?_
     exact aN_of n45 hS0 hps0
    ·
     refine w_opm (a := v13) (σ'' := G1) rfl rfl rfl rfl (by dsimp only [aput, List.set]) rfl ?_
     exact aN_of n46 hS0 hps2
   have n19 : N0 8 11 G0 := by
    refine aN_n hops hS0 hps0 [2, 4, 7, 9] (all_cons (aopAt_l hops rfl ?_) (all_cons (aopAt_l hops rfl ?_) (all_cons (aopAt_l hops rfl ?_) (all_cons (aopAt_l hops rfl ?_) all_nil))))
    ·
     refine w_snd (r := v64) (σ' := ⟨[(26, (Enc.cells (x1 : Trc))), (43, (Enc.cells (x3 : En))), (43, (Enc.cellsL (x1.l : List En)))], [], [], 0, false⟩) (cloneT_some x1.l g12 hc1 2 _ rfl) rfl rfl ⟨rfl, rfl⟩ (by dsimp only [aput, List.set]) ?_
     exact aN_of n37 hS0 hps0
    ·
     refine w_op (a := v66) rfl rfl rfl rfl (by dsimp only [aput, List.set]) ?_
     exact aN_of n41 hS0 hps0
    ·
     refine w_op (a := v69) rfl rfl rfl rfl (by dsimp only [aput, List.set]) ?_
     exact aN_of n42 hS0 hps0
    ·
     refine w_opm (a := v13) (σ'' := G1) rfl rfl rfl rfl (by dsimp only [aput, List.set]) rfl ?_
     exact aN_of n43 hS0 hps2
   have n18 : N0 8 7 G2 := by
    refine aN_n hops hS0 hps0 [3, 4, 7, 9] (all_cons (aopAt_l hops rfl ?_) (all_cons (aopAt_l hops rfl ?_) (all_cons (aopAt_l hops rfl ?_) (all_cons (aopAt_l hops rfl ?_) all_nil))))
    ·
     refine w_mv ?_
     exact aN_of n37 hS0 hps0
    ·
     refine w_op (a := v66) rfl rfl rfl rfl (by dsimp only [aput, List.set]) ?_
     exact aN_of n38 hS0 hps0
    ·
     refine w_op (a := v69) rfl rfl rfl rfl (by dsimp only [aput, List.set]) ?_
     exact aN_of n39 hS0 hps0
    ·
     refine w_opm (a := v13_1) (σ'' := G3) rfl rfl rfl rfl (by dsimp only [aput, List.set]) rfl ?_
     exact aN_of n40 hS0 hps1
   have n17 : N2 9 640 G1 := by
    refine aN_3 hops hS0 hps2 0 3 4 ?_ ?_ ?_
    ·
     refine w_op (a := v62) rfl rfl rfl rfl (by dsimp only [aput, List.set]) ?_
     exact aN_of n29 hS0 hps2
    ·
     refine w_mv ?_
     exact aN_of n33 hS0 hps2
    ·
     refine w_op (a := v66) rfl rfl rfl rfl (by dsimp only [aput, List.set]) ?_
     exact aN_of n36 hS0 hps2
   have n16 : N2 9 528 G1 := by
    refine aN_n hops hS0 hps2 [0, 3, 5, 7] (all_cons (aopAt_l hops rfl ?_) (all_cons (aopAt_l hops rfl ?_) (all_cons (aopAt_l hops rfl ?_) (all_cons (aopAt_l hops rfl ?_) all_nil))))
    ·
     refine w_op (a := v62) rfl rfl rfl rfl (by dsimp only [aput, List.set]) ?_
     exact aN_of n28 hS0 hps2
    ·
     refine w_mv ?_
     exact aN_of n32 hS0 hps2
    ·
     refine w_op (a := v67) rfl rfl rfl (op_q (q_lit (α := En) (l := [x3]) (cs := Enc.cells (x3 : En) ++ []) rfl (by rw [Enc.cons, Enc.nil]))) (by dsimp only [aput, List.set]) ?_
     exact aN_of n35 hS0 hps2
    ·
     refine w_op (a := v69) rfl rfl rfl rfl (by dsimp only [aput, List.set]) ?_
     exact aN_of n36 hS0 hps2
   have n15 : N0 9 144 G0 := by
    refine aN_n hops hS0 hps0 [0, 3, 5, 9] (all_cons (aopAt_l hops rfl ?_) (all_cons (aopAt_l hops rfl ?_) (all_cons (aopAt_l hops rfl ?_) (all_cons (aopAt_l hops rfl ?_) all_nil))))
    ·
     refine w_op (a := v62) rfl rfl rfl rfl (by dsimp only [aput, List.set]) ?_
     exact aN_of n27 hS0 hps0
    ·
     refine w_mv ?_
     exact aN_of n31 hS0 hps0
    ·
     refine w_op (a := v67) rfl rfl rfl (op_q (q_lit (α := En) (l := [x3]) (cs := Enc.cells (x3 : En) ++ []) rfl (by rw [Enc.cons, Enc.nil]))) (by dsimp only [aput, List.set]) ?_
     exact aN_of n34 hS0 hps0
    ·
     refine w_opm (a := v13) (σ'' := G1) rfl rfl rfl rfl (by dsimp only [aput, List.set]) rfl ?_
     exact aN_of n36 hS0 hps2
   have n14 : N0 9 48 G0 := by
    refine aN_n hops hS0 hps0 [0, 3, 7, 9] (all_cons (aopAt_l hops rfl ?_) (all_cons (aopAt_l hops rfl ?_) (all_cons (aopAt_l hops rfl ?_) (all_cons (aopAt_l hops rfl ?_) all_nil))))
    ·
     refine w_op (a := v62) rfl rfl rfl rfl (by dsimp only [aput, List.set]) ?_
     exact aN_of n26 hS0 hps0
    ·
     refine w_mv ?_
     exact aN_of n30 hS0 hps0
    ·
     refine w_op (a := v69) rfl rfl rfl rfl (by dsimp only [aput, List.set]) ?_
     exact aN_of n34 hS0 hps0
    ·
     refine w_opm (a := v13) (σ'' := G1) rfl rfl rfl rfl (by dsimp only [aput, List.set]) rfl ?_
     exact aN_of n35 hS0 hps2
   have n13 : N2 9 520 G1 := by
    refine aN_3 hops hS0 hps2 0 4 7 ?_ ?_ ?_
    ·
     refine w_op (a := v62) rfl rfl rfl rfl (by dsimp only [aput, List.set]) ?_
     exact aN_of n25 hS0 hps2
    ·
     refine w_op (a := v66) rfl rfl rfl rfl (by dsimp only [aput, List.set]) ?_
     exact aN_of n32 hS0 hps2
    ·
     refine w_op (a := v69) rfl rfl rfl rfl (by dsimp only [aput, List.set]) ?_
     exact aN_of n33 hS0 hps2
   have n12 : N0 9 136 G0 := by
    refine aN_3 hops hS0 hps0 0 4 9 ?_ ?_ ?_
    ·
     refine w_op (a := v62) rfl rfl rfl rfl (by dsimp only [aput, List.set]) ?_
     exact aN_of n24 hS0 hps0
    ·
     refine w_op (a := v66) rfl rfl rfl rfl (by dsimp only [aput, List.set]) ?_
     exact aN_of n31 hS0 hps0
    ·
     refine w_opm (a := v13) (σ'' := G1) rfl rfl rfl rfl (by dsimp only [aput, List.set]) rfl ?_
     exact aN_of n33 hS0 hps2
   have n11 : N0 9 24 G0 := by
    refine aN_n hops hS0 hps0 [0, 5, 7, 9] (all_cons (aopAt_l hops rfl ?_) (all_cons (aopAt_l hops rfl ?_) (all_cons (aopAt_l hops rfl ?_) (all_cons (aopAt_l hops rfl ?_) all_nil))))
    ·
     refine w_op (a := v62) rfl rfl rfl rfl (by dsimp only [aput, List.set]) ?_
     exact aN_of n23 hS0 hps0
    ·
     refine w_op (a := v67) rfl rfl rfl (op_q (q_lit (α := En) (l := [x3]) (cs := Enc.cells (x3 : En) ++ []) rfl (by rw [Enc.cons, Enc.nil]))) (by dsimp only [aput, List.set]) ?_
     exact aN_of n30 hS0 hps0
    ·
     refine w_op (a := v69) rfl rfl rfl rfl (by dsimp only [aput, List.set]) ?_
     exact aN_of n31 hS0 hps0
    ·
     refine w_opm (a := v13) (σ'' := G1) rfl rfl rfl rfl (by dsimp only [aput, List.set]) rfl ?_
     exact aN_of n32 hS0 hps2
   have n10 : N2 9 513 G1 := by
    refine aN_n hops hS0 hps2 [1, 3, 4, 7] (all_cons (aopAt_l hops rfl ?_) (all_cons (aopAt_l hops rfl ?_) (all_cons (aopAt_l hops rfl ?_) (all_cons (aopAt_l hops rfl ?_) all_nil))))
    ·
     refine w_op (a := v63) rfl rfl rfl rfl (by dsimp only [aput, List.set]) ?_
     exact aN_of n22 hS0 hps2
    ·
     refine w_mv ?_
     exact aN_of n25 hS0 hps2
    ·
     refine w_op (a := v66) rfl rfl rfl rfl (by dsimp only [aput, List.set]) ?_
     exact aN_of n28 hS0 hps2
    ·
     refine w_op (a := v69) rfl rfl rfl rfl (by dsimp only [aput, List.set]) ?_
     exact aN_of n29 hS0 hps2
   have n9 : N0 9 129 G0 := by
    refine aN_n hops hS0 hps0 [1, 3, 4, 9] (all_cons (aopAt_l hops rfl ?_) (all_cons (aopAt_l hops rfl ?_) (all_cons (aopAt_l hops rfl ?_) (all_cons (aopAt_l hops rfl ?_) all_nil))))
    ·
     refine w_op (a := v63) rfl rfl rfl rfl (by dsimp only [aput, List.set]) ?_
     exact aN_of n21 hS0 hps0
    ·
     refine w_mv ?_
     exact aN_of n24 hS0 hps0
    ·
     refine w_op (a := v66) rfl rfl rfl rfl (by dsimp only [aput, List.set]) ?_
     exact aN_of n27 hS0 hps0
    ·
     refine w_opm (a := v13) (σ'' := G1) rfl rfl rfl rfl (by dsimp only [aput, List.set]) rfl ?_
     exact aN_of n29 hS0 hps2
   have n8 : N0 9 17 G0 := by
    refine aN_n hops hS0 hps0 [1, 3, 5, 7, 9] (all_cons (aopAt_l hops rfl ?_) (all_cons (aopAt_l hops rfl ?_) (all_cons (aopAt_l hops rfl ?_) (all_cons (aopAt_l hops rfl ?_) (all_cons (aopAt_l hops rfl ?_) all_nil)))))
    ·
     refine w_op (a := v63) rfl rfl rfl rfl (by dsimp only [aput, List.set]) ?_
     exact aN_of n20 hS0 hps0
    ·
     refine w_mv ?_
     exact aN_of n23 hS0 hps0
    ·
     refine w_op (a := v67) rfl rfl rfl (op_q (q_lit (α := En) (l := [x3]) (cs := Enc.cells (x3 : En) ++ []) rfl (by rw [Enc.cons, Enc.nil]))) (by dsimp only [aput, List.set]) ?_
     exact aN_of n26 hS0 hps0
    ·
     refine w_op (a := v69) rfl rfl rfl rfl (by dsimp only [aput, List.set]) ?_
     exact aN_of n27 hS0 hps0
    ·
     refine w_opm (a := v13) (σ'' := G1) rfl rfl rfl rfl (by dsimp only [aput, List.set]) rfl ?_
     exact aN_of n28 hS0 hps2
   have n7 : N0 9 9 G0 := by
    refine aN_n hops hS0 hps0 [1, 4, 7, 9] (all_cons (aopAt_l hops rfl ?_) (all_cons (aopAt_l hops rfl ?_) (all_cons (aopAt_l hops rfl ?_) (all_cons (aopAt_l hops rfl ?_) all_nil))))
    ·
     refine w_op (a := v63) rfl rfl rfl rfl (by dsimp only [aput, List.set]) ?_
     exact aN_of n19 hS0 hps0
    ·
     refine w_op (a := v66) rfl rfl rfl rfl (by dsimp only [aput, List.set]) ?_
     exact aN_of n23 hS0 hps0
    ·
     refine w_op (a := v69) rfl rfl rfl rfl (by dsimp only [aput, List.set]) ?_
     exact aN_of n24 hS0 hps0
    ·
     refine w_opm (a := v13) (σ'' := G1) rfl rfl rfl rfl (by dsimp only [aput, List.set]) rfl ?_
     exact aN_of n25 hS0 hps2
   have n6 : N0 9 3 G0 := by
    refine aN_n hops hS0 hps0 [2, 3, 4, 7, 9] (all_cons (aopAt_l hops rfl ?_) (all_cons (aopAt_l hops rfl ?_) (all_cons (aopAt_l hops rfl ?_) (all_cons (aopAt_l hops rfl ?_) (all_cons (aopAt_l hops rfl ?_) all_nil)))))
    ·
     refine w_snd (r := v64) (σ' := ⟨[(26, (Enc.cells (x1 : Trc))), (43, (Enc.cells (x3 : En))), (43, (Enc.cellsL (x1.l : List En)))], [], [], 0, false⟩) (cloneT_some x1.l g12 hc1 2 _ rfl) rfl rfl ⟨rfl, rfl⟩ (by dsimp only [aput, List.set]) ?_
     exact aN_of n18 hS0 hps0
    ·
     refine w_mv ?_
     exact aN_of n19 hS0 hps0
    ·
     refine w_op (a := v66) rfl rfl rfl rfl (by dsimp only [aput, List.set]) ?_
     exact aN_of n20 hS0 hps0
    ·
     refine w_op (a := v69) rfl rfl rfl rfl (by dsimp only [aput, List.set]) ?_
     exact aN_of n21 hS0 hps0
    ·
     refine w_opm (a := v13) (σ'' := G1) rfl rfl rfl rfl (by dsimp only [aput, List.set]) rfl ?_
     exact aN_of n22 hS0 hps2
   have n5 : N2 10 512 G1 := by
    refine aN_n hops hS0 hps2 [0, 3, 4, 7] (all_cons (aopAt_l hops rfl ?_) (all_cons (aopAt_l hops rfl ?_) (all_cons (aopAt_l hops rfl ?_) (all_cons (aopAt_l hops rfl ?_) all_nil))))
    ·
     refine w_op (a := v62) rfl rfl rfl rfl (by dsimp only [aput, List.set]) ?_
     exact aN_of n10 hS0 hps2
    ·
     refine w_mv ?_
     exact aN_of n13 hS0 hps2
    ·
     refine w_op (a := v66) rfl rfl rfl rfl (by dsimp only [aput, List.set]) ?_
     exact aN_of n16 hS0 hps2
    ·
     refine w_op (a := v69) rfl rfl rfl rfl (by dsimp only [aput, List.set]) ?_
     exact aN_of n17 hS0 hps2
   have n4 : N0 10 128 G0 := by
    refine aN_n hops hS0 hps0 [0, 3, 4, 9] (all_cons (aopAt_l hops rfl ?_) (all_cons (aopAt_l hops rfl ?_) (all_cons (aopAt_l hops rfl ?_) (all_cons (aopAt_l hops rfl ?_) all_nil))))
    ·
     refine w_op (a := v62) rfl rfl rfl rfl (by dsimp only [aput, List.set]) ?_
     exact aN_of n9 hS0 hps0
    ·
     refine w_mv ?_
     exact aN_of n12 hS0 hps0
    ·
     refine w_op (a := v66) rfl rfl rfl rfl (by dsimp only [aput, List.set]) ?_
     exact aN_of n15 hS0 hps0
    ·
     refine w_opm (a := v13) (σ'' := G1) rfl rfl rfl rfl (by dsimp only [aput, List.set]) rfl ?_
     exact aN_of n17 hS0 hps2
   have n3 : N0 10 16 G0 := by
    refine aN_n hops hS0 hps0 [0, 3, 5, 7, 9] (all_cons (aopAt_l hops rfl ?_) (all_cons (aopAt_l hops rfl ?_) (all_cons (aopAt_l hops rfl ?_) (all_cons (aopAt_l hops rfl ?_) (all_cons (aopAt_l hops rfl ?_) all_nil)))))
    ·
     refine w_op (a := v62) rfl rfl rfl rfl (by dsimp only [aput, List.set]) ?_
     exact aN_of n8 hS0 hps0
    ·
     refine w_mv ?_
     exact aN_of n11 hS0 hps0
    ·
     refine w_op (a := v67) rfl rfl rfl (op_q (q_lit (α := En) (l := [x3]) (cs := Enc.cells (x3 : En) ++ []) rfl (by rw [Enc.cons, Enc.nil]))) (by dsimp only [aput, List.set]) ?_
     exact aN_of n14 hS0 hps0
    ·
     refine w_op (a := v69) rfl rfl rfl rfl (by dsimp only [aput, List.set]) ?_
     exact aN_of n15 hS0 hps0
    ·
     refine w_opm (a := v13) (σ'' := G1) rfl rfl rfl rfl (by dsimp only [aput, List.set]) rfl ?_
     exact aN_of n16 hS0 hps2
   have n2 : N0 10 8 G0 := by
    refine aN_n hops hS0 hps0 [0, 4, 7, 9] (all_cons (aopAt_l hops rfl ?_) (all_cons (aopAt_l hops rfl ?_) (all_cons (aopAt_l hops rfl ?_) (all_cons (aopAt_l hops rfl ?_) all_nil))))
    ·
     refine w_op (a := v62) rfl rfl rfl rfl (by dsimp only [aput, List.set]) ?_
     exact aN_of n7 hS0 hps0
    ·
     refine w_op (a := v66) rfl rfl rfl rfl (by dsimp only [aput, List.set]) ?_
     exact aN_of n11 hS0 hps0
    ·
     refine w_op (a := v69) rfl rfl rfl rfl (by dsimp only [aput, List.set]) ?_
     exact aN_of n12 hS0 hps0
    ·
     refine w_opm (a := v13) (σ'' := G1) rfl rfl rfl rfl (by dsimp only [aput, List.set]) rfl ?_
     exact aN_of n13 hS0 hps2
   have n1 : N0 10 1 G0 := by
    refine aN_n hops hS0 hps0 [1, 3, 4, 7, 9] (all_cons (aopAt_l hops rfl ?_) (all_cons (aopAt_l hops rfl ?_) (all_cons (aopAt_l hops rfl ?_) (all_cons (aopAt_l hops rfl ?_) (all_cons (aopAt_l hops rfl ?_) all_nil)))))
    ·
     refine w_op (a := v63) rfl rfl rfl rfl (by dsimp only [aput, List.set]) ?_
     exact aN_of n6 hS0 hps0
    ·
     refine w_mv ?_
     exact aN_of n7 hS0 hps0
    ·
     refine w_op (a := v66) rfl rfl rfl rfl (by dsimp only [aput, List.set]) ?_
     exact aN_of n8 hS0 hps0
    ·
     refine w_op (a := v69) rfl rfl rfl rfl (by dsimp only [aput, List.set]) ?_
     exact aN_of n9 hS0 hps0
    ·
     refine w_opm (a := v13) (σ'' := G1) rfl rfl rfl rfl (by dsimp only [aput, List.set]) rfl ?_
     exact aN_of n10 hS0 hps2
   have n0 : N0 11 0 G0 := by
    refine aN_n hops hS0 hps0 [0, 3, 4, 7, 9] (all_cons (aopAt_l hops rfl ?_) (all_cons (aopAt_l hops rfl ?_) (all_cons (aopAt_l hops rfl ?_) (all_cons (aopAt_l hops rfl ?_) (all_cons (aopAt_l hops rfl ?_) all_nil)))))
    ·
     refine w_op (a := v62) rfl rfl rfl rfl (by dsimp only [aput, List.set]) ?_
     exact aN_of n1 hS0 hps0
    ·
     refine w_mv ?_
     exact aN_of n2 hS0 hps0
    ·
     refine w_op (a := v66) rfl rfl rfl rfl (by dsimp only [aput, List.set]) ?_
     exact aN_of n3 hS0 hps0
    ·
     refine w_op (a := v69) rfl rfl rfl rfl (by dsimp only [aput, List.set]) ?_
     exact aN_of n4 hS0 hps0
    ·
     refine w_opm (a := v13) (σ'' := G1) rfl rfl rfl rfl (by dsimp only [aput, List.set]) rfl ?_
     exact aN_of n5 hS0 hps2
   exact aN_start n0 hps0
  ·
   refine w_seq (w_region ?_)
   refine w_op (a := .agg (Enc.cells ((Trc.mk x12 (Ed.mk ((Ed.mk 0 0).k) ((Ed.mk 0 0).c))) : Trc))) rfl rfl rfl rfl (by dsimp only [aput, List.set]) ?_
   obtain ⟨x13, hx13, h⟩ := bindE_e h
   refine w_callc (args' := [.agg (Enc.cells ((Trc.mk x12 (Ed.mk ((Ed.mk 0 0).k) ((Ed.mk 0 0).c))) : Trc))]) (r := .tup [.raw (.int .i64 x13.1), .raw (.int .i64 x13.2)]) (check_sh fuel (Trc.mk x12 (Ed.mk ((Ed.mk 0 0).k) ((Ed.mk 0 0).c))) x13 hx13) rfl rfl (stripL_cons (strip_c (clo_agg (Enc.clo _))) rfl) (okTrimL_cons (okTrim_clo _ _ (clo_agg (Enc.clo _))) rfl) (by dsimp only [aput, List.set]) ?_
   refine w_mv ?_
   refine w_ex ?_
   refine w_ex ?_
   refine w_mv ?_
   refine w_mv ?_
   refine w_seq (w_region ?_)
   refine w_op (a := .agg (Enc.cells ((Trc.mk x12 (Ed.mk ((Ed.mk 0 0).k) ((Ed.mk 0 0).c))) : Trc))) rfl rfl rfl rfl (by dsimp only [aput, List.set]) ?_
   obtain ⟨x14, hx14, h⟩ := bindE_e h
   refine w_callc (args' := [.agg (Enc.cells ((Trc.mk x12 (Ed.mk ((Ed.mk 0 0).k) ((Ed.mk 0 0).c))) : Trc))]) (r := .tup [.raw (.string (bs x14.1)), .raw (.int .i64 x14.2)]) (write_sh fuel (Trc.mk x12 (Ed.mk ((Ed.mk 0 0).k) ((Ed.mk 0 0).c))) x14 hx14) rfl rfl (stripL_cons (strip_c (clo_agg (Enc.clo _))) rfl) (okTrimL_cons (okTrim_clo _ _ (clo_agg (Enc.clo _))) rfl) (by dsimp only [aput, List.set]) ?_
   refine w_mv ?_
   refine w_ex ?_
   refine w_ex ?_
   refine w_mv ?_
   refine w_mv ?_
   refine w_seq ?_
   refine w_seq ?_
   refine w_draw (k0 := 0) (id := 8) 24 (by kernel_rfl) (by kernel_rfl) ?_
   refine h_mv ?_
   refine h_mv ?_
   refine h_op (a := .raw (.bool (x13.1 != (Int.tmod at_ ((List.length x1.l : Int) + 1))))) rfl rfl rfl rfl (by dsimp only [aput, List.set]) ?_
   refine bif_e h (fun hc10 h => ?_) (fun hc10 h => ?_)
   ·
    refine h_op (a := .raw (.bool true)) rfl rfl rfl (q_bool rfl hc10) (by dsimp only [aput, List.set]) ?_
    refine h_pass rfl rfl rfl (by decide) (by dsimp only [aput, List.set]) ?_
    refine h_pass rfl rfl rfl (by decide) (by dsimp only [aput, List.set]) ?_
    refine h_op (a := .raw (.bool true)) rfl rfl rfl rfl (by dsimp only [aput, List.set]) ?_
    refine h_mv ?_
    refine h_pass rfl rfl rfl (by decide) (by dsimp only [aput, List.set]) ?_
    refine h_pass rfl rfl rfl (by decide) (by dsimp only [aput, List.set]) ?_
    refine h_pass rfl rfl rfl (by decide) (by dsimp only [aput, List.set]) ?_
    refine h_op (a := .raw (.bool true)) rfl rfl rfl rfl (by dsimp only [aput, List.set]) ?_
    refine h_mv ?_
    refine h_pass rfl rfl rfl (by decide) (by dsimp only [aput, List.set]) ?_
    refine h_pass rfl rfl rfl (by decide) (by dsimp only [aput, List.set]) ?_
    refine h_op (a := .raw (.bool true)) rfl rfl rfl rfl (by dsimp only [aput, List.set]) ?_
    refine h_mv ?_
    refine h_pass rfl rfl rfl (by decide) (by dsimp only [aput, List.set]) ?_
    refine h_pass rfl rfl rfl (by decide) (by dsimp only [aput, List.set]) ?_
    refine h_pass rfl rfl rfl (by decide) (by dsimp only [aput, List.set]) ?_
    refine h_pass rfl rfl rfl (by decide) (by dsimp only [aput, List.set]) ?_
    refine h_pass rfl rfl rfl (by decide) (by dsimp only [aput, List.set]) ?_
    refine h_pass rfl rfl rfl (by decide) (by dsimp only [aput, List.set]) ?_
    refine h_pass rfl rfl rfl (by decide) (by dsimp only [aput, List.set]) ?_
    refine h_end ?_
    refine w_pass rfl rfl (by decide) (by dsimp only [aput, List.set]) ?_
    refine w_pass rfl rfl (by decide) (by dsimp only [aput, List.set]) ?_
    refine w_op (a := .raw (.bool true)) rfl rfl rfl rfl (by dsimp only [aput, List.set]) ?_
    refine w_true rfl ?_
    refine w_seq (w_region ?_)
    refine w_op (a := .raw (.bool false)) rfl rfl rfl rfl (by dsimp only [aput, List.set]) ?_
    exact end_b h
   ·
    refine h_op (a := .raw (.bool false)) rfl rfl rfl (q_bool rfl hc10) (by dsimp only [aput, List.set]) ?_
    refine h_met rfl rfl ?_
    refine h_mv ?_
    refine h_met rfl rfl ?_
    refine h_op (a := .raw (.bool (x13.2 != 330))) rfl rfl rfl rfl (by dsimp only [aput, List.set]) ?_
    refine h_op (a := .raw (.bool (x13.2 != 330))) rfl rfl rfl rfl (by dsimp only [aput, List.set]) ?_
    refine bif_e h (fun hc11 h => ?_) (fun hc11 h => ?_)
    ·
     refine h_op (a := .raw (.bool true)) rfl rfl rfl (q_bool rfl hc11) (by dsimp only [aput, List.set]) ?_
     refine h_pass rfl rfl rfl (by decide) (by dsimp only [aput, List.set]) ?_
     refine h_pass rfl rfl rfl (by decide) (by dsimp only [aput, List.set]) ?_
     refine h_pass rfl rfl rfl (by decide) (by dsimp only [aput, List.set]) ?_
     refine h_op (a := .raw (.bool true)) rfl rfl rfl rfl (by dsimp only [aput, List.set]) ?_
     refine h_mv ?_
     refine h_pass rfl rfl rfl (by decide) (by dsimp only [aput, List.set]) ?_
     refine h_pass rfl rfl rfl (by decide) (by dsimp only [aput, List.set]) ?_
     refine h_op (a := .raw (.bool true)) rfl rfl rfl rfl (by dsimp only [aput, List.set]) ?_
     refine h_mv ?_
     refine h_pass rfl rfl rfl (by decide) (by dsimp only [aput, List.set]) ?_
     refine h_pass rfl rfl rfl (by decide) (by dsimp only [aput, List.set]) ?_
     refine h_pass rfl rfl rfl (by decide) (by dsimp only [aput, List.set]) ?_
     refine h_pass rfl rfl rfl (by decide) (by dsimp only [aput, List.set]) ?_
     refine h_pass rfl rfl rfl (by decide) (by dsimp only [aput, List.set]) ?_
     refine h_pass rfl rfl rfl (by decide) (by dsimp only [aput, List.set]) ?_
     refine h_pass rfl rfl rfl (by decide) (by dsimp only [aput, List.set]) ?_
     refine h_end ?_
     refine w_pass rfl rfl (by decide) (by dsimp only [aput, List.set]) ?_
     refine w_pass rfl rfl (by decide) (by dsimp only [aput, List.set]) ?_
     refine w_op (a := .raw (.bool true)) rfl rfl rfl rfl (by dsimp only [aput, List.set]) ?_
     refine w_true rfl ?_
     refine w_seq (w_region ?_)
     refine w_op (a := .raw (.bool false)) rfl rfl rfl rfl (by dsimp only [aput, List.set]) ?_
     exact end_b h
    ·
     refine h_op (a := .raw (.bool false)) rfl rfl rfl (q_bool rfl hc11) (by dsimp only [aput, List.set]) ?_
     refine h_met rfl rfl ?_
     refine h_mv ?_
     refine h_met rfl rfl ?_
     refine h_mv ?_
     refine h_met rfl rfl ?_
     refine h_op (a := .raw (.bool (x14.2 != x13.2))) rfl rfl rfl rfl (by dsimp only [aput, List.set]) ?_
     refine h_op (a := .raw (.bool (x14.2 != x13.2))) rfl rfl rfl rfl (by dsimp only [aput, List.set]) ?_
     refine bif_e h (fun hc12 h => ?_) (fun hc12 h => ?_)
     ·
      refine h_op (a := .raw (.bool true)) rfl rfl rfl (q_bool rfl hc12) (by dsimp only [aput, List.set]) ?_
      refine h_pass rfl rfl rfl (by decide) (by dsimp only [aput, List.set]) ?_
      refine h_pass rfl rfl rfl (by decide) (by dsimp only [aput, List.set]) ?_
      refine h_op (a := .raw (.bool true)) rfl rfl rfl rfl (by dsimp only [aput, List.set]) ?_
      refine h_mv ?_
      refine h_pass rfl rfl rfl (by decide) (by dsimp only [aput, List.set]) ?_
      refine h_pass rfl rfl rfl (by decide) (by dsimp only [aput, List.set]) ?_
      refine h_pass rfl rfl rfl (by decide) (by dsimp only [aput, List.set]) ?_
      refine h_pass rfl rfl rfl (by decide) (by dsimp only [aput, List.set]) ?_
      refine h_pass rfl rfl rfl (by decide) (by dsimp only [aput, List.set]) ?_
      refine h_pass rfl rfl rfl (by decide) (by dsimp only [aput, List.set]) ?_
      refine h_pass rfl rfl rfl (by decide) (by dsimp only [aput, List.set]) ?_
      refine h_end ?_
      refine w_pass rfl rfl (by decide) (by dsimp only [aput, List.set]) ?_
      refine w_pass rfl rfl (by decide) (by dsimp only [aput, List.set]) ?_
      refine w_op (a := .raw (.bool true)) rfl rfl rfl rfl (by dsimp only [aput, List.set]) ?_
      refine w_true rfl ?_
      refine w_seq (w_region ?_)
      refine w_op (a := .raw (.bool false)) rfl rfl rfl rfl (by dsimp only [aput, List.set]) ?_
      exact end_b h
     ·
      refine h_op (a := .raw (.bool false)) rfl rfl rfl (q_bool rfl hc12) (by dsimp only [aput, List.set]) ?_
      refine h_met rfl rfl ?_
      refine h_mv ?_
      refine h_met rfl rfl ?_
      refine h_op (a := .raw (.bool (!(x14.1 == ([] : List UInt8))))) rfl rfl rfl (q_strne rfl rfl rfl) (by dsimp only [aput, List.set]) ?_
      refine h_op (a := .raw (.bool (!(x14.1 == ([] : List UInt8))))) rfl rfl rfl rfl (by dsimp only [aput, List.set]) ?_
      refine bif_e h (fun hc13 h => ?_) (fun hc13 h => ?_)
      ·
       refine h_op (a := .raw (.bool true)) rfl rfl rfl (q_bool rfl hc13) (by dsimp only [aput, List.set]) ?_
       refine h_pass rfl rfl rfl (by decide) (by dsimp only [aput, List.set]) ?_
       refine h_pass rfl rfl rfl (by decide) (by dsimp only [aput, List.set]) ?_
       refine h_pass rfl rfl rfl (by decide) (by dsimp only [aput, List.set]) ?_
       refine h_pass rfl rfl rfl (by decide) (by dsimp only [aput, List.set]) ?_
       refine h_pass rfl rfl rfl (by decide) (by dsimp only [aput, List.set]) ?_
       refine h_pass rfl rfl rfl (by decide) (by dsimp only [aput, List.set]) ?_
       refine h_pass rfl rfl rfl (by decide) (by dsimp only [aput, List.set]) ?_
       refine h_end ?_
       refine w_pass rfl rfl (by decide) (by dsimp only [aput, List.set]) ?_
       refine w_pass rfl rfl (by decide) (by dsimp only [aput, List.set]) ?_
       refine w_op (a := .raw (.bool true)) rfl rfl rfl rfl (by dsimp only [aput, List.set]) ?_
       refine w_true rfl ?_
       refine w_seq (w_region ?_)
       refine w_op (a := .raw (.bool false)) rfl rfl rfl rfl (by dsimp only [aput, List.set]) ?_
       exact end_b h
      ·
       refine h_op (a := .raw (.bool false)) rfl rfl rfl (q_bool rfl hc13) (by dsimp only [aput, List.set]) ?_
       refine h_met rfl rfl ?_
       refine h_op (a := .agg (Enc.cells ((Trc.mk x12 (Ed.mk ((Ed.mk 0 0).k) ((Ed.mk 0 0).c))) : Trc))) rfl rfl rfl rfl (by dsimp only [aput, List.set]) ?_
       refine h_met rfl rfl ?_
       obtain ⟨x15, hx15, h⟩ := bindE_e h
       refine h_call (args' := [.agg (Enc.cells ((Trc.mk x12 (Ed.mk ((Ed.mk 0 0).k) ((Ed.mk 0 0).c))) : Trc))]) (r := .raw (.int .i64 x15)) (taken_sh fuel (Trc.mk x12 (Ed.mk ((Ed.mk 0 0).k) ((Ed.mk 0 0).c))) x15 hx15) rfl rfl rfl (stripL_cons (strip_c (clo_agg (Enc.clo _))) rfl) (okTrimL_cons (okTrim_clo _ _ (clo_agg (Enc.clo _))) rfl) (by dsimp only [aput, List.set]) ?_
       refine h_met rfl rfl ?_
       refine h_op (a := .agg (Enc.cells ((Trc.mk x12 (Ed.mk ((Ed.mk 0 0).k) ((Ed.mk 0 0).c))) : Trc))) rfl rfl rfl rfl (by dsimp only [aput, List.set]) ?_
       refine h_met rfl rfl ?_
       obtain ⟨x16, hx16, h⟩ := bindE_e h
       refine h_call (args' := [.agg (Enc.cells ((Trc.mk x12 (Ed.mk ((Ed.mk 0 0).k) ((Ed.mk 0 0).c))) : Trc))]) (r := .raw (.int .i64 x16)) (lost_sh fuel (Trc.mk x12 (Ed.mk ((Ed.mk 0 0).k) ((Ed.mk 0 0).c))) x16 hx16) rfl rfl rfl (stripL_cons (strip_c (clo_agg (Enc.clo _))) rfl) (okTrimL_cons (okTrim_clo _ _ (clo_agg (Enc.clo _))) rfl) (by dsimp only [aput, List.set]) ?_
       refine h_met rfl rfl ?_
       obtain ⟨g14, h⟩ := chk_e h
       refine h_op (a := .raw (.int .i64 (x15 + x16))) rfl rfl rfl (q_add rfl rfl rfl rfl g14.1 g14.2) (by dsimp only [aput, List.set]) ?_
       refine h_met rfl rfl ?_
       refine h_op (a := .agg (Enc.cells ((Trc.mk x12 (Ed.mk ((Ed.mk 0 0).k) ((Ed.mk 0 0).c))) : Trc))) rfl rfl rfl rfl (by dsimp only [aput, List.set]) ?_
       refine h_met rfl rfl ?_
       obtain ⟨x17, hx17, h⟩ := bindE_e h
       refine h_call (args' := [.agg (Enc.cells ((Trc.mk x12 (Ed.mk ((Ed.mk 0 0).k) ((Ed.mk 0 0).c))) : Trc))]) (r := .raw (.int .i64 x17)) (at_sh fuel (Trc.mk x12 (Ed.mk ((Ed.mk 0 0).k) ((Ed.mk 0 0).c))) x17 hx17) rfl rfl rfl (stripL_cons (strip_c (clo_agg (Enc.clo _))) rfl) (okTrimL_cons (okTrim_clo _ _ (clo_agg (Enc.clo _))) rfl) (by dsimp only [aput, List.set]) ?_
       refine h_end ?_
       refine w_met rfl rfl ?_
       obtain ⟨g15, h⟩ := chk_e h
       refine w_op (a := .raw (.int .i64 ((x15 + x16) + x17))) rfl rfl rfl (op_q (q_add rfl rfl rfl rfl g15.1 g15.2)) (by dsimp only [aput, List.set]) ?_
       refine w_met rfl rfl ?_
       refine w_op (a := .raw (.bool (((x15 + x16) + x17) != 0))) rfl rfl rfl rfl (by dsimp only [aput, List.set]) ?_
       refine w_op (a := .raw (.bool (((x15 + x16) + x17) != 0))) rfl rfl rfl rfl (by dsimp only [aput, List.set]) ?_
       refine bif_e h (fun hc14 h => ?_) (fun hc14 h => ?_)
       ·
        refine w_condT hc14 rfl ?_
        refine w_seq (w_region ?_)
        refine w_op (a := .raw (.bool false)) rfl rfl rfl rfl (by dsimp only [aput, List.set]) ?_
        exact end_b h
       ·
        refine w_condF hc14 rfl ?_
        refine w_seq (w_region ?_)
        refine w_op (a := .agg (Enc.cells ((Ed.mk 0 0) : Ed))) rfl rfl rfl rfl (by dsimp only [aput, List.set]) ?_
        refine w_mv ?_
        refine w_op (a := .raw (.int .u8 (max how 6))) rfl rfl rfl (op_q (q_max rfl rfl rfl rfl rfl)) (by dsimp only [aput, List.set]) ?_
        refine w_op (a := .agg (Enc.cells ((Ed.mk (max how 6) 0) : Ed))) rfl rfl rfl rfl (by dsimp only [aput, List.set]) ?_
        refine w_mv ?_
        refine w_op (a := .raw (.int .i64 (max n 1))) rfl rfl rfl (op_q (q_max rfl rfl rfl rfl rfl)) (by dsimp only [aput, List.set]) ?_
        refine w_op (a := .agg (Enc.cells ((Ed.mk 1 (max n 1)) : Ed))) rfl rfl rfl rfl (by dsimp only [aput, List.set]) ?_
        refine w_mv ?_
        refine w_op (a := .raw (.int .i64 (max n 256))) rfl rfl rfl (op_q (q_max rfl rfl rfl rfl rfl)) (by dsimp only [aput, List.set]) ?_
        refine w_op (a := .agg (Enc.cells ((Ed.mk 2 (max n 256)) : Ed))) rfl rfl rfl rfl (by dsimp only [aput, List.set]) ?_
        refine w_mv ?_
        refine w_op (a := .raw (.int .i64 (min n (-1)))) rfl rfl rfl (op_q (q_min rfl rfl rfl rfl rfl)) (by dsimp only [aput, List.set]) ?_
        refine w_op (a := .agg (Enc.cells ((Ed.mk 2 (min n (-1))) : Ed))) rfl rfl rfl rfl (by dsimp only [aput, List.set]) ?_
        refine w_op (a := .list (List.length ([(Ed.mk 0 0), (Ed.mk (max how 6) 0), (Ed.mk 1 (max n 1)), (Ed.mk 2 (max n 256)), (Ed.mk 2 (min n (-1)))] : List Ed)) (Enc.cellsL ([(Ed.mk 0 0), (Ed.mk (max how 6) 0), (Ed.mk 1 (max n 1)), (Ed.mk 2 (max n 256)), (Ed.mk 2 (min n (-1)))] : List Ed)) .full) rfl rfl rfl (op_q (q_lit (α := Ed) (l := [(Ed.mk 0 0), (Ed.mk (max how 6) 0), (Ed.mk 1 (max n 1)), (Ed.mk 2 (max n 256)), (Ed.mk 2 (min n (-1)))]) (cs := Enc.cells ((Ed.mk 0 0) : Ed) ++ (Enc.cells ((Ed.mk (max how 6) 0) : Ed) ++ (Enc.cells ((Ed.mk 1 (max n 1)) : Ed) ++ (Enc.cells ((Ed.mk 2 (max n 256)) : Ed) ++ (Enc.cells ((Ed.mk 2 (min n (-1))) : Ed) ++ []))))) (by kernel_rfl) (by rw [Enc.cons, Enc.cons, Enc.cons, Enc.cons, Enc.cons, Enc.nil]))) (by dsimp only [aput, List.set]) ?_
        refine w_mv ?_
        refine w_op (a := .raw (.int .u8 (Int.tmod how 5))) rfl rfl rfl rfl (by dsimp only [aput, List.set]) ?_
        obtain ⟨g16, h⟩ := chk_e h
        obtain ⟨x18, hx18, h⟩ := letE_e h
        refine w_op (a := .iptr (Enc.cells x18 ++ Enc.cellsL (List.drop (Int.toNat (Int.tmod how 5) + 1) [(Ed.mk 0 0), (Ed.mk (max how 6) 0), (Ed.mk 1 (max n 1)), (Ed.mk 2 (max n 256)), (Ed.mk 2 (min n (-1)))]))) rfl rfl rfl (op_q (by rw [← hx18]; exact (q_idx (α := Ed) (l := [(Ed.mk 0 0), (Ed.mk (max how 6) 0), (Ed.mk 1 (max n 1)), (Ed.mk 2 (max n 256)), (Ed.mk 2 (min n (-1)))]) g16 rfl rfl rfl rfl rfl))) (by dsimp only [aput, List.set]) ?_
        refine w_op (a := .agg (Enc.cells (x18 : Ed))) rfl rfl rfl rfl (by dsimp only [aput, List.set]) ?_
        refine w_op (a := .ptr 0 1) rfl rfl rfl rfl (by dsimp only [aput, List.set]) ?_
        refine w_opm (σ'' := ⟨[(26, (Enc.cells ((Trc.mk x1.l x18) : Trc))), (26, (Enc.cells ((Trc.mk x12 (Ed.mk ((Ed.mk 0 0).k) ((Ed.mk 0 0).c))) : Trc)))], [], [], 0, false⟩) rfl rfl rfl (op_store (n := 2) rfl rfl rfl rfl rfl ⟨rfl, rfl, Nat.le_of_ble_eq_true rfl, by decide⟩) (by dsimp only [aput, List.set]) rfl ?_
        refine w_seq (w_region ?_)
        refine w_op (a := .agg (Enc.cells ((Trc.mk x1.l x18) : Trc))) rfl rfl rfl rfl (by dsimp only [aput, List.set]) ?_
        obtain ⟨x19, hx19, h⟩ := bindE_e h
        refine w_callc (args' := [.agg (Enc.cells ((Trc.mk x1.l x18) : Trc))]) (r := .tup [.raw (.int .i64 x19.1), .raw (.int .i64 x19.2)]) (check_sh fuel (Trc.mk x1.l x18) x19 hx19) rfl rfl (stripL_cons (strip_c (clo_agg (Enc.clo _))) rfl) (okTrimL_cons (okTrim_clo _ _ (clo_agg (Enc.clo _))) rfl) (by dsimp only [aput, List.set]) ?_
        refine w_mv ?_
        refine w_ex ?_
        refine w_ex ?_
        refine w_mv ?_
        refine w_mv ?_
        refine w_seq (w_region ?_)
        refine w_op (a := .agg (Enc.cells ((Trc.mk x1.l x18) : Trc))) rfl rfl rfl rfl (by dsimp only [aput, List.set]) ?_
        obtain ⟨x20, hx20, h⟩ := bindE_e h
        refine w_callc (args' := [.agg (Enc.cells ((Trc.mk x1.l x18) : Trc))]) (r := .tup [.raw (.string (bs x20.1)), .raw (.int .i64 x20.2)]) (write_sh fuel (Trc.mk x1.l x18) x20 hx20) rfl rfl (stripL_cons (strip_c (clo_agg (Enc.clo _))) rfl) (okTrimL_cons (okTrim_clo _ _ (clo_agg (Enc.clo _))) rfl) (by dsimp only [aput, List.set]) ?_
        refine w_mv ?_
        refine w_ex ?_
        refine w_ex ?_
        refine w_mv ?_
        refine w_seq (w_region ?_)
        refine w_mv ?_
        refine w_op (a := .raw (.bool (x19.1 == (-1)))) rfl rfl rfl rfl (by dsimp only [aput, List.set]) ?_
        refine bif_e h (fun hc15 h => ?_) (fun hc15 h => ?_)
        ·
         refine w_op (a := .raw (.bool true)) rfl rfl rfl (op_q (q_bool rfl hc15)) (by dsimp only [aput, List.set]) ?_
         refine w_met rfl rfl ?_
         refine w_mv ?_
         refine w_met rfl rfl ?_
         refine w_op (a := .raw (.bool (x19.2 == 331))) rfl rfl rfl rfl (by dsimp only [aput, List.set]) ?_
         refine w_op (a := .raw (.bool (x19.2 == 331))) rfl rfl rfl rfl (by dsimp only [aput, List.set]) ?_
         refine bif_e h (fun hc16 h => ?_) (fun hc16 h => ?_)
         ·
          refine w_op (a := .raw (.bool true)) rfl rfl rfl (op_q (q_bool rfl hc16)) (by dsimp only [aput, List.set]) ?_
          refine w_met rfl rfl ?_
          refine w_mv ?_
          refine w_met rfl rfl ?_
          refine w_mv ?_
          refine w_met rfl rfl ?_
          refine w_op (a := .raw (.bool (x20.2 == x19.2))) rfl rfl rfl rfl (by dsimp only [aput, List.set]) ?_
          refine w_op (a := .raw (.bool (x20.2 == x19.2))) rfl rfl rfl rfl (by dsimp only [aput, List.set]) ?_
          refine bif_e h (fun hc17 h => ?_) (fun hc17 h => ?_)
          ·
           refine w_op (a := .raw (.bool true)) rfl rfl rfl (op_q (q_bool rfl hc17)) (by dsimp only [aput, List.set]) ?_
           refine w_met rfl rfl ?_
           refine w_callc (args' := []) (r := .raw (.bool true)) awake_pure rfl rfl rfl rfl (by dsimp only [aput, List.set]) ?_
           refine w_op (a := .raw (.bool true)) rfl rfl rfl rfl (by dsimp only [aput, List.set]) ?_
           refine w_mv ?_
           exact end_b h
          ·
           refine w_op (a := .raw (.bool false)) rfl rfl rfl (op_q (q_bool rfl hc17)) (by dsimp only [aput, List.set]) ?_
           refine w_pass rfl rfl (by decide) (by dsimp only [aput, List.set]) ?_
           refine w_op (a := .raw (.bool false)) rfl rfl rfl rfl (by dsimp only [aput, List.set]) ?_
           refine w_mv ?_
           exact end_b h
         ·
          refine w_op (a := .raw (.bool false)) rfl rfl rfl (op_q (q_bool rfl hc16)) (by dsimp only [aput, List.set]) ?_
          refine w_pass rfl rfl (by decide) (by dsimp only [aput, List.set]) ?_
          refine w_pass rfl rfl (by decide) (by dsimp only [aput, List.set]) ?_
          refine w_pass rfl rfl (by decide) (by dsimp only [aput, List.set]) ?_
          refine w_op (a := .raw (.bool false)) rfl rfl rfl rfl (by dsimp only [aput, List.set]) ?_
          refine w_mv ?_
          refine w_pass rfl rfl (by decide) (by dsimp only [aput, List.set]) ?_
          refine w_op (a := .raw (.bool false)) rfl rfl rfl rfl (by dsimp only [aput, List.set]) ?_
          refine w_mv ?_
          exact end_b h
        ·
         refine w_op (a := .raw (.bool false)) rfl rfl rfl (op_q (q_bool rfl hc15)) (by dsimp only [aput, List.set]) ?_
         refine w_pass rfl rfl (by decide) (by dsimp only [aput, List.set]) ?_
         refine w_pass rfl rfl (by decide) (by dsimp only [aput, List.set]) ?_
         refine w_op (a := .raw (.bool false)) rfl rfl rfl rfl (by dsimp only [aput, List.set]) ?_
         refine w_mv ?_
         refine w_pass rfl rfl (by decide) (by dsimp only [aput, List.set]) ?_
         refine w_pass rfl rfl (by decide) (by dsimp only [aput, List.set]) ?_
         refine w_pass rfl rfl (by decide) (by dsimp only [aput, List.set]) ?_
         refine w_op (a := .raw (.bool false)) rfl rfl rfl rfl (by dsimp only [aput, List.set]) ?_
         refine w_mv ?_
         refine w_pass rfl rfl (by decide) (by dsimp only [aput, List.set]) ?_
         refine w_op (a := .raw (.bool false)) rfl rfl rfl rfl (by dsimp only [aput, List.set]) ?_
         refine w_mv ?_
         exact end_b h
end Go.Ab

