/-
  trace: TraceGoes.
-/
import Derived.Test.YtcdmdnadilafhaaDoorZtW2
import Derived.Test.YtcdmdnadilafhaaDoorZtAw
set_option linter.unusedSimpArgs false
set_option linter.unusedVariables false
namespace Go.Ab
open Go Go.RowKit Go.Fwd Go.Proofs
def F_tracegoes (fuel : Nat) (l : (List Sme)) (en : Int) (code : Int) (i : Int) (j : Int) : Option Bool :=
  (bindE (F_made fuel l en code) (fun x1 => (chk (-9223372036854775808 ≤ i ∧ i < 9223372036854775808) (chk (-9223372036854775808 ≤ ((List.length x1.l : Int) + 1) ∧ ((List.length x1.l : Int) + 1) < 9223372036854775808) (chk ((0 ≤ i ∧ i < 9223372036854775808) ∧ 0 < ((List.length x1.l : Int) + 1)) (chk (-9223372036854775808 ≤ j ∧ j < 9223372036854775808) (chk (-9223372036854775808 ≤ ((List.length x1.l : Int) + 1) ∧ ((List.length x1.l : Int) + 1) < 9223372036854775808) (chk ((0 ≤ j ∧ j < 9223372036854775808) ∧ 0 < ((List.length x1.l : Int) + 1)) (chk (0 ≤ 0 ∧ 0 ≤ (Int.tmod i ((List.length x1.l : Int) + 1)) ∧ (Int.tmod i ((List.length x1.l : Int) + 1)) ≤ (List.length x1.l : Int)) (chk (0 ≤ 0 ∧ 0 ≤ (Int.tmod j ((List.length x1.l : Int) + 1)) ∧ (Int.tmod j ((List.length x1.l : Int) + 1)) ≤ (List.length x1.l : Int)) (chk (0 ≤ 0 ∧ 0 ≤ (Int.tmod i ((List.length x1.l : Int) + 1)) ∧ (Int.tmod i ((List.length x1.l : Int) + 1)) ≤ (List.length x1.l : Int)) (bindE (F_goes fuel x1 x1) (fun x2 => (bif (!x2) then (some false) else (bindE (F_goes fuel (Trc.mk (sub x1.l 0 (Int.tmod i ((List.length x1.l : Int) + 1))) (Ed.mk 1 0)) x1) (fun x3 => (bif (!x3) then (some false) else (bindE (F_goes fuel (Trc.mk (sub x1.l 0 (Int.tmod j ((List.length x1.l : Int) + 1))) (Ed.mk 1 0)) x1) (fun x4 => (bif (!x4) then (some false) else (bindE (F_goes fuel (Trc.mk (sub x1.l 0 (Int.tmod i ((List.length x1.l : Int) + 1))) (Ed.mk 1 0)) (Trc.mk (sub x1.l 0 (Int.tmod j ((List.length x1.l : Int) + 1))) (Ed.mk 1 0))) (fun x5 => (bif (!(x5 == (decide ((Int.tmod i ((List.length x1.l : Int) + 1)) ≤ (Int.tmod j ((List.length x1.l : Int) + 1)))))) then (some false) else (bindE (F_goes fuel (Trc.mk (sub x1.l 0 (Int.tmod i ((List.length x1.l : Int) + 1))) (Ed.mk 1 0)) (Trc.mk (sub x1.l 0 (Int.tmod i ((List.length x1.l : Int) + 1))) (Ed.mk 4 0))) (fun x6 => (bif (!x6) then (some false) else (bindE (F_goes fuel (Trc.mk (sub x1.l 0 (Int.tmod i ((List.length x1.l : Int) + 1))) (Ed.mk 4 0)) (Trc.mk (sub x1.l 0 (Int.tmod i ((List.length x1.l : Int) + 1))) (Ed.mk 1 0))) (fun x7 => (bif x7 then (some false) else (cutE (τ := Unit) (bindE (F_goes fuel (Trc.mk (sub x1.l 0 (Int.tmod i ((List.length x1.l : Int) + 1))) (Ed.mk 4 0)) x1) (fun x8 => (bif (decide (x1.e = ((Trc.mk (sub x1.l 0 (Int.tmod i ((List.length x1.l : Int) + 1))) (Ed.mk 4 0)).e))) then (bif (!(x8 == ((Int.tmod i ((List.length x1.l : Int) + 1)) == (List.length x1.l : Int)))) then (some (Sum.inr false)) else (bindE (F_goes fuel x1 (Trc.mk (sub x1.l 0 (Int.tmod i ((List.length x1.l : Int) + 1))) (Ed.mk 1 0))) (fun x9 => (bif (decide (x1.e = (Ed.mk 1 0))) then (bif (!(x9 == ((Int.tmod i ((List.length x1.l : Int) + 1)) == (List.length x1.l : Int)))) then (some (Sum.inr false)) else (some (Sum.inl ()))) else (bif (!(x9 == false)) then (some (Sum.inr false)) else (some (Sum.inl ()))))))) else (bif (!(x8 == false)) then (some (Sum.inr false)) else (bindE (F_goes fuel x1 (Trc.mk (sub x1.l 0 (Int.tmod i ((List.length x1.l : Int) + 1))) (Ed.mk 1 0))) (fun x10 => (bif (decide (x1.e = (Ed.mk 1 0))) then (bif (!(x10 == ((Int.tmod i ((List.length x1.l : Int) + 1)) == (List.length x1.l : Int)))) then (some (Sum.inr false)) else (some (Sum.inl ()))) else (bif (!(x10 == false)) then (some (Sum.inr false)) else (some (Sum.inl ())))))))))) (fun j1 => (bindE (F_goes fuel (Trc.mk (sub x1.l 0 (Int.tmod j ((List.length x1.l : Int) + 1))) (Ed.mk 1 0)) (Trc.mk (sub x1.l 0 (Int.tmod i ((List.length x1.l : Int) + 1))) (Ed.mk 1 0))) (fun x11 => (bif (decide ((Int.tmod i ((List.length x1.l : Int) + 1)) ≤ (Int.tmod j ((List.length x1.l : Int) + 1)))) then (bindE (F_same fuel (Trc.mk (sub x1.l 0 (Int.tmod i ((List.length x1.l : Int) + 1))) (Ed.mk 1 0)) (Trc.mk (sub x1.l 0 (Int.tmod j ((List.length x1.l : Int) + 1))) (Ed.mk 1 0))) (fun x12 => (bif (x11 == x12) then (some true) else (some false)))) else (bif x11 then (some true) else (some false))))))))))))))))))))))))))))))))))))
theorem ent5 : Ent Tryd.prog 5 := enters_of Tryd.func5 (by kernel_rfl) rfl
set_option maxRecDepth 100000 in
set_option maxHeartbeats 4000000 in
theorem tracegoes_sh (fuel : Nat) (l : (List Sme)) (en : Int) (code : Int) (i : Int) (j : Int) (r : Bool) (h : F_tracegoes fuel l en code i j = some r) : Pure (ITP Tryd.prog) Tryd.prog 5 [.list (List.length (l : List Sme)) (Enc.cellsL (l : List Sme)) .none, .raw (.int .u8 en), .raw (.int .u8 code), .raw (.int .u8 i), .raw (.int .u8 j)] (.raw (.bool r)) := by
 obtain ⟨d, hd⟩ : ∃ d, Tryd.f5.body = some d := ⟨_, rfl⟩
 refine pure_of mix Tryd.func5 hd ent5 ?_
 cases hd
 unfold F_tracegoes at h
 refine w_start (by dsimp only [abeginS, Tryd.f5, List.length_cons, List.length_nil, Nat.zero_add, Nat.reduceAdd, Nat.reduceSub, List.replicate, List.cons_append, List.nil_append]) (by dsimp only [St.empty]) ?_
 refine w_seq (w_region ?_)
 refine w_op (a := .raw (.bool false)) rfl rfl rfl rfl (by dsimp only [aput, List.set]) ?_
 refine w_seq (w_region ?_)
 refine w_op (a := .list (List.length (l : List Sme)) (Enc.cellsL (l : List Sme)) .none) rfl rfl rfl rfl (by dsimp only [aput, List.set]) ?_
 refine w_op (a := .raw (.int .u8 en)) rfl rfl rfl rfl (by dsimp only [aput, List.set]) ?_
 refine w_op (a := .raw (.int .u8 code)) rfl rfl rfl rfl (by dsimp only [aput, List.set]) ?_
 obtain ⟨x1, hx1, h⟩ := bindE_e h
 refine w_callc (args' := [.list (List.length (l : List Sme)) (Enc.cellsL (l : List Sme)) .none, .raw (.int .u8 en), .raw (.int .u8 code)]) (r := .agg (Enc.cells (x1 : Trc))) (made_sh fuel l en code x1 hx1) rfl rfl (stripL_cons (strip_l (Enc.cloL _)) (stripL_cons rfl (stripL_cons rfl rfl))) (okTrimL_cons (okTrim_l (Enc.cloL _)) (okTrimL_cons rfl (okTrimL_cons rfl rfl))) (by dsimp only [aput, List.set]) ?_
 refine w_opm (a := .ptr 0 0) (σ'' := ⟨[(26, [.list 0 [] .full, .raw (.int .u8 0), .raw (.int .i64 0)])], [], [], 0, false⟩) rfl rfl rfl rfl (by dsimp only [aput, List.set]) rfl ?_
 refine w_opm (σ'' := ⟨[(26, (Enc.cells (x1 : Trc)))], [], [], 0, false⟩) rfl rfl rfl (op_storeW (n := 3) rfl rfl rfl rfl rfl rfl rfl rfl (by decide)) (by dsimp only [aput, List.set]) rfl ?_
 refine w_seq ?_
 refine w_draw (id := 2) 15 (by kernel_rfl) (by kernel_rfl) ?_
 refine h_op (a := .raw (.int .u8 i)) rfl rfl rfl rfl (by dsimp only [aput, List.set]) ?_
 obtain ⟨g1, h⟩ := chk_e h
 refine h_op (a := .raw (.int .i64 i)) rfl rfl rfl (q_conv64 g1 rfl rfl rfl) (by dsimp only [aput, List.set]) ?_
 refine h_op (a := .ptr 0 0) rfl rfl rfl rfl (by dsimp only [aput, List.set]) ?_
 refine h_op (a := .list (List.length (x1.l : List En)) (Enc.cellsL (x1.l : List En)) .none) rfl rfl rfl rfl (by dsimp only [aput, List.set]) ?_
 refine h_op (a := .raw (.int .i64 (List.length x1.l : Int))) rfl rfl rfl rfl (by dsimp only [aput, List.set]) ?_
 obtain ⟨g2, h⟩ := chk_e h
 refine h_op (a := .raw (.int .i64 ((List.length x1.l : Int) + 1))) rfl rfl rfl (q_add rfl rfl rfl rfl g2.1 g2.2) (by dsimp only [aput, List.set]) ?_
 obtain ⟨g3, h⟩ := chk_e h
 refine h_op (a := .raw (.int .i64 (Int.tmod i ((List.length x1.l : Int) + 1)))) rfl rfl rfl (q_rem64 g3 rfl rfl rfl) (by dsimp only [aput, List.set]) ?_
 refine h_op (a := .raw (.int .u8 j)) rfl rfl rfl rfl (by dsimp only [aput, List.set]) ?_
 obtain ⟨g4, h⟩ := chk_e h
 refine h_op (a := .raw (.int .i64 j)) rfl rfl rfl (q_conv64 g4 rfl rfl rfl) (by dsimp only [aput, List.set]) ?_
 refine h_op (a := .ptr 0 0) rfl rfl rfl rfl (by dsimp only [aput, List.set]) ?_
 refine h_op (a := .list (List.length (x1.l : List En)) (Enc.cellsL (x1.l : List En)) .none) rfl rfl rfl rfl (by dsimp only [aput, List.set]) ?_
 refine h_op (a := .raw (.int .i64 (List.length x1.l : Int))) rfl rfl rfl rfl (by dsimp only [aput, List.set]) ?_
 obtain ⟨g5, h⟩ := chk_e h
 refine h_op (a := .raw (.int .i64 ((List.length x1.l : Int) + 1))) rfl rfl rfl (q_add rfl rfl rfl rfl g5.1 g5.2) (by dsimp only [aput, List.set]) ?_
 obtain ⟨g6, h⟩ := chk_e h
 refine h_op (a := .raw (.int .i64 (Int.tmod j ((List.length x1.l : Int) + 1)))) rfl rfl rfl (q_rem64 g6 rfl rfl rfl) (by dsimp only [aput, List.set]) ?_
 refine h_op (a := .raw (.int .i64 (Int.tmod i ((List.length x1.l : Int) + 1)))) rfl rfl rfl rfl (by dsimp only [aput, List.set]) ?_
 refine h_end ?_
 refine w_op (a := .raw (.int .i64 (Int.tmod j ((List.length x1.l : Int) + 1)))) rfl rfl rfl rfl (by dsimp only [aput, List.set]) ?_
 refine w_seq (w_region ?_)
 refine w_op (a := .agg (Enc.cells ((Ed.mk 1 0) : Ed))) rfl rfl rfl rfl (by dsimp only [aput, List.set]) ?_
 refine w_opm (a := .ptr 1 0) (σ'' := ⟨[(26, (Enc.cells (x1 : Trc))), (24, (Enc.cells ((Ed.mk 0 0) : Ed)))], [], [], 0, false⟩) rfl rfl rfl rfl (by dsimp only [aput, List.set]) rfl ?_
 refine w_opm (σ'' := ⟨[(26, (Enc.cells (x1 : Trc))), (24, (Enc.cells ((Ed.mk 1 0) : Ed)))], [], [], 0, false⟩) rfl rfl rfl (op_storeW (n := 2) rfl rfl rfl rfl rfl rfl rfl rfl (by decide)) (by dsimp only [aput, List.set]) rfl ?_
 refine w_seq ?_
 refine w_drawD (id := 4) 16 [(⟨12, 15, 26, zeroV Tryd.prog 26, 14, .agg (Enc.cells ((Trc.mk (sub x1.l 0 (Int.tmod i ((List.length x1.l : Int) + 1))) (Ed.mk 1 0)) : Trc))⟩ : Pe), (⟨13, 16, 26, zeroV Tryd.prog 26, 15, .agg (Enc.cells ((Trc.mk (sub x1.l 0 (Int.tmod j ((List.length x1.l : Int) + 1))) (Ed.mk 1 0)) : Trc))⟩ : Pe)] (by kernel_rfl) (by kernel_rfl) (by kernel_rfl) ?_
 refine hD_op (a := .ptr 0 0) rfl rfl rfl rfl rfl (by dsimp only [aput, List.set]) ?_
 refine hD_op (a := .list (List.length (x1.l : List En)) (Enc.cellsL (x1.l : List En)) .none) rfl rfl rfl rfl rfl (by dsimp only [aput, List.set]) ?_
 refine hD_op (a := .raw (.int .i64 (Int.tmod i ((List.length x1.l : Int) + 1)))) rfl rfl rfl rfl rfl (by dsimp only [aput, List.set]) ?_
 obtain ⟨g7, h⟩ := chk_e h
 refine hD_opS (a := .list (List.length ((sub x1.l 0 (Int.tmod i ((List.length x1.l : Int) + 1))) : List En)) (Enc.cellsL ((sub x1.l 0 (Int.tmod i ((List.length x1.l : Int) + 1))) : List En)) .none) rfl rfl rfl rfl (q_sub_H (α := En) (l := x1.l) g7 rfl rfl rfl rfl rfl) (strip_sub _ _ _) (by dsimp only [aput, List.set]) ?_
 refine hD_op (a := .agg (Enc.cells ((Ed.mk 1 0) : Ed))) rfl rfl rfl rfl rfl (by dsimp only [aput, List.set]) ?_
 refine hD_opS (a := .agg (Enc.cells ((Trc.mk (sub x1.l 0 (Int.tmod i ((List.length x1.l : Int) + 1))) (Ed.mk 1 0)) : Trc))) (a0 := (trcR (Trc.mk (sub x1.l 0 (Int.tmod i ((List.length x1.l : Int) + 1))) (Ed.mk 1 0)) .none)) rfl rfl rfl rfl (by kernel_rfl) (strip_trcR _ _) (by dsimp only [aput, List.set]) ?_
 refine hD_op (a := .ptr 0 0) rfl rfl rfl rfl rfl (by dsimp only [aput, List.set]) ?_
 refine hD_op (a := .list (List.length (x1.l : List En)) (Enc.cellsL (x1.l : List En)) .none) rfl rfl rfl rfl rfl (by dsimp only [aput, List.set]) ?_
 refine hD_op (a := .raw (.int .i64 (Int.tmod j ((List.length x1.l : Int) + 1)))) rfl rfl rfl rfl rfl (by dsimp only [aput, List.set]) ?_
 obtain ⟨g8, h⟩ := chk_e h
 refine hD_opS (a := .list (List.length ((sub x1.l 0 (Int.tmod j ((List.length x1.l : Int) + 1))) : List En)) (Enc.cellsL ((sub x1.l 0 (Int.tmod j ((List.length x1.l : Int) + 1))) : List En)) .none) rfl rfl rfl rfl (q_sub_H (α := En) (l := x1.l) g8 rfl rfl rfl rfl rfl) (strip_sub _ _ _) (by dsimp only [aput, List.set]) ?_
 refine hD_op (a := .agg (Enc.cells ((Ed.mk 1 0) : Ed))) rfl rfl rfl rfl rfl (by dsimp only [aput, List.set]) ?_
 refine hD_opS (a := .agg (Enc.cells ((Trc.mk (sub x1.l 0 (Int.tmod j ((List.length x1.l : Int) + 1))) (Ed.mk 1 0)) : Trc))) (a0 := (trcR (Trc.mk (sub x1.l 0 (Int.tmod j ((List.length x1.l : Int) + 1))) (Ed.mk 1 0)) .none)) rfl rfl rfl rfl (by kernel_rfl) (strip_trcR _ _) (by dsimp only [aput, List.set]) ?_
 refine hD_new _ List.mem_cons_self rfl rfl rfl rfl rfl (by kernel_rfl) (by dsimp only [List.set]) ?_
 refine hD_new _ (List.mem_cons_of_mem _ List.mem_cons_self) rfl rfl rfl rfl rfl (by kernel_rfl) (by dsimp only [List.set]) ?_
 refine hD_store _ _ List.mem_cons_self rfl (Nat.le_of_ble_eq_true rfl) rfl rfl rfl rfl rfl (by kernel_rfl) (by kernel_rfl) (by kernel_rfl) ?_
 refine hD_store _ _ (List.mem_cons_of_mem _ List.mem_cons_self) rfl (Nat.le_of_ble_eq_true rfl) rfl rfl rfl rfl rfl (by kernel_rfl) (by kernel_rfl) (by kernel_rfl) ?_
 refine hD_end ?_
 refine hD_doneF (n := 2) rfl (show _ = (⟨[(26, (Enc.cells (x1 : Trc))), (24, (Enc.cells ((Ed.mk 1 0) : Ed))), (26, (Enc.cells ((Trc.mk (sub x1.l 0 (Int.tmod i ((List.length x1.l : Int) + 1))) (Ed.mk 1 0)) : Trc))), (26, (Enc.cells ((Trc.mk (sub x1.l 0 (Int.tmod j ((List.length x1.l : Int) + 1))) (Ed.mk 1 0)) : Trc)))], [], [], 0, false⟩ : St) from rfl) (by dsimp only [pendSD, List.set, Nat.reduceAdd]) ?_
 refine w_seq (w_region ?_)
 refine w_op (a := .ptr 0 0) rfl rfl rfl rfl (by dsimp only [aput, List.set]) ?_
 refine w_op (a := .list (List.length (x1.l : List En)) (Enc.cellsL (x1.l : List En)) .none) rfl rfl rfl rfl (by dsimp only [aput, List.set]) ?_
 refine w_op (a := .raw (.int .i64 (Int.tmod i ((List.length x1.l : Int) + 1)))) rfl rfl rfl rfl (by dsimp only [aput, List.set]) ?_
 obtain ⟨g9, h⟩ := chk_e h
 refine w_qs (.list (List.length ((sub x1.l 0 (Int.tmod i ((List.length x1.l : Int) + 1))) : List En)) (Enc.cellsL ((sub x1.l 0 (Int.tmod i ((List.length x1.l : Int) + 1))) : List En)) .none) rfl rfl rfl (q_sub_H (α := En) (l := x1.l) g9 rfl rfl rfl rfl rfl) (strip_sub _ _ _) (by dsimp only [aput, List.set]) ?_
 refine w_op (a := .agg (Enc.cells ((Ed.mk 4 0) : Ed))) rfl rfl rfl rfl (by dsimp only [aput, List.set]) ?_
 refine w_qs (.agg (Enc.cells ((Trc.mk (sub x1.l 0 (Int.tmod i ((List.length x1.l : Int) + 1))) (Ed.mk 4 0)) : Trc))) (a0 := (trcR (Trc.mk (sub x1.l 0 (Int.tmod i ((List.length x1.l : Int) + 1))) (Ed.mk 4 0)) .none)) rfl rfl rfl (by kernel_rfl) (strip_trcR _ _) (by dsimp only [aput, List.set]) ?_
 refine w_opm (a := .ptr 4 0) (σ'' := ⟨[(26, (Enc.cells (x1 : Trc))), (24, (Enc.cells ((Ed.mk 1 0) : Ed))), (26, (Enc.cells ((Trc.mk (sub x1.l 0 (Int.tmod i ((List.length x1.l : Int) + 1))) (Ed.mk 1 0)) : Trc))), (26, (Enc.cells ((Trc.mk (sub x1.l 0 (Int.tmod j ((List.length x1.l : Int) + 1))) (Ed.mk 1 0)) : Trc))), (26, [.list 0 [] .full, .raw (.int .u8 0), .raw (.int .i64 0)])], [], [], 0, false⟩) rfl rfl rfl rfl (by dsimp only [aput, List.set]) rfl ?_
 refine w_opm (σ'' := ⟨[(26, (Enc.cells (x1 : Trc))), (24, (Enc.cells ((Ed.mk 1 0) : Ed))), (26, (Enc.cells ((Trc.mk (sub x1.l 0 (Int.tmod i ((List.length x1.l : Int) + 1))) (Ed.mk 1 0)) : Trc))), (26, (Enc.cells ((Trc.mk (sub x1.l 0 (Int.tmod j ((List.length x1.l : Int) + 1))) (Ed.mk 1 0)) : Trc))), (26, (Enc.cells ((Trc.mk (sub x1.l 0 (Int.tmod i ((List.length x1.l : Int) + 1))) (Ed.mk 4 0)) : Trc)))], [], [], 0, false⟩) rfl rfl rfl (op_storeW (n := 3) rfl rfl rfl rfl rfl rfl rfl rfl (by decide)) (by dsimp only [aput, List.set]) rfl ?_
 refine w_seq ?_
 refine w_seq (w_region ?_)
 refine w_op (a := .agg (Enc.cells (x1 : Trc))) rfl rfl rfl rfl (by dsimp only [aput, List.set]) ?_
 refine w_op (a := .agg (Enc.cells (x1 : Trc))) rfl rfl rfl rfl (by dsimp only [aput, List.set]) ?_
 obtain ⟨x2, hx2, h⟩ := bindE_e h
 refine w_callc (args' := [.agg (Enc.cells (x1 : Trc)), .agg (Enc.cells (x1 : Trc))]) (r := .raw (.bool x2)) (goes_sh fuel x1 x1 x2 hx2) rfl rfl (stripL_cons (strip_c (clo_agg (Enc.clo _))) (stripL_cons (strip_c (clo_agg (Enc.clo _))) rfl)) (okTrimL_cons (okTrim_clo _ _ (clo_agg (Enc.clo _))) (okTrimL_cons (okTrim_clo _ _ (clo_agg (Enc.clo _))) rfl)) (by dsimp only [aput, List.set]) ?_
 refine w_op (a := .raw (.bool (!x2))) rfl rfl rfl rfl (by dsimp only [aput, List.set]) ?_
 refine bif_e h (fun hc1 h => ?_) (fun hc1 h => ?_)
 ·
  refine w_op (a := .raw (.bool true)) rfl rfl rfl (op_q (q_bool rfl hc1)) (by dsimp only [aput, List.set]) ?_
  refine w_pass rfl rfl (by decide) (by dsimp only [aput, List.set]) ?_
  refine w_pass rfl rfl (by decide) (by dsimp only [aput, List.set]) ?_
  refine w_pass rfl rfl (by decide) (by dsimp only [aput, List.set]) ?_
  refine w_pass rfl rfl (by decide) (by dsimp only [aput, List.set]) ?_
  refine w_op (a := .raw (.bool true)) rfl rfl rfl rfl (by dsimp only [aput, List.set]) ?_
  refine w_op (a := .raw (.bool true)) rfl rfl rfl rfl (by dsimp only [aput, List.set]) ?_
  refine w_pass rfl rfl (by decide) (by dsimp only [aput, List.set]) ?_
  refine w_pass rfl rfl (by decide) (by dsimp only [aput, List.set]) ?_
  refine w_pass rfl rfl (by decide) (by dsimp only [aput, List.set]) ?_
  refine w_pass rfl rfl (by decide) (by dsimp only [aput, List.set]) ?_
  refine w_op (a := .raw (.bool true)) rfl rfl rfl rfl (by dsimp only [aput, List.set]) ?_
  refine w_op (a := .raw (.bool true)) rfl rfl rfl rfl (by dsimp only [aput, List.set]) ?_
  refine w_pass rfl rfl (by decide) (by dsimp only [aput, List.set]) ?_
  refine w_pass rfl rfl (by decide) (by dsimp only [aput, List.set]) ?_
  refine w_pass rfl rfl (by decide) (by dsimp only [aput, List.set]) ?_
  refine w_pass rfl rfl (by decide) (by dsimp only [aput, List.set]) ?_
  refine w_pass rfl rfl (by decide) (by dsimp only [aput, List.set]) ?_
  refine w_pass rfl rfl (by decide) (by dsimp only [aput, List.set]) ?_
  refine w_pass rfl rfl (by decide) (by dsimp only [aput, List.set]) ?_
  refine w_op (a := .raw (.bool true)) rfl rfl rfl rfl (by dsimp only [aput, List.set]) ?_
  refine w_op (a := .raw (.bool true)) rfl rfl rfl rfl (by dsimp only [aput, List.set]) ?_
  refine w_pass rfl rfl (by decide) (by dsimp only [aput, List.set]) ?_
  refine w_pass rfl rfl (by decide) (by dsimp only [aput, List.set]) ?_
  refine w_pass rfl rfl (by decide) (by dsimp only [aput, List.set]) ?_
  refine w_pass rfl rfl (by decide) (by dsimp only [aput, List.set]) ?_
  refine w_op (a := .raw (.bool true)) rfl rfl rfl rfl (by dsimp only [aput, List.set]) ?_
  refine w_op (a := .raw (.bool true)) rfl rfl rfl rfl (by dsimp only [aput, List.set]) ?_
  refine w_pass rfl rfl (by decide) (by dsimp only [aput, List.set]) ?_
  refine w_pass rfl rfl (by decide) (by dsimp only [aput, List.set]) ?_
  refine w_pass rfl rfl (by decide) (by dsimp only [aput, List.set]) ?_
  refine w_op (a := .raw (.bool true)) rfl rfl rfl rfl (by dsimp only [aput, List.set]) ?_
  refine w_true rfl ?_
  refine w_seq (w_region ?_)
  refine w_op (a := .raw (.bool false)) rfl rfl rfl rfl (by dsimp only [aput, List.set]) ?_
  exact end_pureF (fun (r : Bool) => (.raw (.bool r) : AV)) h (a := .raw (.bool false)) rfl rfl rfl
 ·
  refine w_op (a := .raw (.bool false)) rfl rfl rfl (op_q (q_bool rfl hc1)) (by dsimp only [aput, List.set]) ?_
  refine w_met rfl rfl ?_
  refine w_op (a := .agg (Enc.cells ((Trc.mk (sub x1.l 0 (Int.tmod i ((List.length x1.l : Int) + 1))) (Ed.mk 1 0)) : Trc))) rfl rfl rfl rfl (by dsimp only [aput, List.set]) ?_
  refine w_met rfl rfl ?_
  refine w_op (a := .agg (Enc.cells (x1 : Trc))) rfl rfl rfl rfl (by dsimp only [aput, List.set]) ?_
  refine w_met rfl rfl ?_
  obtain ⟨x3, hx3, h⟩ := bindE_e h
  refine w_callc (args' := [.agg (Enc.cells ((Trc.mk (sub x1.l 0 (Int.tmod i ((List.length x1.l : Int) + 1))) (Ed.mk 1 0)) : Trc)), .agg (Enc.cells (x1 : Trc))]) (r := .raw (.bool x3)) (goes_sh fuel (Trc.mk (sub x1.l 0 (Int.tmod i ((List.length x1.l : Int) + 1))) (Ed.mk 1 0)) x1 x3 hx3) rfl rfl (stripL_cons (strip_c (clo_agg (Enc.clo _))) (stripL_cons (strip_c (clo_agg (Enc.clo _))) rfl)) (okTrimL_cons (okTrim_clo _ _ (clo_agg (Enc.clo _))) (okTrimL_cons (okTrim_clo _ _ (clo_agg (Enc.clo _))) rfl)) (by dsimp only [aput, List.set]) ?_
  refine w_met rfl rfl ?_
  refine w_op (a := .raw (.bool (!x3))) rfl rfl rfl rfl (by dsimp only [aput, List.set]) ?_
  refine w_op (a := .raw (.bool (!x3))) rfl rfl rfl rfl (by dsimp only [aput, List.set]) ?_
  refine bif_e h (fun hc2 h => ?_) (fun hc2 h => ?_)
  ·
   refine w_op (a := .raw (.bool true)) rfl rfl rfl (op_q (q_bool rfl hc2)) (by dsimp only [aput, List.set]) ?_
   refine w_pass rfl rfl (by decide) (by dsimp only [aput, List.set]) ?_
   refine w_pass rfl rfl (by decide) (by dsimp only [aput, List.set]) ?_
   refine w_pass rfl rfl (by decide) (by dsimp only [aput, List.set]) ?_
   refine w_pass rfl rfl (by decide) (by dsimp only [aput, List.set]) ?_
   refine w_op (a := .raw (.bool true)) rfl rfl rfl rfl (by dsimp only [aput, List.set]) ?_
   refine w_op (a := .raw (.bool true)) rfl rfl rfl rfl (by dsimp only [aput, List.set]) ?_
   refine w_pass rfl rfl (by decide) (by dsimp only [aput, List.set]) ?_
   refine w_pass rfl rfl (by decide) (by dsimp only [aput, List.set]) ?_
   refine w_pass rfl rfl (by decide) (by dsimp only [aput, List.set]) ?_
   refine w_pass rfl rfl (by decide) (by dsimp only [aput, List.set]) ?_
   refine w_pass rfl rfl (by decide) (by dsimp only [aput, List.set]) ?_
   refine w_pass rfl rfl (by decide) (by dsimp only [aput, List.set]) ?_
   refine w_pass rfl rfl (by decide) (by dsimp only [aput, List.set]) ?_
   refine w_op (a := .raw (.bool true)) rfl rfl rfl rfl (by dsimp only [aput, List.set]) ?_
   refine w_op (a := .raw (.bool true)) rfl rfl rfl rfl (by dsimp only [aput, List.set]) ?_
   refine w_pass rfl rfl (by decide) (by dsimp only [aput, List.set]) ?_
   refine w_pass rfl rfl (by decide) (by dsimp only [aput, List.set]) ?_
   refine w_pass rfl rfl (by decide) (by dsimp only [aput, List.set]) ?_
   refine w_pass rfl rfl (by decide) (by dsimp only [aput, List.set]) ?_
   refine w_op (a := .raw (.bool true)) rfl rfl rfl rfl (by dsimp only [aput, List.set]) ?_
   refine w_op (a := .raw (.bool true)) rfl rfl rfl rfl (by dsimp only [aput, List.set]) ?_
   refine w_pass rfl rfl (by decide) (by dsimp only [aput, List.set]) ?_
   refine w_pass rfl rfl (by decide) (by dsimp only [aput, List.set]) ?_
   refine w_pass rfl rfl (by decide) (by dsimp only [aput, List.set]) ?_
   refine w_op (a := .raw (.bool true)) rfl rfl rfl rfl (by dsimp only [aput, List.set]) ?_
   refine w_true rfl ?_
   refine w_seq (w_region ?_)
   refine w_op (a := .raw (.bool false)) rfl rfl rfl rfl (by dsimp only [aput, List.set]) ?_
   exact end_pureF (fun (r : Bool) => (.raw (.bool r) : AV)) h (a := .raw (.bool false)) rfl rfl rfl
  ·
   refine w_op (a := .raw (.bool false)) rfl rfl rfl (op_q (q_bool rfl hc2)) (by dsimp only [aput, List.set]) ?_
   refine w_met rfl rfl ?_
   refine w_op (a := .agg (Enc.cells ((Trc.mk (sub x1.l 0 (Int.tmod j ((List.length x1.l : Int) + 1))) (Ed.mk 1 0)) : Trc))) rfl rfl rfl rfl (by dsimp only [aput, List.set]) ?_
   refine w_met rfl rfl ?_
   refine w_op (a := .agg (Enc.cells (x1 : Trc))) rfl rfl rfl rfl (by dsimp only [aput, List.set]) ?_
   refine w_met rfl rfl ?_
   obtain ⟨x4, hx4, h⟩ := bindE_e h
   refine w_callc (args' := [.agg (Enc.cells ((Trc.mk (sub x1.l 0 (Int.tmod j ((List.length x1.l : Int) + 1))) (Ed.mk 1 0)) : Trc)), .agg (Enc.cells (x1 : Trc))]) (r := .raw (.bool x4)) (goes_sh fuel (Trc.mk (sub x1.l 0 (Int.tmod j ((List.length x1.l : Int) + 1))) (Ed.mk 1 0)) x1 x4 hx4) rfl rfl (stripL_cons (strip_c (clo_agg (Enc.clo _))) (stripL_cons (strip_c (clo_agg (Enc.clo _))) rfl)) (okTrimL_cons (okTrim_clo _ _ (clo_agg (Enc.clo _))) (okTrimL_cons (okTrim_clo _ _ (clo_agg (Enc.clo _))) rfl)) (by dsimp only [aput, List.set]) ?_
   refine w_met rfl rfl ?_
   refine w_op (a := .raw (.bool (!x4))) rfl rfl rfl rfl (by dsimp only [aput, List.set]) ?_
   refine w_op (a := .raw (.bool (!x4))) rfl rfl rfl rfl (by dsimp only [aput, List.set]) ?_
   refine bif_e h (fun hc3 h => ?_) (fun hc3 h => ?_)
   ·
    refine w_op (a := .raw (.bool true)) rfl rfl rfl (op_q (q_bool rfl hc3)) (by dsimp only [aput, List.set]) ?_
    refine w_pass rfl rfl (by decide) (by dsimp only [aput, List.set]) ?_
    refine w_pass rfl rfl (by decide) (by dsimp only [aput, List.set]) ?_
    refine w_pass rfl rfl (by decide) (by dsimp only [aput, List.set]) ?_
    refine w_pass rfl rfl (by decide) (by dsimp only [aput, List.set]) ?_
    refine w_pass rfl rfl (by decide) (by dsimp only [aput, List.set]) ?_
    refine w_pass rfl rfl (by decide) (by dsimp only [aput, List.set]) ?_
    refine w_pass rfl rfl (by decide) (by dsimp only [aput, List.set]) ?_
    refine w_op (a := .raw (.bool true)) rfl rfl rfl rfl (by dsimp only [aput, List.set]) ?_
    refine w_op (a := .raw (.bool true)) rfl rfl rfl rfl (by dsimp only [aput, List.set]) ?_
    refine w_pass rfl rfl (by decide) (by dsimp only [aput, List.set]) ?_
    refine w_pass rfl rfl (by decide) (by dsimp only [aput, List.set]) ?_
    refine w_pass rfl rfl (by decide) (by dsimp only [aput, List.set]) ?_
    refine w_pass rfl rfl (by decide) (by dsimp only [aput, List.set]) ?_
    refine w_op (a := .raw (.bool true)) rfl rfl rfl rfl (by dsimp only [aput, List.set]) ?_
    refine w_op (a := .raw (.bool true)) rfl rfl rfl rfl (by dsimp only [aput, List.set]) ?_
    refine w_pass rfl rfl (by decide) (by dsimp only [aput, List.set]) ?_
    refine w_pass rfl rfl (by decide) (by dsimp only [aput, List.set]) ?_
    refine w_pass rfl rfl (by decide) (by dsimp only [aput, List.set]) ?_
    refine w_op (a := .raw (.bool true)) rfl rfl rfl rfl (by dsimp only [aput, List.set]) ?_
    refine w_true rfl ?_
    refine w_seq (w_region ?_)
    refine w_op (a := .raw (.bool false)) rfl rfl rfl rfl (by dsimp only [aput, List.set]) ?_
    exact end_pureF (fun (r : Bool) => (.raw (.bool r) : AV)) h (a := .raw (.bool false)) rfl rfl rfl
   ·
    refine w_op (a := .raw (.bool false)) rfl rfl rfl (op_q (q_bool rfl hc3)) (by dsimp only [aput, List.set]) ?_
    refine w_met rfl rfl ?_
    refine w_op (a := .agg (Enc.cells ((Trc.mk (sub x1.l 0 (Int.tmod i ((List.length x1.l : Int) + 1))) (Ed.mk 1 0)) : Trc))) rfl rfl rfl rfl (by dsimp only [aput, List.set]) ?_
    refine w_met rfl rfl ?_
    refine w_op (a := .agg (Enc.cells ((Trc.mk (sub x1.l 0 (Int.tmod j ((List.length x1.l : Int) + 1))) (Ed.mk 1 0)) : Trc))) rfl rfl rfl rfl (by dsimp only [aput, List.set]) ?_
    refine w_met rfl rfl ?_
    obtain ⟨x5, hx5, h⟩ := bindE_e h
    refine w_callc (args' := [.agg (Enc.cells ((Trc.mk (sub x1.l 0 (Int.tmod i ((List.length x1.l : Int) + 1))) (Ed.mk 1 0)) : Trc)), .agg (Enc.cells ((Trc.mk (sub x1.l 0 (Int.tmod j ((List.length x1.l : Int) + 1))) (Ed.mk 1 0)) : Trc))]) (r := .raw (.bool x5)) (goes_sh fuel (Trc.mk (sub x1.l 0 (Int.tmod i ((List.length x1.l : Int) + 1))) (Ed.mk 1 0)) (Trc.mk (sub x1.l 0 (Int.tmod j ((List.length x1.l : Int) + 1))) (Ed.mk 1 0)) x5 hx5) rfl rfl (stripL_cons (strip_c (clo_agg (Enc.clo _))) (stripL_cons (strip_c (clo_agg (Enc.clo _))) rfl)) (okTrimL_cons (okTrim_clo _ _ (clo_agg (Enc.clo _))) (okTrimL_cons (okTrim_clo _ _ (clo_agg (Enc.clo _))) rfl)) (by dsimp only [aput, List.set]) ?_
    refine w_met rfl rfl ?_
    refine w_op (a := .raw (.int .i64 (Int.tmod i ((List.length x1.l : Int) + 1)))) rfl rfl rfl rfl (by dsimp only [aput, List.set]) ?_
    refine w_met rfl rfl ?_
    refine w_op (a := .raw (.int .i64 (Int.tmod j ((List.length x1.l : Int) + 1)))) rfl rfl rfl rfl (by dsimp only [aput, List.set]) ?_
    refine w_met rfl rfl ?_
    refine w_op (a := .raw (.bool (decide ((Int.tmod i ((List.length x1.l : Int) + 1)) ≤ (Int.tmod j ((List.length x1.l : Int) + 1)))))) rfl rfl rfl rfl (by dsimp only [aput, List.set]) ?_
    refine w_met rfl rfl ?_
    refine w_op (a := .raw (.bool (!(x5 == (decide ((Int.tmod i ((List.length x1.l : Int) + 1)) ≤ (Int.tmod j ((List.length x1.l : Int) + 1)))))))) rfl rfl rfl (op_q (by kernel_rfl)) (by dsimp only [aput, List.set]) ?_
    refine w_op (a := .raw (.bool (!(x5 == (decide ((Int.tmod i ((List.length x1.l : Int) + 1)) ≤ (Int.tmod j ((List.length x1.l : Int) + 1)))))))) rfl rfl rfl rfl (by dsimp only [aput, List.set]) ?_
    refine bif_e h (fun hc4 h => ?_) (fun hc4 h => ?_)
    ·
     refine w_op (a := .raw (.bool true)) rfl rfl rfl (op_q (q_bool rfl hc4)) (by dsimp only [aput, List.set]) ?_
     refine w_pass rfl rfl (by decide) (by dsimp only [aput, List.set]) ?_
     refine w_pass rfl rfl (by decide) (by dsimp only [aput, List.set]) ?_
     refine w_pass rfl rfl (by decide) (by dsimp only [aput, List.set]) ?_
     refine w_pass rfl rfl (by decide) (by dsimp only [aput, List.set]) ?_
     refine w_op (a := .raw (.bool true)) rfl rfl rfl rfl (by dsimp only [aput, List.set]) ?_
     refine w_op (a := .raw (.bool true)) rfl rfl rfl rfl (by dsimp only [aput, List.set]) ?_
     refine w_pass rfl rfl (by decide) (by dsimp only [aput, List.set]) ?_
     refine w_pass rfl rfl (by decide) (by dsimp only [aput, List.set]) ?_
     refine w_pass rfl rfl (by decide) (by dsimp only [aput, List.set]) ?_
     refine w_op (a := .raw (.bool true)) rfl rfl rfl rfl (by dsimp only [aput, List.set]) ?_
     refine w_true rfl ?_
     refine w_seq (w_region ?_)
     refine w_op (a := .raw (.bool false)) rfl rfl rfl rfl (by dsimp only [aput, List.set]) ?_
     exact end_pureF (fun (r : Bool) => (.raw (.bool r) : AV)) h (a := .raw (.bool false)) rfl rfl rfl
    ·
     refine w_op (a := .raw (.bool false)) rfl rfl rfl (op_q (q_bool rfl hc4)) (by dsimp only [aput, List.set]) ?_
     refine w_met rfl rfl ?_
     refine w_op (a := .agg (Enc.cells ((Trc.mk (sub x1.l 0 (Int.tmod i ((List.length x1.l : Int) + 1))) (Ed.mk 1 0)) : Trc))) rfl rfl rfl rfl (by dsimp only [aput, List.set]) ?_
     refine w_met rfl rfl ?_
     refine w_op (a := .agg (Enc.cells ((Trc.mk (sub x1.l 0 (Int.tmod i ((List.length x1.l : Int) + 1))) (Ed.mk 4 0)) : Trc))) rfl rfl rfl rfl (by dsimp only [aput, List.set]) ?_
     refine w_met rfl rfl ?_
     obtain ⟨x6, hx6, h⟩ := bindE_e h
     refine w_callc (args' := [.agg (Enc.cells ((Trc.mk (sub x1.l 0 (Int.tmod i ((List.length x1.l : Int) + 1))) (Ed.mk 1 0)) : Trc)), .agg (Enc.cells ((Trc.mk (sub x1.l 0 (Int.tmod i ((List.length x1.l : Int) + 1))) (Ed.mk 4 0)) : Trc))]) (r := .raw (.bool x6)) (goes_sh fuel (Trc.mk (sub x1.l 0 (Int.tmod i ((List.length x1.l : Int) + 1))) (Ed.mk 1 0)) (Trc.mk (sub x1.l 0 (Int.tmod i ((List.length x1.l : Int) + 1))) (Ed.mk 4 0)) x6 hx6) rfl rfl (stripL_cons (strip_c (clo_agg (Enc.clo _))) (stripL_cons (strip_c (clo_agg (Enc.clo _))) rfl)) (okTrimL_cons (okTrim_clo _ _ (clo_agg (Enc.clo _))) (okTrimL_cons (okTrim_clo _ _ (clo_agg (Enc.clo _))) rfl)) (by dsimp only [aput, List.set]) ?_
     refine w_met rfl rfl ?_
     refine w_op (a := .raw (.bool (!x6))) rfl rfl rfl rfl (by dsimp only [aput, List.set]) ?_
     refine w_op (a := .raw (.bool (!x6))) rfl rfl rfl rfl (by dsimp only [aput, List.set]) ?_
     refine bif_e h (fun hc5 h => ?_) (fun hc5 h => ?_)
     ·
      refine w_op (a := .raw (.bool true)) rfl rfl rfl (op_q (q_bool rfl hc5)) (by dsimp only [aput, List.set]) ?_
      refine w_pass rfl rfl (by decide) (by dsimp only [aput, List.set]) ?_
      refine w_pass rfl rfl (by decide) (by dsimp only [aput, List.set]) ?_
      refine w_pass rfl rfl (by decide) (by dsimp only [aput, List.set]) ?_
      refine w_op (a := .raw (.bool true)) rfl rfl rfl rfl (by dsimp only [aput, List.set]) ?_
      refine w_true rfl ?_
      refine w_seq (w_region ?_)
      refine w_op (a := .raw (.bool false)) rfl rfl rfl rfl (by dsimp only [aput, List.set]) ?_
      exact end_pureF (fun (r : Bool) => (.raw (.bool r) : AV)) h (a := .raw (.bool false)) rfl rfl rfl
     ·
      refine w_op (a := .raw (.bool false)) rfl rfl rfl (op_q (q_bool rfl hc5)) (by dsimp only [aput, List.set]) ?_
      refine w_met rfl rfl ?_
      refine w_op (a := .agg (Enc.cells ((Trc.mk (sub x1.l 0 (Int.tmod i ((List.length x1.l : Int) + 1))) (Ed.mk 4 0)) : Trc))) rfl rfl rfl rfl (by dsimp only [aput, List.set]) ?_
      refine w_met rfl rfl ?_
      refine w_op (a := .agg (Enc.cells ((Trc.mk (sub x1.l 0 (Int.tmod i ((List.length x1.l : Int) + 1))) (Ed.mk 1 0)) : Trc))) rfl rfl rfl rfl (by dsimp only [aput, List.set]) ?_
      refine w_met rfl rfl ?_
      obtain ⟨x7, hx7, h⟩ := bindE_e h
      refine w_callc (args' := [.agg (Enc.cells ((Trc.mk (sub x1.l 0 (Int.tmod i ((List.length x1.l : Int) + 1))) (Ed.mk 4 0)) : Trc)), .agg (Enc.cells ((Trc.mk (sub x1.l 0 (Int.tmod i ((List.length x1.l : Int) + 1))) (Ed.mk 1 0)) : Trc))]) (r := .raw (.bool x7)) (goes_sh fuel (Trc.mk (sub x1.l 0 (Int.tmod i ((List.length x1.l : Int) + 1))) (Ed.mk 4 0)) (Trc.mk (sub x1.l 0 (Int.tmod i ((List.length x1.l : Int) + 1))) (Ed.mk 1 0)) x7 hx7) rfl rfl (stripL_cons (strip_c (clo_agg (Enc.clo _))) (stripL_cons (strip_c (clo_agg (Enc.clo _))) rfl)) (okTrimL_cons (okTrim_clo _ _ (clo_agg (Enc.clo _))) (okTrimL_cons (okTrim_clo _ _ (clo_agg (Enc.clo _))) rfl)) (by dsimp only [aput, List.set]) ?_
      refine w_op (a := .raw (.bool x7)) rfl rfl rfl rfl (by dsimp only [aput, List.set]) ?_
      refine bif_e h (fun hc6 h => ?_) (fun hc6 h => ?_)
      ·
       refine w_condT hc6 rfl ?_
       refine w_seq (w_region ?_)
       refine w_op (a := .raw (.bool false)) rfl rfl rfl rfl (by dsimp only [aput, List.set]) ?_
       exact end_pureF (fun (r : Bool) => (.raw (.bool r) : AV)) h (a := .raw (.bool false)) rfl rfl rfl
      ·
       refine w_condF hc6 rfl ?_
       refine w_cutF h [0, 1, 2, 3, 4, 5, 6, 7, 8, 9, 10, 11, 14, 17, 18, 19, 20, 21, 22, 23, 24, 25, 26, 27, 28, 29, 30, 31, 32, 33, 34, 35, 36, 37, 38, 39, 40, 41, 42, 43, 44, 45, 46, 47, 48, 49, 50, 51, 52, 53, 54, 55, 56, 57, 58, 59, 60, 61, 62, 63, 64, 65, 66, 67, 68, 69, 70, 71, 72, 73, 74, 75, 76, 77, 78, 79, 80, 81, 82, 83, 84, 85, 86, 87, 88, 89, 90, 91, 92, 93, 94, 95, 96, 97, 98, 99, 100, 101, 102, 103, 104, 105, 106, 107, 108, 109, 110, 111, 112, 113, 114, 115, 116, 117, 118, 119, 120, 121, 122, 123, 124, 125, 126, 127, 128, 129, 130, 131, 132, 133, 134, 135, 136, 137, 138, 139, 140, 141, 142] (fun j1 => []) (fun j1 => ⟨[(26, (Enc.cells (x1 : Trc))), (24, (Enc.cells ((Ed.mk 1 0) : Ed))), (26, (Enc.cells ((Trc.mk (sub x1.l 0 (Int.tmod i ((List.length x1.l : Int) + 1))) (Ed.mk 1 0)) : Trc))), (26, (Enc.cells ((Trc.mk (sub x1.l 0 (Int.tmod j ((List.length x1.l : Int) + 1))) (Ed.mk 1 0)) : Trc))), (26, (Enc.cells ((Trc.mk (sub x1.l 0 (Int.tmod i ((List.length x1.l : Int) + 1))) (Ed.mk 4 0)) : Trc)))], [], [], 0, false⟩) ?_ ?_
       ·
        intro or1 h hr1
        refine w_seq ?_
        refine w_draw (id := 8) 29 (by kernel_rfl) (by kernel_rfl) ?_
        refine h_op (a := .agg (Enc.cells ((Trc.mk (sub x1.l 0 (Int.tmod i ((List.length x1.l : Int) + 1))) (Ed.mk 4 0)) : Trc))) rfl rfl rfl rfl (by dsimp only [aput, List.set]) ?_
        refine h_op (a := .agg (Enc.cells (x1 : Trc))) rfl rfl rfl rfl (by dsimp only [aput, List.set]) ?_
        obtain ⟨x8, hx8, h⟩ := bindE_e h
        refine h_call (args' := [.agg (Enc.cells ((Trc.mk (sub x1.l 0 (Int.tmod i ((List.length x1.l : Int) + 1))) (Ed.mk 4 0)) : Trc)), .agg (Enc.cells (x1 : Trc))]) (r := .raw (.bool x8)) (goes_sh fuel (Trc.mk (sub x1.l 0 (Int.tmod i ((List.length x1.l : Int) + 1))) (Ed.mk 4 0)) x1 x8 hx8) rfl rfl rfl (stripL_cons (strip_c (clo_agg (Enc.clo _))) (stripL_cons (strip_c (clo_agg (Enc.clo _))) rfl)) (okTrimL_cons (okTrim_clo _ _ (clo_agg (Enc.clo _))) (okTrimL_cons (okTrim_clo _ _ (clo_agg (Enc.clo _))) rfl)) (by dsimp only [aput, List.set]) ?_
        refine h_op (a := .ptr 0 1) rfl rfl rfl rfl (by dsimp only [aput, List.set]) ?_
        refine h_op (a := .agg (Enc.cells (x1.e : Ed))) rfl rfl rfl rfl (by dsimp only [aput, List.set]) ?_
        refine h_op (a := .ptr 4 1) rfl rfl rfl rfl (by dsimp only [aput, List.set]) ?_
        refine h_op (a := .agg (Enc.cells ((Trc.mk (sub x1.l 0 (Int.tmod i ((List.length x1.l : Int) + 1))) (Ed.mk 4 0)).e : Ed))) rfl rfl rfl rfl (by dsimp only [aput, List.set]) ?_
        refine h_runR (.raw (.bool (decide (x1.e = ((Trc.mk (sub x1.l 0 (Int.tmod i ((List.length x1.l : Int) + 1))) (Ed.mk 4 0)).e))))) rfl rfl rfl (rs_eqEd x1.e ((Trc.mk (sub x1.l 0 (Int.tmod i ((List.length x1.l : Int) + 1))) (Ed.mk 4 0)).e) rfl rfl rfl) (by dsimp only [aput, List.set]) ?_
        refine bif_e h (fun hc7 h => ?_) (fun hc7 h => ?_)
        ·
         refine h_op (a := .raw (.bool true)) rfl rfl rfl (q_bool rfl hc7) (by dsimp only [aput, List.set]) ?_
         refine h_met rfl rfl ?_
         refine h_op (a := .raw (.int .i64 (Int.tmod i ((List.length x1.l : Int) + 1)))) rfl rfl rfl rfl (by dsimp only [aput, List.set]) ?_
         refine h_met rfl rfl ?_
         refine h_op (a := .ptr 0 0) rfl rfl rfl rfl (by dsimp only [aput, List.set]) ?_
         refine h_met rfl rfl ?_
         refine h_op (a := .list (List.length (x1.l : List En)) (Enc.cellsL (x1.l : List En)) .none) rfl rfl rfl rfl (by dsimp only [aput, List.set]) ?_
         refine h_met rfl rfl ?_
         refine h_op (a := .raw (.int .i64 (List.length x1.l : Int))) rfl rfl rfl rfl (by dsimp only [aput, List.set]) ?_
         refine h_met rfl rfl ?_
         refine h_op (a := .raw (.bool ((Int.tmod i ((List.length x1.l : Int) + 1)) == (List.length x1.l : Int)))) rfl rfl rfl rfl (by dsimp only [aput, List.set]) ?_
         refine h_op (a := .raw (.bool ((Int.tmod i ((List.length x1.l : Int) + 1)) == (List.length x1.l : Int)))) rfl rfl rfl rfl (by dsimp only [aput, List.set]) ?_
         refine h_op (a := .raw (.bool (!(x8 == ((Int.tmod i ((List.length x1.l : Int) + 1)) == (List.length x1.l : Int)))))) rfl rfl rfl (by kernel_rfl) (by dsimp only [aput, List.set]) ?_
         refine bif_e h (fun hc8 h => ?_) (fun hc8 h => ?_)
         ·
          refine h_op (a := .raw (.bool true)) rfl rfl rfl (q_bool rfl hc8) (by dsimp only [aput, List.set]) ?_
          refine h_pass rfl rfl rfl (by decide) (by dsimp only [aput, List.set]) ?_
          refine h_pass rfl rfl rfl (by decide) (by dsimp only [aput, List.set]) ?_
          refine h_pass rfl rfl rfl (by decide) (by dsimp only [aput, List.set]) ?_
          refine h_pass rfl rfl rfl (by decide) (by dsimp only [aput, List.set]) ?_
          refine h_pass rfl rfl rfl (by decide) (by dsimp only [aput, List.set]) ?_
          refine h_pass rfl rfl rfl (by decide) (by dsimp only [aput, List.set]) ?_
          refine h_pass rfl rfl rfl (by decide) (by dsimp only [aput, List.set]) ?_
          refine h_pass rfl rfl rfl (by decide) (by dsimp only [aput, List.set]) ?_
          refine h_pass rfl rfl rfl (by decide) (by dsimp only [aput, List.set]) ?_
          refine h_pass rfl rfl rfl (by decide) (by dsimp only [aput, List.set]) ?_
          refine h_pass rfl rfl rfl (by decide) (by dsimp only [aput, List.set]) ?_
          refine h_pass rfl rfl rfl (by decide) (by dsimp only [aput, List.set]) ?_
          refine h_end ?_
          refine w_pass rfl rfl (by decide) (by dsimp only [aput, List.set]) ?_
          refine w_pass rfl rfl (by decide) (by dsimp only [aput, List.set]) ?_
          refine w_pass rfl rfl (by decide) (by dsimp only [aput, List.set]) ?_
          refine w_op (a := .raw (.bool true)) rfl rfl rfl rfl (by dsimp only [aput, List.set]) ?_
          refine w_true rfl ?_
          refine w_seq (w_region ?_)
          refine w_op (a := .raw (.bool false)) rfl rfl rfl rfl (by dsimp only [aput, List.set]) ?_
          replace h := cut_inr h hr1
          exact end_pureF (fun (r : Bool) => (.raw (.bool r) : AV)) h (a := .raw (.bool false)) rfl rfl rfl
         ·
          refine h_op (a := .raw (.bool false)) rfl rfl rfl (q_bool rfl hc8) (by dsimp only [aput, List.set]) ?_
          refine h_met rfl rfl ?_
          refine h_op (a := .agg (Enc.cells (x1 : Trc))) rfl rfl rfl rfl (by dsimp only [aput, List.set]) ?_
          refine h_met rfl rfl ?_
          refine h_op (a := .agg (Enc.cells ((Trc.mk (sub x1.l 0 (Int.tmod i ((List.length x1.l : Int) + 1))) (Ed.mk 1 0)) : Trc))) rfl rfl rfl rfl (by dsimp only [aput, List.set]) ?_
          refine h_met rfl rfl ?_
          obtain ⟨x9, hx9, h⟩ := bindE_e h
          refine h_call (args' := [.agg (Enc.cells (x1 : Trc)), .agg (Enc.cells ((Trc.mk (sub x1.l 0 (Int.tmod i ((List.length x1.l : Int) + 1))) (Ed.mk 1 0)) : Trc))]) (r := .raw (.bool x9)) (goes_sh fuel x1 (Trc.mk (sub x1.l 0 (Int.tmod i ((List.length x1.l : Int) + 1))) (Ed.mk 1 0)) x9 hx9) rfl rfl rfl (stripL_cons (strip_c (clo_agg (Enc.clo _))) (stripL_cons (strip_c (clo_agg (Enc.clo _))) rfl)) (okTrimL_cons (okTrim_clo _ _ (clo_agg (Enc.clo _))) (okTrimL_cons (okTrim_clo _ _ (clo_agg (Enc.clo _))) rfl)) (by dsimp only [aput, List.set]) ?_
          refine h_met rfl rfl ?_
          refine h_op (a := .ptr 0 1) rfl rfl rfl rfl (by dsimp only [aput, List.set]) ?_
          refine h_met rfl rfl ?_
          refine h_op (a := .agg (Enc.cells (x1.e : Ed))) rfl rfl rfl rfl (by dsimp only [aput, List.set]) ?_
          refine h_met rfl rfl ?_
          refine h_op (a := .agg (Enc.cells ((Ed.mk 1 0) : Ed))) rfl rfl rfl rfl (by dsimp only [aput, List.set]) ?_
          refine h_met rfl rfl ?_
          refine h_runR (.raw (.bool (decide (x1.e = (Ed.mk 1 0))))) rfl rfl rfl (rs_eqEd x1.e (Ed.mk 1 0) rfl rfl rfl) (by dsimp only [aput, List.set]) ?_
          refine h_met rfl rfl ?_
          refine bif_e h (fun hc9 h => ?_) (fun hc9 h => ?_)
          ·
           refine h_op (a := .raw (.bool true)) rfl rfl rfl (q_bool rfl hc9) (by dsimp only [aput, List.set]) ?_
           refine h_met rfl rfl ?_
           refine h_op (a := .raw (.int .i64 (Int.tmod i ((List.length x1.l : Int) + 1)))) rfl rfl rfl rfl (by dsimp only [aput, List.set]) ?_
           refine h_met rfl rfl ?_
           refine h_op (a := .ptr 0 0) rfl rfl rfl rfl (by dsimp only [aput, List.set]) ?_
           refine h_met rfl rfl ?_
           refine h_op (a := .list (List.length (x1.l : List En)) (Enc.cellsL (x1.l : List En)) .none) rfl rfl rfl rfl (by dsimp only [aput, List.set]) ?_
           refine h_met rfl rfl ?_
           refine h_op (a := .raw (.int .i64 (List.length x1.l : Int))) rfl rfl rfl rfl (by dsimp only [aput, List.set]) ?_
           refine h_end ?_
           refine w_met rfl rfl ?_
           refine w_op (a := .raw (.bool ((Int.tmod i ((List.length x1.l : Int) + 1)) == (List.length x1.l : Int)))) rfl rfl rfl rfl (by dsimp only [aput, List.set]) ?_
           refine w_met rfl rfl ?_
           refine w_op (a := .raw (.bool ((Int.tmod i ((List.length x1.l : Int) + 1)) == (List.length x1.l : Int)))) rfl rfl rfl rfl (by dsimp only [aput, List.set]) ?_
           refine w_met rfl rfl ?_
           refine w_op (a := .raw (.bool (!(x9 == ((Int.tmod i ((List.length x1.l : Int) + 1)) == (List.length x1.l : Int)))))) rfl rfl rfl (op_q (by kernel_rfl)) (by dsimp only [aput, List.set]) ?_
           refine w_op (a := .raw (.bool (!(x9 == ((Int.tmod i ((List.length x1.l : Int) + 1)) == (List.length x1.l : Int)))))) rfl rfl rfl rfl (by dsimp only [aput, List.set]) ?_
           refine bif_e h (fun hc10 h => ?_) (fun hc10 h => ?_)
           ·
            refine w_condT hc10 rfl ?_
            refine w_seq (w_region ?_)
            refine w_op (a := .raw (.bool false)) rfl rfl rfl rfl (by dsimp only [aput, List.set]) ?_
            replace h := cut_inr h hr1
            exact end_pureF (fun (r : Bool) => (.raw (.bool r) : AV)) h (a := .raw (.bool false)) rfl rfl rfl
           ·
            refine w_condF hc10 rfl ?_
            refine cut_done (o := or1) () h ?_
            exact wm_of [false, false, false, false, false, false, false, false, false, false, false, false, true, true, false, true, true, false, false, false, false, false, false, false, false, false, false, false, false, false, false, false, false, false, false, false, false, false, false, false, false, false, false, false, false, false, false, false, false, false, false, false, false, false, false, false, false, false, false, false, false, false, false, false, false, false, false, false, false, false, false, false, false, false, false, false, false, false, false, false, false, false, false, false, false, false, false, false, false, false, false, false, false, false, false, false, false, false, false, false, false, false, false, false, false, false, false, false, false, false, false, false, false, false, false, false, false, false, false, false, false, false, false, false, false, false, false, false, false, false, false, false, false, false, false, false, false, false, false, false, false, false, false] (by kernel_rfl) (by kernel_rfl)
          ·
           refine h_op (a := .raw (.bool false)) rfl rfl rfl (q_bool rfl hc9) (by dsimp only [aput, List.set]) ?_
           refine h_pass rfl rfl rfl (by decide) (by dsimp only [aput, List.set]) ?_
           refine h_pass rfl rfl rfl (by decide) (by dsimp only [aput, List.set]) ?_
           refine h_pass rfl rfl rfl (by decide) (by dsimp only [aput, List.set]) ?_
           refine h_pass rfl rfl rfl (by decide) (by dsimp only [aput, List.set]) ?_
           refine h_end ?_
           refine w_pass rfl rfl (by decide) (by dsimp only [aput, List.set]) ?_
           refine w_met rfl rfl ?_
           refine w_op (a := .raw (.bool false)) rfl rfl rfl rfl (by dsimp only [aput, List.set]) ?_
           refine w_met rfl rfl ?_
           refine w_op (a := .raw (.bool (!(x9 == false)))) rfl rfl rfl (op_q (by kernel_rfl)) (by dsimp only [aput, List.set]) ?_
           refine w_op (a := .raw (.bool (!(x9 == false)))) rfl rfl rfl rfl (by dsimp only [aput, List.set]) ?_
           refine bif_e h (fun hc11 h => ?_) (fun hc11 h => ?_)
           ·
            refine w_condT hc11 rfl ?_
            refine w_seq (w_region ?_)
            refine w_op (a := .raw (.bool false)) rfl rfl rfl rfl (by dsimp only [aput, List.set]) ?_
            replace h := cut_inr h hr1
            exact end_pureF (fun (r : Bool) => (.raw (.bool r) : AV)) h (a := .raw (.bool false)) rfl rfl rfl
           ·
            refine w_condF hc11 rfl ?_
            refine cut_done (o := or1) () h ?_
            exact wm_of [false, false, false, false, false, false, false, false, false, false, false, false, true, true, false, true, true, false, false, false, false, false, false, false, false, false, false, false, false, false, false, false, false, false, false, false, false, false, false, false, false, false, false, false, false, false, false, false, false, false, false, false, false, false, false, false, false, false, false, false, false, false, false, false, false, false, false, false, false, false, false, false, false, false, false, false, false, false, false, false, false, false, false, false, false, false, false, false, false, false, false, false, false, false, false, false, false, false, false, false, false, false, false, false, false, false, false, false, false, false, false, false, false, false, false, false, false, false, false, false, false, false, false, false, false, false, false, false, false, false, false, false, false, false, false, false, false, false, false, false, false, false, false] (by kernel_rfl) (by kernel_rfl)
        ·
         refine h_op (a := .raw (.bool false)) rfl rfl rfl (q_bool rfl hc7) (by dsimp only [aput, List.set]) ?_
         refine h_pass rfl rfl rfl (by decide) (by dsimp only [aput, List.set]) ?_
         refine h_pass rfl rfl rfl (by decide) (by dsimp only [aput, List.set]) ?_
         refine h_pass rfl rfl rfl (by decide) (by dsimp only [aput, List.set]) ?_
         refine h_pass rfl rfl rfl (by decide) (by dsimp only [aput, List.set]) ?_
         refine h_pass rfl rfl rfl (by decide) (by dsimp only [aput, List.set]) ?_
         refine h_op (a := .raw (.bool false)) rfl rfl rfl rfl (by dsimp only [aput, List.set]) ?_
         refine h_op (a := .raw (.bool (!(x8 == false)))) rfl rfl rfl (by kernel_rfl) (by dsimp only [aput, List.set]) ?_
         refine bif_e h (fun hc12 h => ?_) (fun hc12 h => ?_)
         ·
          refine h_op (a := .raw (.bool true)) rfl rfl rfl (q_bool rfl hc12) (by dsimp only [aput, List.set]) ?_
          refine h_pass rfl rfl rfl (by decide) (by dsimp only [aput, List.set]) ?_
          refine h_pass rfl rfl rfl (by decide) (by dsimp only [aput, List.set]) ?_
          refine h_pass rfl rfl rfl (by decide) (by dsimp only [aput, List.set]) ?_
          refine h_pass rfl rfl rfl (by decide) (by dsimp only [aput, List.set]) ?_
          refine h_pass rfl rfl rfl (by decide) (by dsimp only [aput, List.set]) ?_
          refine h_pass rfl rfl rfl (by decide) (by dsimp only [aput, List.set]) ?_
          refine h_pass rfl rfl rfl (by decide) (by dsimp only [aput, List.set]) ?_
          refine h_pass rfl rfl rfl (by decide) (by dsimp only [aput, List.set]) ?_
          refine h_pass rfl rfl rfl (by decide) (by dsimp only [aput, List.set]) ?_
          refine h_pass rfl rfl rfl (by decide) (by dsimp only [aput, List.set]) ?_
          refine h_pass rfl rfl rfl (by decide) (by dsimp only [aput, List.set]) ?_
          refine h_pass rfl rfl rfl (by decide) (by dsimp only [aput, List.set]) ?_
          refine h_end ?_
          refine w_pass rfl rfl (by decide) (by dsimp only [aput, List.set]) ?_
          refine w_pass rfl rfl (by decide) (by dsimp only [aput, List.set]) ?_
          refine w_pass rfl rfl (by decide) (by dsimp only [aput, List.set]) ?_
          refine w_op (a := .raw (.bool true)) rfl rfl rfl rfl (by dsimp only [aput, List.set]) ?_
          refine w_true rfl ?_
          refine w_seq (w_region ?_)
          refine w_op (a := .raw (.bool false)) rfl rfl rfl rfl (by dsimp only [aput, List.set]) ?_
          replace h := cut_inr h hr1
          exact end_pureF (fun (r : Bool) => (.raw (.bool r) : AV)) h (a := .raw (.bool false)) rfl rfl rfl
         ·
          refine h_op (a := .raw (.bool false)) rfl rfl rfl (q_bool rfl hc12) (by dsimp only [aput, List.set]) ?_
          refine h_met rfl rfl ?_
          refine h_op (a := .agg (Enc.cells (x1 : Trc))) rfl rfl rfl rfl (by dsimp only [aput, List.set]) ?_
          refine h_met rfl rfl ?_
          refine h_op (a := .agg (Enc.cells ((Trc.mk (sub x1.l 0 (Int.tmod i ((List.length x1.l : Int) + 1))) (Ed.mk 1 0)) : Trc))) rfl rfl rfl rfl (by dsimp only [aput, List.set]) ?_
          refine h_met rfl rfl ?_
          obtain ⟨x10, hx10, h⟩ := bindE_e h
          refine h_call (args' := [.agg (Enc.cells (x1 : Trc)), .agg (Enc.cells ((Trc.mk (sub x1.l 0 (Int.tmod i ((List.length x1.l : Int) + 1))) (Ed.mk 1 0)) : Trc))]) (r := .raw (.bool x10)) (goes_sh fuel x1 (Trc.mk (sub x1.l 0 (Int.tmod i ((List.length x1.l : Int) + 1))) (Ed.mk 1 0)) x10 hx10) rfl rfl rfl (stripL_cons (strip_c (clo_agg (Enc.clo _))) (stripL_cons (strip_c (clo_agg (Enc.clo _))) rfl)) (okTrimL_cons (okTrim_clo _ _ (clo_agg (Enc.clo _))) (okTrimL_cons (okTrim_clo _ _ (clo_agg (Enc.clo _))) rfl)) (by dsimp only [aput, List.set]) ?_
          refine h_met rfl rfl ?_
          refine h_op (a := .ptr 0 1) rfl rfl rfl rfl (by dsimp only [aput, List.set]) ?_
          refine h_met rfl rfl ?_
          refine h_op (a := .agg (Enc.cells (x1.e : Ed))) rfl rfl rfl rfl (by dsimp only [aput, List.set]) ?_
          refine h_met rfl rfl ?_
          refine h_op (a := .agg (Enc.cells ((Ed.mk 1 0) : Ed))) rfl rfl rfl rfl (by dsimp only [aput, List.set]) ?_
          refine h_met rfl rfl ?_
          refine h_runR (.raw (.bool (decide (x1.e = (Ed.mk 1 0))))) rfl rfl rfl (rs_eqEd x1.e (Ed.mk 1 0) rfl rfl rfl) (by dsimp only [aput, List.set]) ?_
          refine h_met rfl rfl ?_
          refine bif_e h (fun hc13 h => ?_) (fun hc13 h => ?_)
          ·
           refine h_op (a := .raw (.bool true)) rfl rfl rfl (q_bool rfl hc13) (by dsimp only [aput, List.set]) ?_
           refine h_met rfl rfl ?_
           refine h_op (a := .raw (.int .i64 (Int.tmod i ((List.length x1.l : Int) + 1)))) rfl rfl rfl rfl (by dsimp only [aput, List.set]) ?_
           refine h_met rfl rfl ?_
           refine h_op (a := .ptr 0 0) rfl rfl rfl rfl (by dsimp only [aput, List.set]) ?_
           refine h_met rfl rfl ?_
           refine h_op (a := .list (List.length (x1.l : List En)) (Enc.cellsL (x1.l : List En)) .none) rfl rfl rfl rfl (by dsimp only [aput, List.set]) ?_
           refine h_met rfl rfl ?_
           refine h_op (a := .raw (.int .i64 (List.length x1.l : Int))) rfl rfl rfl rfl (by dsimp only [aput, List.set]) ?_
           refine h_end ?_
           refine w_met rfl rfl ?_
           refine w_op (a := .raw (.bool ((Int.tmod i ((List.length x1.l : Int) + 1)) == (List.length x1.l : Int)))) rfl rfl rfl rfl (by dsimp only [aput, List.set]) ?_
           refine w_met rfl rfl ?_
           refine w_op (a := .raw (.bool ((Int.tmod i ((List.length x1.l : Int) + 1)) == (List.length x1.l : Int)))) rfl rfl rfl rfl (by dsimp only [aput, List.set]) ?_
           refine w_met rfl rfl ?_
           refine w_op (a := .raw (.bool (!(x10 == ((Int.tmod i ((List.length x1.l : Int) + 1)) == (List.length x1.l : Int)))))) rfl rfl rfl (op_q (by kernel_rfl)) (by dsimp only [aput, List.set]) ?_
           refine w_op (a := .raw (.bool (!(x10 == ((Int.tmod i ((List.length x1.l : Int) + 1)) == (List.length x1.l : Int)))))) rfl rfl rfl rfl (by dsimp only [aput, List.set]) ?_
           refine bif_e h (fun hc14 h => ?_) (fun hc14 h => ?_)
           ·
            refine w_condT hc14 rfl ?_
            refine w_seq (w_region ?_)
            refine w_op (a := .raw (.bool false)) rfl rfl rfl rfl (by dsimp only [aput, List.set]) ?_
            replace h := cut_inr h hr1
            exact end_pureF (fun (r : Bool) => (.raw (.bool r) : AV)) h (a := .raw (.bool false)) rfl rfl rfl
           ·
            refine w_condF hc14 rfl ?_
            refine cut_done (o := or1) () h ?_
            exact wm_of [false, false, false, false, false, false, false, false, false, false, false, false, true, true, false, true, true, false, false, false, false, false, false, false, false, false, false, false, false, false, false, false, false, false, false, false, false, false, false, false, false, false, false, false, false, false, false, false, false, false, false, false, false, false, false, false, false, false, false, false, false, false, false, false, false, false, false, false, false, false, false, false, false, false, false, false, false, false, false, false, false, false, false, false, false, false, false, false, false, false, false, false, false, false, false, false, false, false, false, false, false, false, false, false, false, false, false, false, false, false, false, false, false, false, false, false, false, false, false, false, false, false, false, false, false, false, false, false, false, false, false, false, false, false, false, false, false, false, false, false, false, false, false] (by kernel_rfl) (by kernel_rfl)
          ·
           refine h_op (a := .raw (.bool false)) rfl rfl rfl (q_bool rfl hc13) (by dsimp only [aput, List.set]) ?_
           refine h_pass rfl rfl rfl (by decide) (by dsimp only [aput, List.set]) ?_
           refine h_pass rfl rfl rfl (by decide) (by dsimp only [aput, List.set]) ?_
           refine h_pass rfl rfl rfl (by decide) (by dsimp only [aput, List.set]) ?_
           refine h_pass rfl rfl rfl (by decide) (by dsimp only [aput, List.set]) ?_
           refine h_end ?_
           refine w_pass rfl rfl (by decide) (by dsimp only [aput, List.set]) ?_
           refine w_met rfl rfl ?_
           refine w_op (a := .raw (.bool false)) rfl rfl rfl rfl (by dsimp only [aput, List.set]) ?_
           refine w_met rfl rfl ?_
           refine w_op (a := .raw (.bool (!(x10 == false)))) rfl rfl rfl (op_q (by kernel_rfl)) (by dsimp only [aput, List.set]) ?_
           refine w_op (a := .raw (.bool (!(x10 == false)))) rfl rfl rfl rfl (by dsimp only [aput, List.set]) ?_
           refine bif_e h (fun hc15 h => ?_) (fun hc15 h => ?_)
           ·
            refine w_condT hc15 rfl ?_
            refine w_seq (w_region ?_)
            refine w_op (a := .raw (.bool false)) rfl rfl rfl rfl (by dsimp only [aput, List.set]) ?_
            replace h := cut_inr h hr1
            exact end_pureF (fun (r : Bool) => (.raw (.bool r) : AV)) h (a := .raw (.bool false)) rfl rfl rfl
           ·
            refine w_condF hc15 rfl ?_
            refine cut_done (o := or1) () h ?_
            exact wm_of [false, false, false, false, false, false, false, false, false, false, false, false, true, true, false, true, true, false, false, false, false, false, false, false, false, false, false, false, false, false, false, false, false, false, false, false, false, false, false, false, false, false, false, false, false, false, false, false, false, false, false, false, false, false, false, false, false, false, false, false, false, false, false, false, false, false, false, false, false, false, false, false, false, false, false, false, false, false, false, false, false, false, false, false, false, false, false, false, false, false, false, false, false, false, false, false, false, false, false, false, false, false, false, false, false, false, false, false, false, false, false, false, false, false, false, false, false, false, false, false, false, false, false, false, false, false, false, false, false, false, false, false, false, false, false, false, false, false, false, false, false, false, false] (by kernel_rfl) (by kernel_rfl)
       ·
        intro j1 h
        refine w_start (by dsimp only [setAll, topAll, List.foldl, List.set]) rfl ?_
        refine w_seq (w_region ?_)
        refine w_op (a := .agg (Enc.cells ((Trc.mk (sub x1.l 0 (Int.tmod j ((List.length x1.l : Int) + 1))) (Ed.mk 1 0)) : Trc))) rfl rfl rfl rfl (by dsimp only [aput, List.set]) ?_
        refine w_op (a := .agg (Enc.cells ((Trc.mk (sub x1.l 0 (Int.tmod i ((List.length x1.l : Int) + 1))) (Ed.mk 1 0)) : Trc))) rfl rfl rfl rfl (by dsimp only [aput, List.set]) ?_
        obtain ⟨x11, hx11, h⟩ := bindE_e h
        refine w_callc (args' := [.agg (Enc.cells ((Trc.mk (sub x1.l 0 (Int.tmod j ((List.length x1.l : Int) + 1))) (Ed.mk 1 0)) : Trc)), .agg (Enc.cells ((Trc.mk (sub x1.l 0 (Int.tmod i ((List.length x1.l : Int) + 1))) (Ed.mk 1 0)) : Trc))]) (r := .raw (.bool x11)) (goes_sh fuel (Trc.mk (sub x1.l 0 (Int.tmod j ((List.length x1.l : Int) + 1))) (Ed.mk 1 0)) (Trc.mk (sub x1.l 0 (Int.tmod i ((List.length x1.l : Int) + 1))) (Ed.mk 1 0)) x11 hx11) rfl rfl (stripL_cons (strip_c (clo_agg (Enc.clo _))) (stripL_cons (strip_c (clo_agg (Enc.clo _))) rfl)) (okTrimL_cons (okTrim_clo _ _ (clo_agg (Enc.clo _))) (okTrimL_cons (okTrim_clo _ _ (clo_agg (Enc.clo _))) rfl)) (by dsimp only [aput, List.set]) ?_
        refine w_op (a := .raw (.bool x11)) rfl rfl rfl rfl (by dsimp only [aput, List.set]) ?_
        refine w_seq ?_
        refine w_seq (w_region ?_)
        refine w_op (a := .raw (.int .i64 (Int.tmod i ((List.length x1.l : Int) + 1)))) rfl rfl rfl rfl (by dsimp only [aput, List.set]) ?_
        refine w_op (a := .raw (.int .i64 (Int.tmod j ((List.length x1.l : Int) + 1)))) rfl rfl rfl rfl (by dsimp only [aput, List.set]) ?_
        refine w_op (a := .raw (.bool (decide ((Int.tmod i ((List.length x1.l : Int) + 1)) ≤ (Int.tmod j ((List.length x1.l : Int) + 1)))))) rfl rfl rfl rfl (by dsimp only [aput, List.set]) ?_
        refine bif_e h (fun hc16 h => ?_) (fun hc16 h => ?_)
        ·
         refine w_condT hc16 rfl ?_
         refine w_seq (w_region ?_)
         refine w_op (a := .raw (.bool x11)) rfl rfl rfl rfl (by dsimp only [aput, List.set]) ?_
         refine w_op (a := .agg (Enc.cells ((Trc.mk (sub x1.l 0 (Int.tmod i ((List.length x1.l : Int) + 1))) (Ed.mk 1 0)) : Trc))) rfl rfl rfl rfl (by dsimp only [aput, List.set]) ?_
         refine w_op (a := .agg (Enc.cells ((Trc.mk (sub x1.l 0 (Int.tmod j ((List.length x1.l : Int) + 1))) (Ed.mk 1 0)) : Trc))) rfl rfl rfl rfl (by dsimp only [aput, List.set]) ?_
         obtain ⟨x12, hx12, h⟩ := bindE_e h
         refine w_callc (args' := [.agg (Enc.cells ((Trc.mk (sub x1.l 0 (Int.tmod i ((List.length x1.l : Int) + 1))) (Ed.mk 1 0)) : Trc)), .agg (Enc.cells ((Trc.mk (sub x1.l 0 (Int.tmod j ((List.length x1.l : Int) + 1))) (Ed.mk 1 0)) : Trc))]) (r := .raw (.bool x12)) (same_sh fuel (Trc.mk (sub x1.l 0 (Int.tmod i ((List.length x1.l : Int) + 1))) (Ed.mk 1 0)) (Trc.mk (sub x1.l 0 (Int.tmod j ((List.length x1.l : Int) + 1))) (Ed.mk 1 0)) x12 hx12) rfl rfl (stripL_cons (strip_c (clo_agg (Enc.clo _))) (stripL_cons (strip_c (clo_agg (Enc.clo _))) rfl)) (okTrimL_cons (okTrim_clo _ _ (clo_agg (Enc.clo _))) (okTrimL_cons (okTrim_clo _ _ (clo_agg (Enc.clo _))) rfl)) (by dsimp only [aput, List.set]) ?_
         refine w_op (a := .raw (.bool (x11 == x12))) rfl rfl rfl (op_q (by kernel_rfl)) (by dsimp only [aput, List.set]) ?_
         refine bif_e h (fun hc17 h => ?_) (fun hc17 h => ?_)
         ·
          refine w_op (a := .raw (.bool true)) rfl rfl rfl (op_q (q_bool rfl hc17)) (by dsimp only [aput, List.set]) ?_
          refine w_met rfl rfl ?_
          refine w_callc (args' := []) (r := .raw (.bool true)) awake_pure rfl rfl rfl rfl (by dsimp only [aput, List.set]) ?_
          refine w_op (a := .raw (.bool true)) rfl rfl rfl rfl (by dsimp only [aput, List.set]) ?_
          refine w_op (a := .raw (.bool true)) rfl rfl rfl rfl (by dsimp only [aput, List.set]) ?_
          exact end_pureF (fun (r : Bool) => (.raw (.bool r) : AV)) h (a := .raw (.bool true)) rfl rfl rfl
         ·
          refine w_op (a := .raw (.bool false)) rfl rfl rfl (op_q (q_bool rfl hc17)) (by dsimp only [aput, List.set]) ?_
          refine w_pass rfl rfl (by decide) (by dsimp only [aput, List.set]) ?_
          refine w_op (a := .raw (.bool false)) rfl rfl rfl rfl (by dsimp only [aput, List.set]) ?_
          refine w_op (a := .raw (.bool false)) rfl rfl rfl rfl (by dsimp only [aput, List.set]) ?_
          exact end_pureF (fun (r : Bool) => (.raw (.bool r) : AV)) h (a := .raw (.bool false)) rfl rfl rfl
        ·
         refine w_condF hc16 rfl ?_
         refine w_seq (w_region ?_)
         refine w_op (a := .raw (.bool x11)) rfl rfl rfl rfl (by dsimp only [aput, List.set]) ?_
         refine bif_e h (fun hc18 h => ?_) (fun hc18 h => ?_)
         ·
          refine w_op (a := .raw (.bool true)) rfl rfl rfl (op_q (q_bool rfl hc18)) (by dsimp only [aput, List.set]) ?_
          refine w_met rfl rfl ?_
          refine w_callc (args' := []) (r := .raw (.bool true)) awake_pure rfl rfl rfl rfl (by dsimp only [aput, List.set]) ?_
          refine w_op (a := .raw (.bool true)) rfl rfl rfl rfl (by dsimp only [aput, List.set]) ?_
          refine w_op (a := .raw (.bool true)) rfl rfl rfl rfl (by dsimp only [aput, List.set]) ?_
          exact end_pureF (fun (r : Bool) => (.raw (.bool r) : AV)) h (a := .raw (.bool true)) rfl rfl rfl
         ·
          refine w_op (a := .raw (.bool false)) rfl rfl rfl (op_q (q_bool rfl hc18)) (by dsimp only [aput, List.set]) ?_
          refine w_pass rfl rfl (by decide) (by dsimp only [aput, List.set]) ?_
          refine w_op (a := .raw (.bool false)) rfl rfl rfl rfl (by dsimp only [aput, List.set]) ?_
          refine w_op (a := .raw (.bool false)) rfl rfl rfl rfl (by dsimp only [aput, List.set]) ?_
          exact end_pureF (fun (r : Bool) => (.raw (.bool r) : AV)) h (a := .raw (.bool false)) rfl rfl rfl
end Go.Ab
