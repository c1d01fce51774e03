/-
  trace: TraceSums.
-/
import Derived.Test.YtcdmdnadilafhaaDoorZtW8
import Derived.Test.YtcdmdnadilafhaaDoorZtW3
import Derived.Test.YtcdmdnadilafhaaDoorZtCl
set_option linter.unusedSimpArgs false
set_option linter.unusedVariables false
namespace Go.Ab
open Go Go.RowKit Go.Fwd Go.Proofs
def F_tracesums (fuel : Nat) (l : (List Sme)) (en : Int) (code : Int) (cut : Int) : Option Bool :=
  (bindE (F_made fuel l en code) (fun x1 => (chk (-9223372036854775808 ≤ cut ∧ cut < 9223372036854775808) (chk (-9223372036854775808 ≤ ((List.length x1.l : Int) + 1) ∧ ((List.length x1.l : Int) + 1) < 9223372036854775808) (chk ((0 ≤ cut ∧ cut < 9223372036854775808) ∧ 0 < ((List.length x1.l : Int) + 1)) (chk (0 ≤ 0 ∧ 0 ≤ (Int.tmod cut ((List.length x1.l : Int) + 1)) ∧ (Int.tmod cut ((List.length x1.l : Int) + 1)) ≤ (List.length x1.l : Int)) (chk (List.length (sub x1.l 0 (Int.tmod cut ((List.length x1.l : Int) + 1))) * 40 ≤ 140737488355328) (letE (sub x1.l 0 (Int.tmod cut ((List.length x1.l : Int) + 1))) (fun x2 => (bif ((List.length (sub x1.l (Int.tmod cut ((List.length x1.l : Int) + 1)) (List.length x1.l : Int)) : Int) == 0) then (chk (0 ≤ (Int.tmod cut ((List.length x1.l : Int) + 1)) ∧ (Int.tmod cut ((List.length x1.l : Int) + 1)) ≤ (List.length x1.l : Int) ∧ (List.length x1.l : Int) ≤ (List.length x1.l : Int)) (chk (List.length (sub x1.l (Int.tmod cut ((List.length x1.l : Int) + 1)) (List.length x1.l : Int)) * 40 ≤ 140737488355328) (letE (sub x1.l (Int.tmod cut ((List.length x1.l : Int) + 1)) (List.length x1.l : Int)) (fun x3 => (bindE (F_at fuel (Trc.mk x2 x1.e)) (fun x4 => (cutE (τ := Unit) (loopE (β := Int) (fun s1 => (bif (decide (s1 < (List.length ((Trc.mk x3 x1.e).l) : Int))) then (chk (0 ≤ s1 ∧ s1 < (List.length ((Trc.mk x3 x1.e).l) : Int)) (letE (ix ((Trc.mk x3 x1.e).l) s1) (fun x5 => (bif (x5.k != 1) then (chk (0 ≤ s1 ∧ s1 < (List.length ((Trc.mk x3 x1.e).l) : Int)) (letE (ix ((Trc.mk x3 x1.e).l) s1) (fun x6 => (chk (-9223372036854775808 ≤ (x6.fr - x4) ∧ (x6.fr - x4) < 9223372036854775808) (chk (0 ≤ s1 ∧ s1 < (List.length ((Trc.mk x3 x1.e).l) : Int)) (letE (ix ((Trc.mk x3 x1.e).l) s1) (fun x7 => none))))))) else (chk (-9223372036854775808 ≤ (s1 + 1) ∧ (s1 + 1) < 9223372036854775808) (some (Sum.inl ((s1 + 1))))))))) else (some (Sum.inr (Sum.inl ()))))) fuel (0)) (fun j1 => (bindE (F_check fuel x1) (fun x8 => (bindE (F_check fuel (Trc.mk x2 x1.e)) (fun x9 => (bindE (F_check fuel (Trc.mk x3 x1.e)) (fun x10 => (chk (-9223372036854775808 ≤ (x8.2 + x9.2) ∧ (x8.2 + x9.2) < 9223372036854775808) (chk (-9223372036854775808 ≤ ((x8.2 + x9.2) + x10.2) ∧ ((x8.2 + x9.2) + x10.2) < 9223372036854775808) (bif (((x8.2 + x9.2) + x10.2) == 0) then (bindE (F_taken fuel x1) (fun x11 => (bindE (F_lost fuel x1) (fun x12 => (chk (-9223372036854775808 ≤ (x11 + x12) ∧ (x11 + x12) < 9223372036854775808) (bindE (F_at fuel x1) (fun x13 => (bif ((x11 + x12) == x13) then (bindE (F_at fuel x1) (fun x14 => (bindE (F_at fuel (Trc.mk x2 x1.e)) (fun x15 => (bindE (F_at fuel (Trc.mk x3 x1.e)) (fun x16 => (chk (-9223372036854775808 ≤ (x15 + x16) ∧ (x15 + x16) < 9223372036854775808) (bif (x14 == (x15 + x16)) then (bindE (F_taken fuel x1) (fun x17 => (bindE (F_taken fuel (Trc.mk x2 x1.e)) (fun x18 => (bindE (F_taken fuel (Trc.mk x3 x1.e)) (fun x19 => (chk (-9223372036854775808 ≤ (x18 + x19) ∧ (x18 + x19) < 9223372036854775808) (bif (x17 == (x18 + x19)) then (bindE (F_lost fuel x1) (fun x20 => (bindE (F_lost fuel (Trc.mk x2 x1.e)) (fun x21 => (bindE (F_lost fuel (Trc.mk x3 x1.e)) (fun x22 => (chk (-9223372036854775808 ≤ (x21 + x22) ∧ (x21 + x22) < 9223372036854775808) (bif (x20 == (x21 + x22)) then (bindE (F_sent fuel x1) (fun x23 => (bindE (F_sent fuel (Trc.mk x2 x1.e)) (fun x24 => (bindE (F_sent fuel (Trc.mk x3 x1.e)) (fun x25 => (chk (List.length x24 + List.length x25 ≤ 9223372036854775807) (bif (x23 == (x24 ++ x25)) then (some true) else (some false))))))))) else (some false))))))))) else (some false))))))))) else (some false))))))))) else (some false))))))))) else (some false)))))))))))))))))) else (chk (0 ≤ (Int.tmod cut ((List.length x1.l : Int) + 1)) ∧ (Int.tmod cut ((List.length x1.l : Int) + 1)) ≤ (List.length x1.l : Int) ∧ (List.length x1.l : Int) ≤ (List.length x1.l : Int)) (chk (List.length (sub x1.l (Int.tmod cut ((List.length x1.l : Int) + 1)) (List.length x1.l : Int)) * 40 ≤ 140737488355328) (bindE (F_at fuel (Trc.mk x2 x1.e)) (fun x26 => (cutE (τ := Trc) (loopE (β := Int × (List En)) (fun s2 => (chk (List.length s2.2 = (List.length (sub x1.l (Int.tmod cut ((List.length x1.l : Int) + 1)) (List.length x1.l : Int)))) (bif (decide (s2.1 < (((List.length (sub x1.l (Int.tmod cut ((List.length x1.l : Int) + 1)) (List.length x1.l : Int))) : Nat) : Int))) then (cutE (τ := (List En)) (chk (0 ≤ s2.1 ∧ s2.1 < (((List.length (sub x1.l (Int.tmod cut ((List.length x1.l : Int) + 1)) (List.length x1.l : Int))) : Nat) : Int)) (chk (0 ≤ s2.1 ∧ s2.1 < (List.length s2.2 : Int)) (letE (ix s2.2 s2.1) (fun x27 => (bif (x27.k != 1) then (chk (0 ≤ s2.1 ∧ s2.1 < (((List.length (sub x1.l (Int.tmod cut ((List.length x1.l : Int) + 1)) (List.length x1.l : Int))) : Nat) : Int)) (chk (0 ≤ s2.1 ∧ s2.1 < (List.length s2.2 : Int)) (letE (ix s2.2 s2.1) (fun x28 => (chk (-9223372036854775808 ≤ (x28.fr - x26) ∧ (x28.fr - x26) < 9223372036854775808) (chk (0 ≤ s2.1 ∧ s2.1 < (((List.length (sub x1.l (Int.tmod cut ((List.length x1.l : Int) + 1)) (List.length x1.l : Int))) : Nat) : Int)) (chk (0 ≤ s2.1 ∧ s2.1 < (List.length s2.2 : Int)) (letE (ix s2.2 s2.1) (fun x29 => (chk (0 ≤ s2.1 ∧ s2.1 < (((List.length (sub x1.l (Int.tmod cut ((List.length x1.l : Int) + 1)) (List.length x1.l : Int))) : Nat) : Int)) (chk (0 ≤ s2.1 ∧ s2.1 < (List.length (List.set s2.2 (Int.toNat s2.1) (En.mk x29.k (x28.fr - x26) x29.to x29.b)) : Int)) (letE (ix (List.set s2.2 (Int.toNat s2.1) (En.mk x29.k (x28.fr - x26) x29.to x29.b)) s2.1) (fun x30 => (chk (-9223372036854775808 ≤ (x30.to - x26) ∧ (x30.to - x26) < 9223372036854775808) (chk (0 ≤ s2.1 ∧ s2.1 < (((List.length (sub x1.l (Int.tmod cut ((List.length x1.l : Int) + 1)) (List.length x1.l : Int))) : Nat) : Int)) (chk (0 ≤ s2.1 ∧ s2.1 < (List.length (List.set s2.2 (Int.toNat s2.1) (En.mk x29.k (x28.fr - x26) x29.to x29.b)) : Int)) (letE (ix (List.set s2.2 (Int.toNat s2.1) (En.mk x29.k (x28.fr - x26) x29.to x29.b)) s2.1) (fun x31 => (some (Sum.inl ((List.set (List.set s2.2 (Int.toNat s2.1) (En.mk x29.k (x28.fr - x26) x29.to x29.b)) (Int.toNat s2.1) (En.mk x31.k x31.fr (x30.to - x26) x31.b))))))))))))))))))))))) else (some (Sum.inl (s2.2)))))))) (fun j3 => (chk (-9223372036854775808 ≤ (s2.1 + 1) ∧ (s2.1 + 1) < 9223372036854775808) (some (Sum.inl ((s2.1 + 1), j3)))))) else (some (Sum.inr (Sum.inl ((Trc.mk s2.2 (Ed.mk x1.e.k x1.e.c))))))))) fuel (0, (sub x1.l (Int.tmod cut ((List.length x1.l : Int) + 1)) (List.length x1.l : Int)))) (fun j2 => (bindE (F_check fuel x1) (fun x32 => (bindE (F_check fuel (Trc.mk x2 x1.e)) (fun x33 => (bindE (F_check fuel j2) (fun x34 => (chk (-9223372036854775808 ≤ (x32.2 + x33.2) ∧ (x32.2 + x33.2) < 9223372036854775808) (chk (-9223372036854775808 ≤ ((x32.2 + x33.2) + x34.2) ∧ ((x32.2 + x33.2) + x34.2) < 9223372036854775808) (bif (((x32.2 + x33.2) + x34.2) == 0) then (bindE (F_taken fuel x1) (fun x35 => (bindE (F_lost fuel x1) (fun x36 => (chk (-9223372036854775808 ≤ (x35 + x36) ∧ (x35 + x36) < 9223372036854775808) (bindE (F_at fuel x1) (fun x37 => (bif ((x35 + x36) == x37) then (bindE (F_at fuel x1) (fun x38 => (bindE (F_at fuel (Trc.mk x2 x1.e)) (fun x39 => (bindE (F_at fuel j2) (fun x40 => (chk (-9223372036854775808 ≤ (x39 + x40) ∧ (x39 + x40) < 9223372036854775808) (bif (x38 == (x39 + x40)) then (bindE (F_taken fuel x1) (fun x41 => (bindE (F_taken fuel (Trc.mk x2 x1.e)) (fun x42 => (bindE (F_taken fuel j2) (fun x43 => (chk (-9223372036854775808 ≤ (x42 + x43) ∧ (x42 + x43) < 9223372036854775808) (bif (x41 == (x42 + x43)) then (bindE (F_lost fuel x1) (fun x44 => (bindE (F_lost fuel (Trc.mk x2 x1.e)) (fun x45 => (bindE (F_lost fuel j2) (fun x46 => (chk (-9223372036854775808 ≤ (x45 + x46) ∧ (x45 + x46) < 9223372036854775808) (bif (x44 == (x45 + x46)) then (bindE (F_sent fuel x1) (fun x47 => (bindE (F_sent fuel (Trc.mk x2 x1.e)) (fun x48 => (bindE (F_sent fuel j2) (fun x49 => (chk (List.length x48 + List.length x49 ≤ 9223372036854775807) (bif (x47 == (x48 ++ x49)) then (some true) else (some false))))))))) else (some false))))))))) else (some false))))))))) else (some false))))))))) else (some false))))))))) else (some false))))))))))))))))))))))))))
theorem ent6 : Ent Tryd.prog 6 := enters_of Tryd.func6 (by kernel_rfl) rfl
set_option maxRecDepth 100000 in
set_option maxHeartbeats 64000000 in
theorem tracesums_sh (fuel : Nat) (l : (List Sme)) (en : Int) (code : Int) (cut : Int) (r : Bool) (h : F_tracesums fuel l en code cut = some r) : Pure (ITP Tryd.prog) Tryd.prog 6 [.list (List.length (l : List Sme)) (Enc.cellsL (l : List Sme)) .none, .raw (.int .u8 en), .raw (.int .u8 code), .raw (.int .u8 cut)] (.raw (.bool r)) := by
 obtain ⟨d, hd⟩ : ∃ d, Tryd.f6.body = some d := ⟨_, rfl⟩
 refine pure_of mix Tryd.func6 hd ent6 ?_
 cases hd
 unfold F_tracesums at h
 refine w_start (by dsimp only [abeginS, Tryd.f6, List.length_cons, List.length_nil, Nat.zero_add, Nat.reduceAdd, Nat.reduceSub, List.replicate, List.cons_append, List.nil_append]) (by dsimp only [St.empty]) ?_
 refine w_seq (w_region ?_)
 refine w_op (a := .raw (.bool false)) rfl rfl rfl rfl (by dsimp only [aput, List.set]) ?_
 refine w_seq (w_region ?_)
 refine w_op (a := .list (List.length (l : List Sme)) (Enc.cellsL (l : List Sme)) .none) rfl rfl rfl rfl (by dsimp only [aput, List.set]) ?_
 refine w_op (a := .raw (.int .u8 en)) rfl rfl rfl rfl (by dsimp only [aput, List.set]) ?_
 refine w_op (a := .raw (.int .u8 code)) rfl rfl rfl rfl (by dsimp only [aput, List.set]) ?_
 obtain ⟨x1, hx1, h⟩ := bindE_e h
 refine w_callc (args' := [.list (List.length (l : List Sme)) (Enc.cellsL (l : List Sme)) .none, .raw (.int .u8 en), .raw (.int .u8 code)]) (r := .agg (Enc.cells (x1 : Trc))) (made_sh fuel l en code x1 hx1) rfl rfl (stripL_cons (strip_l (Enc.cloL _)) (stripL_cons rfl (stripL_cons rfl rfl))) (okTrimL_cons (okTrim_l (Enc.cloL _)) (okTrimL_cons rfl (okTrimL_cons rfl rfl))) (by dsimp only [aput, List.set]) ?_
 refine w_opm (a := .ptr 0 0) (σ'' := ⟨[(26, [.list 0 [] .full, .raw (.int .u8 0), .raw (.int .i64 0)])], [], [], 0, false⟩) rfl rfl rfl rfl (by dsimp only [aput, List.set]) rfl ?_
 refine w_opm (σ'' := ⟨[(26, (Enc.cells (x1 : Trc)))], [], [], 0, false⟩) rfl rfl rfl (op_storeW (n := 3) rfl rfl rfl rfl rfl rfl rfl rfl (by decide)) (by dsimp only [aput, List.set]) rfl ?_
 refine w_seq (w_region ?_)
 refine w_op (a := .raw (.int .u8 cut)) rfl rfl rfl rfl (by dsimp only [aput, List.set]) ?_
 obtain ⟨g1, h⟩ := chk_e h
 refine w_op (a := .raw (.int .i64 cut)) rfl rfl rfl (op_q (q_conv64 g1 rfl rfl rfl)) (by dsimp only [aput, List.set]) ?_
 refine w_op (a := .ptr 0 0) rfl rfl rfl rfl (by dsimp only [aput, List.set]) ?_
 refine w_op (a := .list (List.length (x1.l : List En)) (Enc.cellsL (x1.l : List En)) .none) rfl rfl rfl rfl (by dsimp only [aput, List.set]) ?_
 refine w_op (a := .raw (.int .i64 (List.length x1.l : Int))) rfl rfl rfl rfl (by dsimp only [aput, List.set]) ?_
 obtain ⟨g2, h⟩ := chk_e h
 refine w_op (a := .raw (.int .i64 ((List.length x1.l : Int) + 1))) rfl rfl rfl (op_q (q_add rfl rfl rfl rfl g2.1 g2.2)) (by dsimp only [aput, List.set]) ?_
 obtain ⟨g3, h⟩ := chk_e h
 refine w_op (a := .raw (.int .i64 (Int.tmod cut ((List.length x1.l : Int) + 1)))) rfl rfl rfl (op_q (q_rem64 g3 rfl rfl rfl)) (by dsimp only [aput, List.set]) ?_
 refine w_op (a := .raw (.int .i64 (Int.tmod cut ((List.length x1.l : Int) + 1)))) rfl rfl rfl rfl (by dsimp only [aput, List.set]) ?_
 refine w_seq ?_
 refine w_drawB (id := 3) 9 (by kernel_rfl) (by kernel_rfl) ?_
 refine hB_op (a := .ptr 0 0) rfl rfl rfl rfl rfl (by dsimp only [aput, List.set]) ?_
 refine hB_op (a := .list (List.length (x1.l : List En)) (Enc.cellsL (x1.l : List En)) .none) rfl rfl rfl rfl rfl (by dsimp only [aput, List.set]) ?_
 refine hB_op (a := .raw (.int .i64 (Int.tmod cut ((List.length x1.l : Int) + 1)))) rfl rfl rfl rfl rfl (by dsimp only [aput, List.set]) ?_
 obtain ⟨g4, h⟩ := chk_e h
 refine hB_opS (a := .list (List.length ((sub x1.l 0 (Int.tmod cut ((List.length x1.l : Int) + 1))) : List En)) (Enc.cellsL ((sub x1.l 0 (Int.tmod cut ((List.length x1.l : Int) + 1))) : List En)) .none) rfl rfl rfl rfl (q_sub_H (α := En) (l := x1.l) g4 rfl rfl rfl rfl rfl) (strip_sub _ _ _) (by dsimp only [aput, List.set]) ?_
 obtain ⟨g5, h⟩ := chk_e h
 obtain ⟨x2, hx2, h⟩ := letE_e h
 refine hB_call (args' := [.list (List.length ((sub x1.l 0 (Int.tmod cut ((List.length x1.l : Int) + 1))) : List En)) (Enc.cellsL ((sub x1.l 0 (Int.tmod cut ((List.length x1.l : Int) + 1))) : List En)) .none]) (r := .list (List.length (x2 : List En)) (Enc.cellsL (x2 : List En)) .none) (by rw [← hx2]; exact (clone_pure (sub x1.l 0 (Int.tmod cut ((List.length x1.l : Int) + 1))) g5)) rfl rfl rfl rfl (stripL_cons (strip_l (Enc.cloL _)) rfl) (okTrimL_cons (okTrim_l (Enc.cloL _)) rfl) (by dsimp only [aput, List.set]) ?_
 refine hB_op (a := .ptr 0 1) rfl rfl rfl rfl rfl (by dsimp only [aput, List.set]) ?_
 refine hB_op (a := .agg (Enc.cells (x1.e : Ed))) rfl rfl rfl rfl rfl (by dsimp only [aput, List.set]) ?_
 refine hB_opS (a := .agg (Enc.cells ((Trc.mk x2 x1.e) : Trc))) (a0 := (trcR (Trc.mk x2 x1.e) .none)) rfl rfl rfl rfl (by kernel_rfl) (strip_trcR _ _) (by dsimp only [aput, List.set]) ?_
 refine hB_new _ rfl rfl rfl rfl rfl rfl (by dsimp only [List.set]) ?_
 refine hB_doneF (n := 1) rfl (show _ = (⟨[(26, (Enc.cells (x1 : Trc))), (26, [.list 0 [] .full, .raw (.int .u8 0), .raw (.int .i64 0)])], [], [], 0, false⟩ : St) from rfl) (by dsimp only [List.nil_append, List.cons_append, pendS, List.set, Nat.reduceAdd]) ?_
 refine w_opm (σ'' := ⟨[(26, (Enc.cells (x1 : Trc))), (26, (Enc.cells ((Trc.mk x2 x1.e) : Trc)))], [], [], 0, false⟩) rfl rfl rfl (op_storeW (n := 3) rfl rfl rfl rfl rfl rfl rfl rfl (by decide)) (by dsimp only [aput, List.set]) rfl ?_
 refine bif_e h (fun hc1 h => ?_) (fun hc1 h => ?_)
 ·
  refine w_seq ?_
  refine w_drawB (id := 4) 9 (by kernel_rfl) (by kernel_rfl) ?_
  refine hB_op (a := .ptr 0 0) rfl rfl rfl rfl rfl (by dsimp only [aput, List.set]) ?_
  refine hB_op (a := .list (List.length (x1.l : List En)) (Enc.cellsL (x1.l : List En)) .none) rfl rfl rfl rfl rfl (by dsimp only [aput, List.set]) ?_
  refine hB_op (a := .raw (.int .i64 (Int.tmod cut ((List.length x1.l : Int) + 1)))) rfl rfl rfl rfl rfl (by dsimp only [aput, List.set]) ?_
  obtain ⟨g6, h⟩ := chk_e h
  refine hB_opS (a := .list (List.length ((sub x1.l (Int.tmod cut ((List.length x1.l : Int) + 1)) (List.length x1.l : Int)) : List En)) (Enc.cellsL ((sub x1.l (Int.tmod cut ((List.length x1.l : Int) + 1)) (List.length x1.l : Int)) : List En)) .none) rfl rfl rfl rfl (q_subL_ (α := En) (l := x1.l) g6 rfl rfl rfl rfl rfl) (strip_sub _ _ _) (by dsimp only [aput, List.set]) ?_
  obtain ⟨g7, h⟩ := chk_e h
  obtain ⟨x3, hx3, h⟩ := letE_e h
  refine hB_call (args' := [.list (List.length ((sub x1.l (Int.tmod cut ((List.length x1.l : Int) + 1)) (List.length x1.l : Int)) : List En)) (Enc.cellsL ((sub x1.l (Int.tmod cut ((List.length x1.l : Int) + 1)) (List.length x1.l : Int)) : List En)) .none]) (r := .list (List.length (x3 : List En)) (Enc.cellsL (x3 : List En)) .none) (by rw [← hx3]; exact (clone_pure (sub x1.l (Int.tmod cut ((List.length x1.l : Int) + 1)) (List.length x1.l : Int)) g7)) rfl rfl rfl rfl (stripL_cons (strip_l (Enc.cloL _)) rfl) (okTrimL_cons (okTrim_l (Enc.cloL _)) rfl) (by dsimp only [aput, List.set]) ?_
  refine hB_op (a := .ptr 0 1) rfl rfl rfl rfl rfl (by dsimp only [aput, List.set]) ?_
  refine hB_op (a := .agg (Enc.cells (x1.e : Ed))) rfl rfl rfl rfl rfl (by dsimp only [aput, List.set]) ?_
  refine hB_opS (a := .agg (Enc.cells ((Trc.mk x3 x1.e) : Trc))) (a0 := (trcR (Trc.mk x3 x1.e) .none)) rfl rfl rfl rfl (by kernel_rfl) (strip_trcR _ _) (by dsimp only [aput, List.set]) ?_
  refine hB_new _ rfl rfl rfl rfl rfl rfl (by dsimp only [List.set]) ?_
  refine hB_doneF (n := 2) rfl (show _ = (⟨[(26, (Enc.cells (x1 : Trc))), (26, (Enc.cells ((Trc.mk x2 x1.e) : Trc))), (26, [.list 0 [] .full, .raw (.int .u8 0), .raw (.int .i64 0)])], [], [], 0, false⟩ : St) from rfl) (by dsimp only [List.nil_append, List.cons_append, pendS, List.set, Nat.reduceAdd]) ?_
  refine w_opm (σ'' := ⟨[(26, (Enc.cells (x1 : Trc))), (26, (Enc.cells ((Trc.mk x2 x1.e) : Trc))), (26, (Enc.cells ((Trc.mk x3 x1.e) : Trc)))], [], [], 0, false⟩) rfl rfl rfl (op_storeW (n := 3) rfl rfl rfl rfl rfl rfl rfl rfl (by decide)) (by dsimp only [aput, List.set]) rfl ?_
  refine w_seq (w_region ?_)
  refine w_op (a := .agg (Enc.cells ((Trc.mk x2 x1.e) : Trc))) rfl rfl rfl rfl (by dsimp only [aput, List.set]) ?_
  obtain ⟨x4, hx4, h⟩ := bindE_e h
  refine w_callc (args' := [.agg (Enc.cells ((Trc.mk x2 x1.e) : Trc))]) (r := .raw (.int .i64 x4)) (at_sh fuel (Trc.mk x2 x1.e) x4 hx4) rfl rfl (stripL_cons (strip_c (clo_agg (Enc.clo _))) rfl) (okTrimL_cons (okTrim_clo _ _ (clo_agg (Enc.clo _))) rfl) (by dsimp only [aput, List.set]) ?_
  refine w_op (a := .raw (.int .i64 x4)) rfl rfl rfl rfl (by dsimp only [aput, List.set]) ?_
  refine w_cutF h [0, 1, 2, 3, 4, 5, 6, 7, 8, 10, 13, 14, 15, 16, 17, 18, 19, 20, 21, 22, 23, 24, 25, 26, 27, 28, 29, 30, 31, 32, 33, 34, 35, 36, 37, 38, 39, 40, 41, 42, 43, 44, 45, 46, 47, 48, 49, 50, 51, 52, 53, 54, 55, 56, 57, 58, 59, 60, 61, 62, 63, 64, 65, 66, 67, 68, 69, 70, 71, 72, 73, 74, 75, 76, 77, 78, 79, 80, 81, 82, 83, 84, 85, 86, 87, 88, 89, 90, 91, 92, 93, 94, 95, 96, 97, 98, 99, 100, 101, 102, 103, 104, 105, 106, 107, 108, 109, 110, 111, 112, 113, 114, 115, 116, 117, 118, 119, 120, 121, 122, 123, 124, 125, 126, 127, 128, 129, 130, 131, 132, 133, 134, 135, 136, 137, 138, 139, 140, 141, 142, 143, 144, 145, 146, 147, 148, 149, 150, 151, 152, 153, 154, 155, 156, 157] (fun j1 => []) (fun j1 => ⟨[(26, (Enc.cells (x1 : Trc))), (26, (Enc.cells ((Trc.mk x2 x1.e) : Trc))), (26, (Enc.cells ((Trc.mk x3 x1.e) : Trc)))], [], [], 0, false⟩) ?_ ?_
  ·
   intro or1 h hr1
   refine w_seq (w_region ?_)
   refine w_op (a := .ptr 2 0) rfl rfl rfl rfl (by dsimp only [aput, List.set]) ?_
   refine w_op (a := .list (List.length ((Trc.mk x3 x1.e).l : List En)) (Enc.cellsL ((Trc.mk x3 x1.e).l : List En)) .none) rfl rfl rfl rfl (by dsimp only [aput, List.set]) ?_
   refine w_op (a := .raw (.int .i64 (List.length ((Trc.mk x3 x1.e).l) : Int))) rfl rfl rfl rfl (by dsimp only [aput, List.set]) ?_
   refine w_op (a := .raw (.int .i64 0)) rfl rfl rfl rfl (by dsimp only [aput, List.set]) ?_
   refine w_block ?_
   refine w_loopF h [0, 1, 2, 3, 4, 5, 6, 7, 8, 10, 14, 15, 16, 17, 18, 19, 20, 21, 22, 23, 24, 25, 26, 27, 28, 29, 30, 31, 32, 33, 34, 35, 36, 37, 38, 39, 40, 41, 42, 43, 44, 45, 46, 47, 48, 49, 50, 51, 53, 54, 55, 56, 57, 58, 59, 60, 61, 62, 63, 64, 65, 66, 67, 68, 69, 70, 71, 72, 73, 74, 75, 76, 77, 78, 79, 80, 81, 82, 83, 84, 85, 86, 87, 88, 89, 90, 91, 92, 93, 94, 95, 96, 97, 98, 99, 100, 101, 102, 103, 104, 105, 106, 107, 108, 109, 110, 111, 112, 113, 114, 115, 116, 117, 118, 119, 120, 121, 122, 123, 124, 125, 126, 127, 128, 129, 130, 131, 132, 133, 134, 135, 136, 137, 138, 139, 140, 141, 142, 143, 144, 145, 146, 147, 148, 149, 150, 151, 152, 153, 154, 155, 156, 157] (fun s1 => [(53, .raw (.int .i64 s1))]) (fun s1 => ⟨[(26, (Enc.cells (x1 : Trc))), (26, (Enc.cells ((Trc.mk x2 x1.e) : Trc))), (26, (Enc.cells ((Trc.mk x3 x1.e) : Trc)))], [], [], 0, false⟩) ?_ ?_
   ·
    exact wm_of [false, false, false, false, false, false, false, false, false, true, false, true, true, true, false, false, false, false, false, false, false, false, false, false, false, false, false, false, false, false, false, false, false, false, false, false, false, false, false, false, false, false, false, false, false, false, false, false, false, false, false, false, true, true, false, false, false, false, false, false, false, false, false, false, false, false, false, false, false, false, false, false, false, false, false, false, false, false, false, false, false, false, false, false, false, false, false, false, false, false, false, false, false, false, false, false, false, false, false, false, false, false, false, false, false, false, false, false, false, false, false, false, false, false, false, false, false, false, false, false, false, false, false, false, false, false, false, false, false, false, false, false, false, false, false, false, false, false, false, false, false, false, false, false, false, false, false, false, false, false, false, false, false, false, false, false, false, false] (by kernel_rfl) (by kernel_rfl)
   ·
    intro s1 p1 h
    refine w_start (by dsimp only [setAll, topAll, List.foldl, List.set]) rfl ?_
    refine w_seq (w_region ?_)
    refine w_op (a := .raw (.bool (decide (s1 < (List.length ((Trc.mk x3 x1.e).l) : Int))))) rfl rfl rfl rfl (by dsimp only [aput, List.set]) ?_
    refine w_seq ?_
    refine bif_e h (fun hc2 h => ?_) (fun hc2 h => ?_)
    ·
     refine w_condT hc2 rfl ?_
     refine w_seq ?_
     refine w_block ?_
     refine w_seq (w_region ?_)
     refine w_op (a := .raw (.int .i64 s1)) rfl rfl rfl rfl (by dsimp only [aput, List.set]) ?_
     refine w_op (a := .raw (.int .i64 s1)) rfl rfl rfl rfl (by dsimp only [aput, List.set]) ?_
     refine w_seq (w_region ?_)
     refine w_op (a := .ptr 2 0) rfl rfl rfl rfl (by dsimp only [aput, List.set]) ?_
     refine w_op (a := .list (List.length ((Trc.mk x3 x1.e).l : List En)) (Enc.cellsL ((Trc.mk x3 x1.e).l : List En)) .none) rfl rfl rfl rfl (by dsimp only [aput, List.set]) ?_
     refine w_op (a := .raw (.int .i64 s1)) rfl rfl rfl rfl (by dsimp only [aput, List.set]) ?_
     obtain ⟨g8, h⟩ := chk_e h
     obtain ⟨x5, hx5, h⟩ := letE_e h
     refine w_op (a := .iptr (Enc.cells x5 ++ Enc.cellsL (List.drop (Int.toNat s1 + 1) ((Trc.mk x3 x1.e).l)))) rfl rfl rfl (op_q (by rw [← hx5]; exact (q_idx (α := En) (l := (Trc.mk x3 x1.e).l) g8 rfl rfl rfl rfl rfl))) (by dsimp only [aput, List.set]) ?_
     refine w_op (a := .iptr (List.drop 0 (Enc.cells x5 ++ Enc.cellsL (List.drop (Int.toNat s1 + 1) ((Trc.mk x3 x1.e).l))))) rfl rfl rfl rfl (by dsimp only [aput, List.set]) ?_
     refine w_op (a := .raw (.int .u8 x5.k)) rfl rfl rfl rfl (by dsimp only [aput, List.set]) ?_
     refine w_op (a := .raw (.bool (x5.k != 1))) rfl rfl rfl rfl (by dsimp only [aput, List.set]) ?_
     refine bif_e h (fun hc3 h => ?_) (fun hc3 h => ?_)
     ·
      refine w_condT hc3 rfl ?_
      refine w_seq (w_region ?_)
      refine w_op (a := .ptr 2 0) rfl rfl rfl rfl (by dsimp only [aput, List.set]) ?_
      refine w_op (a := .list (List.length ((Trc.mk x3 x1.e).l : List En)) (Enc.cellsL ((Trc.mk x3 x1.e).l : List En)) .none) rfl rfl rfl rfl (by dsimp only [aput, List.set]) ?_
      refine w_op (a := .raw (.int .i64 s1)) rfl rfl rfl rfl (by dsimp only [aput, List.set]) ?_
      obtain ⟨g9, h⟩ := chk_e h
      obtain ⟨x6, hx6, h⟩ := letE_e h
      refine w_op (a := .iptr (Enc.cells x6 ++ Enc.cellsL (List.drop (Int.toNat s1 + 1) ((Trc.mk x3 x1.e).l)))) rfl rfl rfl (op_q (by rw [← hx6]; exact (q_idx (α := En) (l := (Trc.mk x3 x1.e).l) g9 rfl rfl rfl rfl rfl))) (by dsimp only [aput, List.set]) ?_
      refine w_op (a := .iptr (List.drop 1 (Enc.cells x6 ++ Enc.cellsL (List.drop (Int.toNat s1 + 1) ((Trc.mk x3 x1.e).l))))) rfl rfl rfl rfl (by dsimp only [aput, List.set]) ?_
      refine w_op (a := .raw (.int .i64 x6.fr)) rfl rfl rfl rfl (by dsimp only [aput, List.set]) ?_
      refine w_op (a := .raw (.int .i64 x4)) rfl rfl rfl rfl (by dsimp only [aput, List.set]) ?_
      obtain ⟨g10, h⟩ := chk_e h
      refine w_op (a := .raw (.int .i64 (x6.fr - x4))) rfl rfl rfl (op_q (q_sub rfl rfl rfl rfl g10.1 g10.2)) (by dsimp only [aput, List.set]) ?_
      obtain ⟨g11, h⟩ := chk_e h
      obtain ⟨x7, hx7, h⟩ := letE_e h
      refine w_op (a := .iptr (Enc.cells x7 ++ Enc.cellsL (List.drop (Int.toNat s1 + 1) ((Trc.mk x3 x1.e).l)))) rfl rfl rfl (op_q (by rw [← hx7]; exact (q_idx (α := En) (l := (Trc.mk x3 x1.e).l) g11 rfl rfl rfl rfl rfl))) (by dsimp only [aput, List.set]) ?_
      refine w_op (a := .iptr (List.drop 1 (Enc.cells x7 ++ Enc.cellsL (List.drop (Int.toNat s1 + 1) ((Trc.mk x3 x1.e).l))))) rfl rfl rfl rfl (by dsimp only [aput, List.set]) ?_
      cases h
     ·
      refine w_condF hc3 rfl ?_
      refine w_region (k0 := 0) (id := 12) ?_
      obtain ⟨g12, h⟩ := chk_e h
      refine w_op (a := .raw (.int .i64 (s1 + 1))) rfl rfl rfl (op_q (q_add rfl rfl rfl rfl g12.1 g12.2)) (by dsimp only [aput, List.set]) ?_
      refine w_op (a := .raw (.int .i64 (s1 + 1))) rfl rfl rfl rfl (by dsimp only [aput, List.set]) ?_
      refine loop_next (p := p1) ((s1 + 1)) h ?_
      exact wm_of [false, false, false, false, false, false, false, false, false, true, false, true, true, true, false, false, false, false, false, false, false, false, false, false, false, false, false, false, false, false, false, false, false, false, false, false, false, false, false, false, false, false, false, false, false, false, false, false, false, false, false, false, true, true, false, false, false, false, false, false, false, false, false, false, false, false, false, false, false, false, false, false, false, false, false, false, false, false, false, false, false, false, false, false, false, false, false, false, false, false, false, false, false, false, false, false, false, false, false, false, false, false, false, false, false, false, false, false, false, false, false, false, false, false, false, false, false, false, false, false, false, false, false, false, false, false, false, false, false, false, false, false, false, false, false, false, false, false, false, false, false, false, false, false, false, false, false, false, false, false, false, false, false, false, false, false, false, false] (by kernel_rfl) (by kernel_rfl)
    ·
     refine w_condF hc2 rfl ?_
     refine loop_exit h (fun h => ?_)
     refine cut_done (o := or1) () h ?_
     exact wm_of [false, false, false, false, false, false, false, false, false, true, false, true, true, false, false, false, false, false, false, false, false, false, false, false, false, false, false, false, false, false, false, false, false, false, false, false, false, false, false, false, false, false, false, false, false, false, false, false, false, false, false, false, false, false, false, false, false, false, false, false, false, false, false, false, false, false, false, false, false, false, false, false, false, false, false, false, false, false, false, false, false, false, false, false, false, false, false, false, false, false, false, false, false, false, false, false, false, false, false, false, false, false, false, false, false, false, false, false, false, false, false, false, false, false, false, false, false, false, false, false, false, false, false, false, false, false, false, false, false, false, false, false, false, false, false, false, false, false, false, false, false, false, false, false, false, false, false, false, false, false, false, false, false, false, false, false, false, false] (by kernel_rfl) (by kernel_rfl)
  ·
   intro j1 h
   refine w_start (by dsimp only [setAll, topAll, List.foldl, List.set]) rfl ?_
   refine w_seq (w_region ?_)
   refine w_op (a := .agg (Enc.cells (x1 : Trc))) rfl rfl rfl rfl (by dsimp only [aput, List.set]) ?_
   obtain ⟨x8, hx8, h⟩ := bindE_e h
   refine w_callc (args' := [.agg (Enc.cells (x1 : Trc))]) (r := .tup [.raw (.int .i64 x8.1), .raw (.int .i64 x8.2)]) (check_sh fuel x1 x8 hx8) rfl rfl (stripL_cons (strip_c (clo_agg (Enc.clo _))) rfl) (okTrimL_cons (okTrim_clo _ _ (clo_agg (Enc.clo _))) rfl) (by dsimp only [aput, List.set]) ?_
   refine w_op (a := .tup [.raw (.int .i64 x8.1), .raw (.int .i64 x8.2)]) rfl rfl rfl rfl (by dsimp only [aput, List.set]) ?_
   refine w_op (a := .raw (.int .i64 x8.1)) rfl rfl rfl rfl (by dsimp only [aput, List.set]) ?_
   refine w_op (a := .raw (.int .i64 x8.2)) rfl rfl rfl rfl (by dsimp only [aput, List.set]) ?_
   refine w_op (a := .raw (.int .i64 x8.1)) rfl rfl rfl rfl (by dsimp only [aput, List.set]) ?_
   refine w_op (a := .raw (.int .i64 x8.2)) rfl rfl rfl rfl (by dsimp only [aput, List.set]) ?_
   refine w_seq (w_region ?_)
   refine w_op (a := .agg (Enc.cells ((Trc.mk x2 x1.e) : Trc))) rfl rfl rfl rfl (by dsimp only [aput, List.set]) ?_
   obtain ⟨x9, hx9, h⟩ := bindE_e h
   refine w_callc (args' := [.agg (Enc.cells ((Trc.mk x2 x1.e) : Trc))]) (r := .tup [.raw (.int .i64 x9.1), .raw (.int .i64 x9.2)]) (check_sh fuel (Trc.mk x2 x1.e) x9 hx9) rfl rfl (stripL_cons (strip_c (clo_agg (Enc.clo _))) rfl) (okTrimL_cons (okTrim_clo _ _ (clo_agg (Enc.clo _))) rfl) (by dsimp only [aput, List.set]) ?_
   refine w_op (a := .tup [.raw (.int .i64 x9.1), .raw (.int .i64 x9.2)]) rfl rfl rfl rfl (by dsimp only [aput, List.set]) ?_
   refine w_op (a := .raw (.int .i64 x9.1)) rfl rfl rfl rfl (by dsimp only [aput, List.set]) ?_
   refine w_op (a := .raw (.int .i64 x9.2)) rfl rfl rfl rfl (by dsimp only [aput, List.set]) ?_
   refine w_op (a := .raw (.int .i64 x9.1)) rfl rfl rfl rfl (by dsimp only [aput, List.set]) ?_
   refine w_op (a := .raw (.int .i64 x9.2)) rfl rfl rfl rfl (by dsimp only [aput, List.set]) ?_
   refine w_seq (w_region ?_)
   refine w_op (a := .agg (Enc.cells ((Trc.mk x3 x1.e) : Trc))) rfl rfl rfl rfl (by dsimp only [aput, List.set]) ?_
   obtain ⟨x10, hx10, h⟩ := bindE_e h
   refine w_callc (args' := [.agg (Enc.cells ((Trc.mk x3 x1.e) : Trc))]) (r := .tup [.raw (.int .i64 x10.1), .raw (.int .i64 x10.2)]) (check_sh fuel (Trc.mk x3 x1.e) x10 hx10) rfl rfl (stripL_cons (strip_c (clo_agg (Enc.clo _))) rfl) (okTrimL_cons (okTrim_clo _ _ (clo_agg (Enc.clo _))) rfl) (by dsimp only [aput, List.set]) ?_
   refine w_op (a := .tup [.raw (.int .i64 x10.1), .raw (.int .i64 x10.2)]) rfl rfl rfl rfl (by dsimp only [aput, List.set]) ?_
   refine w_op (a := .raw (.int .i64 x10.1)) rfl rfl rfl rfl (by dsimp only [aput, List.set]) ?_
   refine w_op (a := .raw (.int .i64 x10.2)) rfl rfl rfl rfl (by dsimp only [aput, List.set]) ?_
   refine w_op (a := .raw (.int .i64 x10.1)) rfl rfl rfl rfl (by dsimp only [aput, List.set]) ?_
   refine w_op (a := .raw (.int .i64 x10.2)) rfl rfl rfl rfl (by dsimp only [aput, List.set]) ?_
   refine w_seq ?_
   refine w_draw (id := 16) 52 (by kernel_rfl) (by kernel_rfl) ?_
   refine h_op (a := .raw (.int .i64 x8.2)) rfl rfl rfl rfl (by dsimp only [aput, List.set]) ?_
   refine h_op (a := .raw (.int .i64 x9.2)) rfl rfl rfl rfl (by dsimp only [aput, List.set]) ?_
   obtain ⟨g13, h⟩ := chk_e h
   refine h_op (a := .raw (.int .i64 (x8.2 + x9.2))) rfl rfl rfl (q_add rfl rfl rfl rfl g13.1 g13.2) (by dsimp only [aput, List.set]) ?_
   refine h_op (a := .raw (.int .i64 x10.2)) rfl rfl rfl rfl (by dsimp only [aput, List.set]) ?_
   obtain ⟨g14, h⟩ := chk_e h
   refine h_op (a := .raw (.int .i64 ((x8.2 + x9.2) + x10.2))) rfl rfl rfl (q_add rfl rfl rfl rfl g14.1 g14.2) (by dsimp only [aput, List.set]) ?_
   refine h_op (a := .raw (.bool (((x8.2 + x9.2) + x10.2) == 0))) rfl rfl rfl rfl (by dsimp only [aput, List.set]) ?_
   refine bif_e h (fun hc4 h => ?_) (fun hc4 h => ?_)
   ·
    refine h_op (a := .raw (.bool true)) rfl rfl rfl (q_bool rfl hc4) (by dsimp only [aput, List.set]) ?_
    refine h_met rfl rfl ?_
    refine h_op (a := .agg (Enc.cells (x1 : Trc))) rfl rfl rfl rfl (by dsimp only [aput, List.set]) ?_
    refine h_met rfl rfl ?_
    obtain ⟨x11, hx11, h⟩ := bindE_e h
    refine h_call (args' := [.agg (Enc.cells (x1 : Trc))]) (r := .raw (.int .i64 x11)) (taken_sh fuel x1 x11 hx11) rfl rfl rfl (stripL_cons (strip_c (clo_agg (Enc.clo _))) rfl) (okTrimL_cons (okTrim_clo _ _ (clo_agg (Enc.clo _))) rfl) (by dsimp only [aput, List.set]) ?_
    refine h_met rfl rfl ?_
    refine h_op (a := .agg (Enc.cells (x1 : Trc))) rfl rfl rfl rfl (by dsimp only [aput, List.set]) ?_
    refine h_met rfl rfl ?_
    obtain ⟨x12, hx12, h⟩ := bindE_e h
    refine h_call (args' := [.agg (Enc.cells (x1 : Trc))]) (r := .raw (.int .i64 x12)) (lost_sh fuel x1 x12 hx12) rfl rfl rfl (stripL_cons (strip_c (clo_agg (Enc.clo _))) rfl) (okTrimL_cons (okTrim_clo _ _ (clo_agg (Enc.clo _))) rfl) (by dsimp only [aput, List.set]) ?_
    refine h_met rfl rfl ?_
    obtain ⟨g15, h⟩ := chk_e h
    refine h_op (a := .raw (.int .i64 (x11 + x12))) rfl rfl rfl (q_add rfl rfl rfl rfl g15.1 g15.2) (by dsimp only [aput, List.set]) ?_
    refine h_met rfl rfl ?_
    refine h_op (a := .agg (Enc.cells (x1 : Trc))) rfl rfl rfl rfl (by dsimp only [aput, List.set]) ?_
    refine h_met rfl rfl ?_
    obtain ⟨x13, hx13, h⟩ := bindE_e h
    refine h_call (args' := [.agg (Enc.cells (x1 : Trc))]) (r := .raw (.int .i64 x13)) (at_sh fuel x1 x13 hx13) rfl rfl rfl (stripL_cons (strip_c (clo_agg (Enc.clo _))) rfl) (okTrimL_cons (okTrim_clo _ _ (clo_agg (Enc.clo _))) rfl) (by dsimp only [aput, List.set]) ?_
    refine h_met rfl rfl ?_
    refine h_op (a := .raw (.bool ((x11 + x12) == x13))) rfl rfl rfl rfl (by dsimp only [aput, List.set]) ?_
    refine h_op (a := .raw (.bool ((x11 + x12) == x13))) rfl rfl rfl rfl (by dsimp only [aput, List.set]) ?_
    refine bif_e h (fun hc5 h => ?_) (fun hc5 h => ?_)
    ·
     refine h_op (a := .raw (.bool true)) rfl rfl rfl (q_bool rfl hc5) (by dsimp only [aput, List.set]) ?_
     refine h_met rfl rfl ?_
     refine h_op (a := .agg (Enc.cells (x1 : Trc))) rfl rfl rfl rfl (by dsimp only [aput, List.set]) ?_
     refine h_met rfl rfl ?_
     obtain ⟨x14, hx14, h⟩ := bindE_e h
     refine h_call (args' := [.agg (Enc.cells (x1 : Trc))]) (r := .raw (.int .i64 x14)) (at_sh fuel x1 x14 hx14) rfl rfl rfl (stripL_cons (strip_c (clo_agg (Enc.clo _))) rfl) (okTrimL_cons (okTrim_clo _ _ (clo_agg (Enc.clo _))) rfl) (by dsimp only [aput, List.set]) ?_
     refine h_met rfl rfl ?_
     refine h_op (a := .agg (Enc.cells ((Trc.mk x2 x1.e) : Trc))) rfl rfl rfl rfl (by dsimp only [aput, List.set]) ?_
     refine h_met rfl rfl ?_
     obtain ⟨x15, hx15, h⟩ := bindE_e h
     refine h_call (args' := [.agg (Enc.cells ((Trc.mk x2 x1.e) : Trc))]) (r := .raw (.int .i64 x15)) (at_sh fuel (Trc.mk x2 x1.e) x15 hx15) rfl rfl rfl (stripL_cons (strip_c (clo_agg (Enc.clo _))) rfl) (okTrimL_cons (okTrim_clo _ _ (clo_agg (Enc.clo _))) rfl) (by dsimp only [aput, List.set]) ?_
     refine h_met rfl rfl ?_
     refine h_op (a := .agg (Enc.cells ((Trc.mk x3 x1.e) : Trc))) rfl rfl rfl rfl (by dsimp only [aput, List.set]) ?_
     refine h_met rfl rfl ?_
     obtain ⟨x16, hx16, h⟩ := bindE_e h
     refine h_call (args' := [.agg (Enc.cells ((Trc.mk x3 x1.e) : Trc))]) (r := .raw (.int .i64 x16)) (at_sh fuel (Trc.mk x3 x1.e) x16 hx16) rfl rfl rfl (stripL_cons (strip_c (clo_agg (Enc.clo _))) rfl) (okTrimL_cons (okTrim_clo _ _ (clo_agg (Enc.clo _))) rfl) (by dsimp only [aput, List.set]) ?_
     refine h_met rfl rfl ?_
     obtain ⟨g16, h⟩ := chk_e h
     refine h_op (a := .raw (.int .i64 (x15 + x16))) rfl rfl rfl (q_add rfl rfl rfl rfl g16.1 g16.2) (by dsimp only [aput, List.set]) ?_
     refine h_met rfl rfl ?_
     refine h_op (a := .raw (.bool (x14 == (x15 + x16)))) rfl rfl rfl rfl (by dsimp only [aput, List.set]) ?_
     refine h_op (a := .raw (.bool (x14 == (x15 + x16)))) rfl rfl rfl rfl (by dsimp only [aput, List.set]) ?_
     refine bif_e h (fun hc6 h => ?_) (fun hc6 h => ?_)
     ·
      refine h_op (a := .raw (.bool true)) rfl rfl rfl (q_bool rfl hc6) (by dsimp only [aput, List.set]) ?_
      refine h_met rfl rfl ?_
      refine h_op (a := .agg (Enc.cells (x1 : Trc))) rfl rfl rfl rfl (by dsimp only [aput, List.set]) ?_
      refine h_met rfl rfl ?_
      obtain ⟨x17, hx17, h⟩ := bindE_e h
      refine h_call (args' := [.agg (Enc.cells (x1 : Trc))]) (r := .raw (.int .i64 x17)) (taken_sh fuel x1 x17 hx17) rfl rfl rfl (stripL_cons (strip_c (clo_agg (Enc.clo _))) rfl) (okTrimL_cons (okTrim_clo _ _ (clo_agg (Enc.clo _))) rfl) (by dsimp only [aput, List.set]) ?_
      refine h_met rfl rfl ?_
      refine h_op (a := .agg (Enc.cells ((Trc.mk x2 x1.e) : Trc))) rfl rfl rfl rfl (by dsimp only [aput, List.set]) ?_
      refine h_met rfl rfl ?_
      obtain ⟨x18, hx18, h⟩ := bindE_e h
      refine h_call (args' := [.agg (Enc.cells ((Trc.mk x2 x1.e) : Trc))]) (r := .raw (.int .i64 x18)) (taken_sh fuel (Trc.mk x2 x1.e) x18 hx18) rfl rfl rfl (stripL_cons (strip_c (clo_agg (Enc.clo _))) rfl) (okTrimL_cons (okTrim_clo _ _ (clo_agg (Enc.clo _))) rfl) (by dsimp only [aput, List.set]) ?_
      refine h_met rfl rfl ?_
      refine h_op (a := .agg (Enc.cells ((Trc.mk x3 x1.e) : Trc))) rfl rfl rfl rfl (by dsimp only [aput, List.set]) ?_
      refine h_met rfl rfl ?_
      obtain ⟨x19, hx19, h⟩ := bindE_e h
      refine h_call (args' := [.agg (Enc.cells ((Trc.mk x3 x1.e) : Trc))]) (r := .raw (.int .i64 x19)) (taken_sh fuel (Trc.mk x3 x1.e) x19 hx19) rfl rfl rfl (stripL_cons (strip_c (clo_agg (Enc.clo _))) rfl) (okTrimL_cons (okTrim_clo _ _ (clo_agg (Enc.clo _))) rfl) (by dsimp only [aput, List.set]) ?_
      refine h_met rfl rfl ?_
      obtain ⟨g17, h⟩ := chk_e h
      refine h_op (a := .raw (.int .i64 (x18 + x19))) rfl rfl rfl (q_add rfl rfl rfl rfl g17.1 g17.2) (by dsimp only [aput, List.set]) ?_
      refine h_met rfl rfl ?_
      refine h_op (a := .raw (.bool (x17 == (x18 + x19)))) rfl rfl rfl rfl (by dsimp only [aput, List.set]) ?_
      refine h_op (a := .raw (.bool (x17 == (x18 + x19)))) rfl rfl rfl rfl (by dsimp only [aput, List.set]) ?_
      refine bif_e h (fun hc7 h => ?_) (fun hc7 h => ?_)
      ·
       refine h_op (a := .raw (.bool true)) rfl rfl rfl (q_bool rfl hc7) (by dsimp only [aput, List.set]) ?_
       refine h_met rfl rfl ?_
       refine h_op (a := .agg (Enc.cells (x1 : Trc))) rfl rfl rfl rfl (by dsimp only [aput, List.set]) ?_
       refine h_met rfl rfl ?_
       obtain ⟨x20, hx20, h⟩ := bindE_e h
       refine h_call (args' := [.agg (Enc.cells (x1 : Trc))]) (r := .raw (.int .i64 x20)) (lost_sh fuel x1 x20 hx20) rfl rfl rfl (stripL_cons (strip_c (clo_agg (Enc.clo _))) rfl) (okTrimL_cons (okTrim_clo _ _ (clo_agg (Enc.clo _))) rfl) (by dsimp only [aput, List.set]) ?_
       refine h_met rfl rfl ?_
       refine h_op (a := .agg (Enc.cells ((Trc.mk x2 x1.e) : Trc))) rfl rfl rfl rfl (by dsimp only [aput, List.set]) ?_
       refine h_met rfl rfl ?_
       obtain ⟨x21, hx21, h⟩ := bindE_e h
       refine h_call (args' := [.agg (Enc.cells ((Trc.mk x2 x1.e) : Trc))]) (r := .raw (.int .i64 x21)) (lost_sh fuel (Trc.mk x2 x1.e) x21 hx21) rfl rfl rfl (stripL_cons (strip_c (clo_agg (Enc.clo _))) rfl) (okTrimL_cons (okTrim_clo _ _ (clo_agg (Enc.clo _))) rfl) (by dsimp only [aput, List.set]) ?_
       refine h_met rfl rfl ?_
       refine h_op (a := .agg (Enc.cells ((Trc.mk x3 x1.e) : Trc))) rfl rfl rfl rfl (by dsimp only [aput, List.set]) ?_
       refine h_met rfl rfl ?_
       obtain ⟨x22, hx22, h⟩ := bindE_e h
       refine h_call (args' := [.agg (Enc.cells ((Trc.mk x3 x1.e) : Trc))]) (r := .raw (.int .i64 x22)) (lost_sh fuel (Trc.mk x3 x1.e) x22 hx22) rfl rfl rfl (stripL_cons (strip_c (clo_agg (Enc.clo _))) rfl) (okTrimL_cons (okTrim_clo _ _ (clo_agg (Enc.clo _))) rfl) (by dsimp only [aput, List.set]) ?_
       refine h_met rfl rfl ?_
       obtain ⟨g18, h⟩ := chk_e h
       refine h_op (a := .raw (.int .i64 (x21 + x22))) rfl rfl rfl (q_add rfl rfl rfl rfl g18.1 g18.2) (by dsimp only [aput, List.set]) ?_
       refine h_met rfl rfl ?_
       refine h_op (a := .raw (.bool (x20 == (x21 + x22)))) rfl rfl rfl rfl (by dsimp only [aput, List.set]) ?_
       refine h_op (a := .raw (.bool (x20 == (x21 + x22)))) rfl rfl rfl rfl (by dsimp only [aput, List.set]) ?_
       refine bif_e h (fun hc8 h => ?_) (fun hc8 h => ?_)
       ·
        refine h_op (a := .raw (.bool true)) rfl rfl rfl (q_bool rfl hc8) (by dsimp only [aput, List.set]) ?_
        refine h_met rfl rfl ?_
        refine h_op (a := .agg (Enc.cells (x1 : Trc))) rfl rfl rfl rfl (by dsimp only [aput, List.set]) ?_
        refine h_met rfl rfl ?_
        obtain ⟨x23, hx23, h⟩ := bindE_e h
        refine h_call (args' := [.agg (Enc.cells (x1 : Trc))]) (r := .raw (.string (bs x23))) (sent_sh fuel x1 x23 hx23) rfl rfl rfl (stripL_cons (strip_c (clo_agg (Enc.clo _))) rfl) (okTrimL_cons (okTrim_clo _ _ (clo_agg (Enc.clo _))) rfl) (by dsimp only [aput, List.set]) ?_
        refine h_met rfl rfl ?_
        refine h_op (a := .agg (Enc.cells ((Trc.mk x2 x1.e) : Trc))) rfl rfl rfl rfl (by dsimp only [aput, List.set]) ?_
        refine h_met rfl rfl ?_
        obtain ⟨x24, hx24, h⟩ := bindE_e h
        refine h_call (args' := [.agg (Enc.cells ((Trc.mk x2 x1.e) : Trc))]) (r := .raw (.string (bs x24))) (sent_sh fuel (Trc.mk x2 x1.e) x24 hx24) rfl rfl rfl (stripL_cons (strip_c (clo_agg (Enc.clo _))) rfl) (okTrimL_cons (okTrim_clo _ _ (clo_agg (Enc.clo _))) rfl) (by dsimp only [aput, List.set]) ?_
        refine h_met rfl rfl ?_
        refine h_op (a := .agg (Enc.cells ((Trc.mk x3 x1.e) : Trc))) rfl rfl rfl rfl (by dsimp only [aput, List.set]) ?_
        refine h_end ?_
        refine w_met rfl rfl ?_
        obtain ⟨x25, hx25, h⟩ := bindE_e h
        refine w_callc (args' := [.agg (Enc.cells ((Trc.mk x3 x1.e) : Trc))]) (r := .raw (.string (bs x25))) (sent_sh fuel (Trc.mk x3 x1.e) x25 hx25) rfl rfl (stripL_cons (strip_c (clo_agg (Enc.clo _))) rfl) (okTrimL_cons (okTrim_clo _ _ (clo_agg (Enc.clo _))) rfl) (by dsimp only [aput, List.set]) ?_
        refine w_met rfl rfl ?_
        obtain ⟨g19, h⟩ := chk_e h
        refine w_op (a := .raw (.string (bs (x24 ++ x25)))) rfl rfl rfl (op_q (q_stradd g19 rfl rfl rfl)) (by dsimp only [aput, List.set]) ?_
        refine w_met rfl rfl ?_
        refine w_op (a := .raw (.bool (x23 == (x24 ++ x25)))) rfl rfl rfl (op_q (q_streq rfl rfl rfl)) (by dsimp only [aput, List.set]) ?_
        refine w_op (a := .raw (.bool (x23 == (x24 ++ x25)))) rfl rfl rfl rfl (by dsimp only [aput, List.set]) ?_
        refine bif_e h (fun hc9 h => ?_) (fun hc9 h => ?_)
        ·
         refine w_op (a := .raw (.bool true)) rfl rfl rfl (op_q (q_bool rfl hc9)) (by dsimp only [aput, List.set]) ?_
         refine w_met rfl rfl ?_
         refine w_callc (args' := []) (r := .raw (.bool true)) awake_pure rfl rfl rfl rfl (by dsimp only [aput, List.set]) ?_
         refine w_op (a := .raw (.bool true)) rfl rfl rfl rfl (by dsimp only [aput, List.set]) ?_
         refine w_op (a := .raw (.bool true)) rfl rfl rfl rfl (by dsimp only [aput, List.set]) ?_
         exact end_pureF (fun (r : Bool) => (.raw (.bool r) : AV)) h (a := .raw (.bool true)) rfl rfl rfl
        ·
         refine w_op (a := .raw (.bool false)) rfl rfl rfl (op_q (q_bool rfl hc9)) (by dsimp only [aput, List.set]) ?_
         refine w_pass rfl rfl (by decide) (by dsimp only [aput, List.set]) ?_
         refine w_op (a := .raw (.bool false)) rfl rfl rfl rfl (by dsimp only [aput, List.set]) ?_
         refine w_op (a := .raw (.bool false)) rfl rfl rfl rfl (by dsimp only [aput, List.set]) ?_
         exact end_pureF (fun (r : Bool) => (.raw (.bool r) : AV)) h (a := .raw (.bool false)) rfl rfl rfl
       ·
        refine h_op (a := .raw (.bool false)) rfl rfl rfl (q_bool rfl hc8) (by dsimp only [aput, List.set]) ?_
        refine h_pass rfl rfl rfl (by decide) (by dsimp only [aput, List.set]) ?_
        refine h_pass rfl rfl rfl (by decide) (by dsimp only [aput, List.set]) ?_
        refine h_pass rfl rfl rfl (by decide) (by dsimp only [aput, List.set]) ?_
        refine h_pass rfl rfl rfl (by decide) (by dsimp only [aput, List.set]) ?_
        refine h_pass rfl rfl rfl (by decide) (by dsimp only [aput, List.set]) ?_
        refine h_end ?_
        refine w_pass rfl rfl (by decide) (by dsimp only [aput, List.set]) ?_
        refine w_pass rfl rfl (by decide) (by dsimp only [aput, List.set]) ?_
        refine w_pass rfl rfl (by decide) (by dsimp only [aput, List.set]) ?_
        refine w_op (a := .raw (.bool false)) rfl rfl rfl rfl (by dsimp only [aput, List.set]) ?_
        refine w_op (a := .raw (.bool false)) rfl rfl rfl rfl (by dsimp only [aput, List.set]) ?_
        refine w_pass rfl rfl (by decide) (by dsimp only [aput, List.set]) ?_
        refine w_op (a := .raw (.bool false)) rfl rfl rfl rfl (by dsimp only [aput, List.set]) ?_
        refine w_op (a := .raw (.bool false)) rfl rfl rfl rfl (by dsimp only [aput, List.set]) ?_
        exact end_pureF (fun (r : Bool) => (.raw (.bool r) : AV)) h (a := .raw (.bool false)) rfl rfl rfl
      ·
       refine h_op (a := .raw (.bool false)) rfl rfl rfl (q_bool rfl hc7) (by dsimp only [aput, List.set]) ?_
       refine h_pass rfl rfl rfl (by decide) (by dsimp only [aput, List.set]) ?_
       refine h_pass rfl rfl rfl (by decide) (by dsimp only [aput, List.set]) ?_
       refine h_pass rfl rfl rfl (by decide) (by dsimp only [aput, List.set]) ?_
       refine h_pass rfl rfl rfl (by decide) (by dsimp only [aput, List.set]) ?_
       refine h_pass rfl rfl rfl (by decide) (by dsimp only [aput, List.set]) ?_
       refine h_pass rfl rfl rfl (by decide) (by dsimp only [aput, List.set]) ?_
       refine h_pass rfl rfl rfl (by decide) (by dsimp only [aput, List.set]) ?_
       refine h_pass rfl rfl rfl (by decide) (by dsimp only [aput, List.set]) ?_
       refine h_op (a := .raw (.bool false)) rfl rfl rfl rfl (by dsimp only [aput, List.set]) ?_
       refine h_op (a := .raw (.bool false)) rfl rfl rfl rfl (by dsimp only [aput, List.set]) ?_
       refine h_pass rfl rfl rfl (by decide) (by dsimp only [aput, List.set]) ?_
       refine h_pass rfl rfl rfl (by decide) (by dsimp only [aput, List.set]) ?_
       refine h_pass rfl rfl rfl (by decide) (by dsimp only [aput, List.set]) ?_
       refine h_pass rfl rfl rfl (by decide) (by dsimp only [aput, List.set]) ?_
       refine h_pass rfl rfl rfl (by decide) (by dsimp only [aput, List.set]) ?_
       refine h_end ?_
       refine w_pass rfl rfl (by decide) (by dsimp only [aput, List.set]) ?_
       refine w_pass rfl rfl (by decide) (by dsimp only [aput, List.set]) ?_
       refine w_pass rfl rfl (by decide) (by dsimp only [aput, List.set]) ?_
       refine w_op (a := .raw (.bool false)) rfl rfl rfl rfl (by dsimp only [aput, List.set]) ?_
       refine w_op (a := .raw (.bool false)) rfl rfl rfl rfl (by dsimp only [aput, List.set]) ?_
       refine w_pass rfl rfl (by decide) (by dsimp only [aput, List.set]) ?_
       refine w_op (a := .raw (.bool false)) rfl rfl rfl rfl (by dsimp only [aput, List.set]) ?_
       refine w_op (a := .raw (.bool false)) rfl rfl rfl rfl (by dsimp only [aput, List.set]) ?_
       exact end_pureF (fun (r : Bool) => (.raw (.bool r) : AV)) h (a := .raw (.bool false)) rfl rfl rfl
     ·
      refine h_op (a := .raw (.bool false)) rfl rfl rfl (q_bool rfl hc6) (by dsimp only [aput, List.set]) ?_
      refine h_pass rfl rfl rfl (by decide) (by dsimp only [aput, List.set]) ?_
      refine h_pass rfl rfl rfl (by decide) (by dsimp only [aput, List.set]) ?_
      refine h_pass rfl rfl rfl (by decide) (by dsimp only [aput, List.set]) ?_
      refine h_pass rfl rfl rfl (by decide) (by dsimp only [aput, List.set]) ?_
      refine h_pass rfl rfl rfl (by decide) (by dsimp only [aput, List.set]) ?_
      refine h_pass rfl rfl rfl (by decide) (by dsimp only [aput, List.set]) ?_
      refine h_pass rfl rfl rfl (by decide) (by dsimp only [aput, List.set]) ?_
      refine h_pass rfl rfl rfl (by decide) (by dsimp only [aput, List.set]) ?_
      refine h_op (a := .raw (.bool false)) rfl rfl rfl rfl (by dsimp only [aput, List.set]) ?_
      refine h_op (a := .raw (.bool false)) rfl rfl rfl rfl (by dsimp only [aput, List.set]) ?_
      refine h_pass rfl rfl rfl (by decide) (by dsimp only [aput, List.set]) ?_
      refine h_pass rfl rfl rfl (by decide) (by dsimp only [aput, List.set]) ?_
      refine h_pass rfl rfl rfl (by decide) (by dsimp only [aput, List.set]) ?_
      refine h_pass rfl rfl rfl (by decide) (by dsimp only [aput, List.set]) ?_
      refine h_pass rfl rfl rfl (by decide) (by dsimp only [aput, List.set]) ?_
      refine h_pass rfl rfl rfl (by decide) (by dsimp only [aput, List.set]) ?_
      refine h_pass rfl rfl rfl (by decide) (by dsimp only [aput, List.set]) ?_
      refine h_pass rfl rfl rfl (by decide) (by dsimp only [aput, List.set]) ?_
      refine h_op (a := .raw (.bool false)) rfl rfl rfl rfl (by dsimp only [aput, List.set]) ?_
      refine h_op (a := .raw (.bool false)) rfl rfl rfl rfl (by dsimp only [aput, List.set]) ?_
      refine h_pass rfl rfl rfl (by decide) (by dsimp only [aput, List.set]) ?_
      refine h_pass rfl rfl rfl (by decide) (by dsimp only [aput, List.set]) ?_
      refine h_pass rfl rfl rfl (by decide) (by dsimp only [aput, List.set]) ?_
      refine h_pass rfl rfl rfl (by decide) (by dsimp only [aput, List.set]) ?_
      refine h_pass rfl rfl rfl (by decide) (by dsimp only [aput, List.set]) ?_
      refine h_end ?_
      refine w_pass rfl rfl (by decide) (by dsimp only [aput, List.set]) ?_
      refine w_pass rfl rfl (by decide) (by dsimp only [aput, List.set]) ?_
      refine w_pass rfl rfl (by decide) (by dsimp only [aput, List.set]) ?_
      refine w_op (a := .raw (.bool false)) rfl rfl rfl rfl (by dsimp only [aput, List.set]) ?_
      refine w_op (a := .raw (.bool false)) rfl rfl rfl rfl (by dsimp only [aput, List.set]) ?_
      refine w_pass rfl rfl (by decide) (by dsimp only [aput, List.set]) ?_
      refine w_op (a := .raw (.bool false)) rfl rfl rfl rfl (by dsimp only [aput, List.set]) ?_
      refine w_op (a := .raw (.bool false)) rfl rfl rfl rfl (by dsimp only [aput, List.set]) ?_
      exact end_pureF (fun (r : Bool) => (.raw (.bool r) : AV)) h (a := .raw (.bool false)) rfl rfl rfl
    ·
     refine h_op (a := .raw (.bool false)) rfl rfl rfl (q_bool rfl hc5) (by dsimp only [aput, List.set]) ?_
     refine h_pass rfl rfl rfl (by decide) (by dsimp only [aput, List.set]) ?_
     refine h_pass rfl rfl rfl (by decide) (by dsimp only [aput, List.set]) ?_
     refine h_pass rfl rfl rfl (by decide) (by dsimp only [aput, List.set]) ?_
     refine h_pass rfl rfl rfl (by decide) (by dsimp only [aput, List.set]) ?_
     refine h_pass rfl rfl rfl (by decide) (by dsimp only [aput, List.set]) ?_
     refine h_pass rfl rfl rfl (by decide) (by dsimp only [aput, List.set]) ?_
     refine h_pass rfl rfl rfl (by decide) (by dsimp only [aput, List.set]) ?_
     refine h_pass rfl rfl rfl (by decide) (by dsimp only [aput, List.set]) ?_
     refine h_op (a := .raw (.bool false)) rfl rfl rfl rfl (by dsimp only [aput, List.set]) ?_
     refine h_op (a := .raw (.bool false)) rfl rfl rfl rfl (by dsimp only [aput, List.set]) ?_
     refine h_pass rfl rfl rfl (by decide) (by dsimp only [aput, List.set]) ?_
     refine h_pass rfl rfl rfl (by decide) (by dsimp only [aput, List.set]) ?_
     refine h_pass rfl rfl rfl (by decide) (by dsimp only [aput, List.set]) ?_
     refine h_pass rfl rfl rfl (by decide) (by dsimp only [aput, List.set]) ?_
     refine h_pass rfl rfl rfl (by decide) (by dsimp only [aput, List.set]) ?_
     refine h_pass rfl rfl rfl (by decide) (by dsimp only [aput, List.set]) ?_
     refine h_pass rfl rfl rfl (by decide) (by dsimp only [aput, List.set]) ?_
     refine h_pass rfl rfl rfl (by decide) (by dsimp only [aput, List.set]) ?_
     refine h_op (a := .raw (.bool false)) rfl rfl rfl rfl (by dsimp only [aput, List.set]) ?_
     refine h_op (a := .raw (.bool false)) rfl rfl rfl rfl (by dsimp only [aput, List.set]) ?_
     refine h_pass rfl rfl rfl (by decide) (by dsimp only [aput, List.set]) ?_
     refine h_pass rfl rfl rfl (by decide) (by dsimp only [aput, List.set]) ?_
     refine h_pass rfl rfl rfl (by decide) (by dsimp only [aput, List.set]) ?_
     refine h_pass rfl rfl rfl (by decide) (by dsimp only [aput, List.set]) ?_
     refine h_pass rfl rfl rfl (by decide) (by dsimp only [aput, List.set]) ?_
     refine h_pass rfl rfl rfl (by decide) (by dsimp only [aput, List.set]) ?_
     refine h_pass rfl rfl rfl (by decide) (by dsimp only [aput, List.set]) ?_
     refine h_pass rfl rfl rfl (by decide) (by dsimp only [aput, List.set]) ?_
     refine h_op (a := .raw (.bool false)) rfl rfl rfl rfl (by dsimp only [aput, List.set]) ?_
     refine h_op (a := .raw (.bool false)) rfl rfl rfl rfl (by dsimp only [aput, List.set]) ?_
     refine h_pass rfl rfl rfl (by decide) (by dsimp only [aput, List.set]) ?_
     refine h_pass rfl rfl rfl (by decide) (by dsimp only [aput, List.set]) ?_
     refine h_pass rfl rfl rfl (by decide) (by dsimp only [aput, List.set]) ?_
     refine h_pass rfl rfl rfl (by decide) (by dsimp only [aput, List.set]) ?_
     refine h_pass rfl rfl rfl (by decide) (by dsimp only [aput, List.set]) ?_
     refine h_end ?_
     refine w_pass rfl rfl (by decide) (by dsimp only [aput, List.set]) ?_
     refine w_pass rfl rfl (by decide) (by dsimp only [aput, List.set]) ?_
     refine w_pass rfl rfl (by decide) (by dsimp only [aput, List.set]) ?_
     refine w_op (a := .raw (.bool false)) rfl rfl rfl rfl (by dsimp only [aput, List.set]) ?_
     refine w_op (a := .raw (.bool false)) rfl rfl rfl rfl (by dsimp only [aput, List.set]) ?_
     refine w_pass rfl rfl (by decide) (by dsimp only [aput, List.set]) ?_
     refine w_op (a := .raw (.bool false)) rfl rfl rfl rfl (by dsimp only [aput, List.set]) ?_
     refine w_op (a := .raw (.bool false)) rfl rfl rfl rfl (by dsimp only [aput, List.set]) ?_
     exact end_pureF (fun (r : Bool) => (.raw (.bool r) : AV)) h (a := .raw (.bool false)) rfl rfl rfl
   ·
    refine h_op (a := .raw (.bool false)) rfl rfl rfl (q_bool rfl hc4) (by dsimp only [aput, List.set]) ?_
    refine h_pass rfl rfl rfl (by decide) (by dsimp only [aput, List.set]) ?_
    refine h_pass rfl rfl rfl (by decide) (by dsimp only [aput, List.set]) ?_
    refine h_pass rfl rfl rfl (by decide) (by dsimp only [aput, List.set]) ?_
    refine h_pass rfl rfl rfl (by decide) (by dsimp only [aput, List.set]) ?_
    refine h_pass rfl rfl rfl (by decide) (by dsimp only [aput, List.set]) ?_
    refine h_pass rfl rfl rfl (by decide) (by dsimp only [aput, List.set]) ?_
    refine h_pass rfl rfl rfl (by decide) (by dsimp only [aput, List.set]) ?_
    refine h_pass rfl rfl rfl (by decide) (by dsimp only [aput, List.set]) ?_
    refine h_op (a := .raw (.bool false)) rfl rfl rfl rfl (by dsimp only [aput, List.set]) ?_
    refine h_op (a := .raw (.bool false)) rfl rfl rfl rfl (by dsimp only [aput, List.set]) ?_
    refine h_pass rfl rfl rfl (by decide) (by dsimp only [aput, List.set]) ?_
    refine h_pass rfl rfl rfl (by decide) (by dsimp only [aput, List.set]) ?_
    refine h_pass rfl rfl rfl (by decide) (by dsimp only [aput, List.set]) ?_
    refine h_pass rfl rfl rfl (by decide) (by dsimp only [aput, List.set]) ?_
    refine h_pass rfl rfl rfl (by decide) (by dsimp only [aput, List.set]) ?_
    refine h_pass rfl rfl rfl (by decide) (by dsimp only [aput, List.set]) ?_
    refine h_pass rfl rfl rfl (by decide) (by dsimp only [aput, List.set]) ?_
    refine h_pass rfl rfl rfl (by decide) (by dsimp only [aput, List.set]) ?_
    refine h_op (a := .raw (.bool false)) rfl rfl rfl rfl (by dsimp only [aput, List.set]) ?_
    refine h_op (a := .raw (.bool false)) rfl rfl rfl rfl (by dsimp only [aput, List.set]) ?_
    refine h_pass rfl rfl rfl (by decide) (by dsimp only [aput, List.set]) ?_
    refine h_pass rfl rfl rfl (by decide) (by dsimp only [aput, List.set]) ?_
    refine h_pass rfl rfl rfl (by decide) (by dsimp only [aput, List.set]) ?_
    refine h_pass rfl rfl rfl (by decide) (by dsimp only [aput, List.set]) ?_
    refine h_pass rfl rfl rfl (by decide) (by dsimp only [aput, List.set]) ?_
    refine h_pass rfl rfl rfl (by decide) (by dsimp only [aput, List.set]) ?_
    refine h_pass rfl rfl rfl (by decide) (by dsimp only [aput, List.set]) ?_
    refine h_pass rfl rfl rfl (by decide) (by dsimp only [aput, List.set]) ?_
    refine h_op (a := .raw (.bool false)) rfl rfl rfl rfl (by dsimp only [aput, List.set]) ?_
    refine h_op (a := .raw (.bool false)) rfl rfl rfl rfl (by dsimp only [aput, List.set]) ?_
    refine h_pass rfl rfl rfl (by decide) (by dsimp only [aput, List.set]) ?_
    refine h_pass rfl rfl rfl (by decide) (by dsimp only [aput, List.set]) ?_
    refine h_pass rfl rfl rfl (by decide) (by dsimp only [aput, List.set]) ?_
    refine h_pass rfl rfl rfl (by decide) (by dsimp only [aput, List.set]) ?_
    refine h_pass rfl rfl rfl (by decide) (by dsimp only [aput, List.set]) ?_
    refine h_pass rfl rfl rfl (by decide) (by dsimp only [aput, List.set]) ?_
    refine h_pass rfl rfl rfl (by decide) (by dsimp only [aput, List.set]) ?_
    refine h_pass rfl rfl rfl (by decide) (by dsimp only [aput, List.set]) ?_
    refine h_op (a := .raw (.bool false)) rfl rfl rfl rfl (by dsimp only [aput, List.set]) ?_
    refine h_op (a := .raw (.bool false)) rfl rfl rfl rfl (by dsimp only [aput, List.set]) ?_
    refine h_pass rfl rfl rfl (by decide) (by dsimp only [aput, List.set]) ?_
    refine h_pass rfl rfl rfl (by decide) (by dsimp only [aput, List.set]) ?_
    refine h_pass rfl rfl rfl (by decide) (by dsimp only [aput, List.set]) ?_
    refine h_pass rfl rfl rfl (by decide) (by dsimp only [aput, List.set]) ?_
    refine h_pass rfl rfl rfl (by decide) (by dsimp only [aput, List.set]) ?_
    refine h_end ?_
    refine w_pass rfl rfl (by decide) (by dsimp only [aput, List.set]) ?_
    refine w_pass rfl rfl (by decide) (by dsimp only [aput, List.set]) ?_
    refine w_pass rfl rfl (by decide) (by dsimp only [aput, List.set]) ?_
    refine w_op (a := .raw (.bool false)) rfl rfl rfl rfl (by dsimp only [aput, List.set]) ?_
    refine w_op (a := .raw (.bool false)) rfl rfl rfl rfl (by dsimp only [aput, List.set]) ?_
    refine w_pass rfl rfl (by decide) (by dsimp only [aput, List.set]) ?_
    refine w_op (a := .raw (.bool false)) rfl rfl rfl rfl (by dsimp only [aput, List.set]) ?_
    refine w_op (a := .raw (.bool false)) rfl rfl rfl rfl (by dsimp only [aput, List.set]) ?_
    exact end_pureF (fun (r : Bool) => (.raw (.bool r) : AV)) h (a := .raw (.bool false)) rfl rfl rfl
 ·
  obtain ⟨g20, h⟩ := chk_e h
  obtain ⟨g21, h⟩ := chk_e h
  refine w_seqAny (id := 4) [.list (List.length (l : List Sme)) (Enc.cellsL (l : List Sme)) .none, .raw (.int .u8 en), .raw (.int .u8 code), .raw (.int .u8 cut), .raw undef, .raw undef, .raw undef, .raw undef, .raw (.bool false), .ptr 0 0, .raw (.int .i64 (Int.tmod cut ((List.length x1.l : Int) + 1))), .ptr 1 0, .ptr 3 0, .raw undef, .raw undef, .raw undef, .raw undef, .raw undef, .raw undef, .raw undef, .raw undef, .list (List.length (l : List Sme)) (Enc.cellsL (l : List Sme)) .none, .raw (.int .u8 en), .raw (.int .u8 code), .agg (Enc.cells (x1 : Trc)), .raw (.int .u8 cut), .raw (.int .i64 cut), .ptr 0 0, .list (List.length (x1.l : List En)) (Enc.cellsL (x1.l : List En)) .none, .raw (.int .i64 (List.length x1.l : Int)), .raw (.int .i64 ((List.length x1.l : Int) + 1)), .raw (.int .i64 (Int.tmod cut ((List.length x1.l : Int) + 1))), .ptr 0 0, .list (List.length (x1.l : List En)) (Enc.cellsL (x1.l : List En)) .none, .raw (.int .i64 (Int.tmod cut ((List.length x1.l : Int) + 1))), .list (List.length ((sub x1.l 0 (Int.tmod cut ((List.length x1.l : Int) + 1))) : List En)) (Enc.cellsL ((sub x1.l 0 (Int.tmod cut ((List.length x1.l : Int) + 1))) : List En)) .none, .list (List.length (x2 : List En)) (Enc.cellsL (x2 : List En)) .none, .ptr 0 1, .agg (Enc.cells (x1.e : Ed)), .agg (Enc.cells ((Trc.mk x2 x1.e) : Trc)), .ptr 0 0, .list (List.length (x1.l : List En)) (Enc.cellsL (x1.l : List En)) .none, .raw (.int .i64 (Int.tmod cut ((List.length x1.l : Int) + 1))), .list (List.length ((sub x1.l (Int.tmod cut ((List.length x1.l : Int) + 1)) (List.length x1.l : Int)) : List En)) (Enc.cellsL ((sub x1.l (Int.tmod cut ((List.length x1.l : Int) + 1)) (List.length x1.l : Int)) : List En)) .none, .bsl 2 0 (List.length (sub x1.l (Int.tmod cut ((List.length x1.l : Int) + 1)) (List.length x1.l : Int))) 4 false, .ptr 0 1, .agg (Enc.cells (x1.e : Ed)), .agg [.bsl 2 0 (List.length (sub x1.l (Int.tmod cut ((List.length x1.l : Int) + 1)) (List.length x1.l : Int))) 4 false, .raw (.int .u8 x1.e.k), .raw (.int .i64 x1.e.c)], .raw undef, .raw undef, .raw undef, .raw undef, .raw undef, .raw undef, .raw undef, .raw undef, .raw undef, .raw undef, .raw undef, .raw undef, .raw undef, .raw undef, .raw undef, .raw undef, .raw undef, .raw undef, .raw undef, .raw undef, .raw undef, .raw undef, .raw undef, .raw undef, .raw undef, .raw undef, .raw undef, .raw undef, .raw undef, .raw undef, .raw undef, .raw undef, .raw undef, .raw undef, .raw undef, .raw undef, .raw undef, .raw undef, .raw undef, .raw undef, .raw undef, .raw undef, .raw undef, .raw undef, .raw undef, .raw undef, .raw undef, .raw undef, .raw undef, .raw undef, .raw undef, .raw undef, .raw undef, .raw undef, .raw undef, .raw undef, .raw undef, .raw undef, .raw undef, .raw undef, .raw undef, .raw undef, .raw undef, .raw undef, .raw undef, .raw undef, .raw undef, .raw undef, .raw undef, .raw undef, .raw undef, .raw undef, .raw undef, .raw undef, .raw undef, .raw undef, .raw undef, .raw undef, .raw undef, .raw undef, .raw undef, .raw undef, .raw undef, .raw undef, .raw undef, .raw undef, .raw undef, .raw undef, .raw undef, .raw undef, .raw undef, .raw undef, .raw undef, .raw undef, .raw undef, .raw undef, .raw undef, .raw undef, .raw undef, .raw undef, .raw undef, .raw undef, .raw undef, .raw undef, .raw undef, .raw undef, .raw undef, .raw undef, .raw undef, .raw undef] ⟨[(26, (Enc.cells (x1 : Trc))), (26, (Enc.cells ((Trc.mk x2 x1.e) : Trc))), (43, (Enc.cellsL ((sub x1.l (Int.tmod cut ((List.length x1.l : Int) + 1)) (List.length x1.l : Int)) : List En))), (26, [.bsl 2 0 (List.length (sub x1.l (Int.tmod cut ((List.length x1.l : Int) + 1)) (List.length x1.l : Int))) 4 false, .raw (.int .u8 x1.e.k), .raw (.int .i64 x1.e.c)])], [], [], 0, false⟩ ?_ ?_
  ·
   refine aany_intro (fun ops hops FIN hFIN S0 hS0 => ?_)
   have n55 : aany (ITP Tryd.prog) Tryd.prog none ops FIN 0 ⟨[true, true, true, true, true, true, true, true, true, true]⟩ (setAll S0 [(12, .ptr 2 0), (40, .ptr 0 0), (41, .list (List.length (x1.l : List En)) (Enc.cellsL (x1.l : List En)) .none), (42, .raw (.int .i64 (Int.tmod cut ((List.length x1.l : Int) + 1)))), (43, .list (List.length ((sub x1.l (Int.tmod cut ((List.length x1.l : Int) + 1)) (List.length x1.l : Int)) : List En)) (Enc.cellsL ((sub x1.l (Int.tmod cut ((List.length x1.l : Int) + 1)) (List.length x1.l : Int)) : List En)) .none), (44, .bsl 3 0 (List.length (sub x1.l (Int.tmod cut ((List.length x1.l : Int) + 1)) (List.length x1.l : Int))) 4 false), (45, .ptr 0 1), (46, .agg (Enc.cells (x1.e : Ed))), (47, .agg [.bsl 3 0 (List.length (sub x1.l (Int.tmod cut ((List.length x1.l : Int) + 1)) (List.length x1.l : Int))) 4 false, .raw (.int .u8 x1.e.k), .raw (.int .i64 x1.e.c)])]) ⟨[(26, (Enc.cells (x1 : Trc))), (26, (Enc.cells ((Trc.mk x2 x1.e) : Trc))), (26, [.bsl 3 0 (List.length (sub x1.l (Int.tmod cut ((List.length x1.l : Int) + 1)) (List.length x1.l : Int))) 4 false, .raw (.int .u8 x1.e.k), .raw (.int .i64 x1.e.c)]), (43, (Enc.cellsL ((sub x1.l (Int.tmod cut ((List.length x1.l : Int) + 1)) (List.length x1.l : Int)) : List En)))], [], [], 0, false⟩ := by
    rw [hS0]
    dsimp only [setAll, List.foldl, List.set]
    exact aany_0 hops (by kernel_rfl) (hFIN _ _ (wm_keep [true, true, true, true, true, true, true, true, true, true, true, true, true, true, true, true, true, true, true, true, true, true, true, true, true, true, true, true, true, true, true, true, true, true, true, true, true, true, true, true, true, true, true, true, true, true, true, true, true, true, true, true, true, true, true, true, true, true, true, true, true, true, true, true, true, true, true, true, true, true, true, true, true, true, true, true, true, true, true, true, true, true, true, true, true, true, true, true, true, true, true, true, true, true, true, true, true, true, true, true, true, true, true, true, true, true, true, true, true, true, true, true, true, true, true, true, true, true, true, true, true, true, true, true, true, true, true, true, true, true, true, true, true, true, true, true, true, true, true, true, true, true, true, true, true, true, true, true, true, true, true, true, true, true, true, true, true, true] 0 [] [0, 1, 3, 2] 1 (Nat.le_refl _) rfl (fgK_t (mapK_clo _ _ _ (clo_list (Enc.cloL _))) (fgK_t (mapK_clo _ _ _ rfl) (fgK_t (mapK_clo _ _ _ rfl) (fgK_t (mapK_clo _ _ _ rfl) (fgK_t (mapK_clo _ _ _ rfl) (fgK_t (mapK_clo _ _ _ rfl) (fgK_t (mapK_clo _ _ _ rfl) (fgK_t (mapK_clo _ _ _ rfl) (fgK_t (mapK_clo _ _ _ rfl) (fgK_t rfl (fgK_t (mapK_clo _ _ _ rfl) (fgK_t rfl (fgK_t rfl (fgK_t (mapK_clo _ _ _ rfl) (fgK_t (mapK_clo _ _ _ rfl) (fgK_t (mapK_clo _ _ _ rfl) (fgK_t (mapK_clo _ _ _ rfl) (fgK_t (mapK_clo _ _ _ rfl) (fgK_t (mapK_clo _ _ _ rfl) (fgK_t (mapK_clo _ _ _ rfl) (fgK_t (mapK_clo _ _ _ rfl) (fgK_t (mapK_clo _ _ _ (clo_list (Enc.cloL _))) (fgK_t (mapK_clo _ _ _ rfl) (fgK_t (mapK_clo _ _ _ rfl) (fgK_t (mapK_clo _ _ _ (clo_agg (Enc.clo _))) (fgK_t (mapK_clo _ _ _ rfl) (fgK_t (mapK_clo _ _ _ rfl) (fgK_t rfl (fgK_t (mapK_clo _ _ _ (clo_list (Enc.cloL _))) (fgK_t (mapK_clo _ _ _ rfl) (fgK_t (mapK_clo _ _ _ rfl) (fgK_t (mapK_clo _ _ _ rfl) (fgK_t rfl (fgK_t (mapK_clo _ _ _ (clo_list (Enc.cloL _))) (fgK_t (mapK_clo _ _ _ rfl) (fgK_t (mapK_clo _ _ _ (clo_list (Enc.cloL _))) (fgK_t (mapK_clo _ _ _ (clo_list (Enc.cloL _))) (fgK_t rfl (fgK_t (mapK_clo _ _ _ (clo_agg (Enc.clo _))) (fgK_t (mapK_clo _ _ _ (clo_agg (Enc.clo _))) (fgK_t rfl (fgK_t (mapK_clo _ _ _ (clo_list (Enc.cloL _))) (fgK_t (mapK_clo _ _ _ rfl) (fgK_t (mapK_clo _ _ _ (clo_list (Enc.cloL _))) (fgK_t rfl (fgK_t rfl (fgK_t (mapK_clo _ _ _ (clo_agg (Enc.clo _))) (fgK_t (mapK_agg' (mapKL_cons' rfl (mapKL_cons' (mapK_clo _ _ _ rfl) (mapKL_cons' (mapK_clo _ _ _ rfl) mapKL_nil')))) (fgK_t (mapK_clo _ _ _ rfl) (fgK_t (mapK_clo _ _ _ rfl) (fgK_t (mapK_clo _ _ _ rfl) (fgK_t (mapK_clo _ _ _ rfl) (fgK_t (mapK_clo _ _ _ rfl) (fgK_t (mapK_clo _ _ _ rfl) (fgK_t (mapK_clo _ _ _ rfl) (fgK_t (mapK_clo _ _ _ rfl) (fgK_t (mapK_clo _ _ _ rfl) (fgK_t (mapK_clo _ _ _ rfl) (fgK_t (mapK_clo _ _ _ rfl) (fgK_t (mapK_clo _ _ _ rfl) (fgK_t (mapK_clo _ _ _ rfl) (fgK_t (mapK_clo _ _ _ rfl) (fgK_t (mapK_clo _ _ _ rfl) (fgK_t (mapK_clo _ _ _ rfl) (fgK_t (mapK_clo _ _ _ rfl) (fgK_t (mapK_clo _ _ _ rfl) (fgK_t (mapK_clo _ _ _ rfl) (fgK_t (mapK_clo _ _ _ rfl) (fgK_t (mapK_clo _ _ _ rfl) (fgK_t (mapK_clo _ _ _ rfl) (fgK_t (mapK_clo _ _ _ rfl) (fgK_t (mapK_clo _ _ _ rfl) (fgK_t (mapK_clo _ _ _ rfl) (fgK_t (mapK_clo _ _ _ rfl) (fgK_t (mapK_clo _ _ _ rfl) (fgK_t (mapK_clo _ _ _ rfl) (fgK_t (mapK_clo _ _ _ rfl) (fgK_t (mapK_clo _ _ _ rfl) (fgK_t (mapK_clo _ _ _ rfl) (fgK_t (mapK_clo _ _ _ rfl) (fgK_t (mapK_clo _ _ _ rfl) (fgK_t (mapK_clo _ _ _ rfl) (fgK_t (mapK_clo _ _ _ rfl) (fgK_t (mapK_clo _ _ _ rfl) (fgK_t (mapK_clo _ _ _ rfl) (fgK_t (mapK_clo _ _ _ rfl) (fgK_t (mapK_clo _ _ _ rfl) (fgK_t (mapK_clo _ _ _ rfl) (fgK_t (mapK_clo _ _ _ rfl) (fgK_t (mapK_clo _ _ _ rfl) (fgK_t (mapK_clo _ _ _ rfl) (fgK_t (mapK_clo _ _ _ rfl) (fgK_t (mapK_clo _ _ _ rfl) (fgK_t (mapK_clo _ _ _ rfl) (fgK_t (mapK_clo _ _ _ rfl) (fgK_t (mapK_clo _ _ _ rfl) (fgK_t (mapK_clo _ _ _ rfl) (fgK_t (mapK_clo _ _ _ rfl) (fgK_t (mapK_clo _ _ _ rfl) (fgK_t (mapK_clo _ _ _ rfl) (fgK_t (mapK_clo _ _ _ rfl) (fgK_t (mapK_clo _ _ _ rfl) (fgK_t (mapK_clo _ _ _ rfl) (fgK_t (mapK_clo _ _ _ rfl) (fgK_t (mapK_clo _ _ _ rfl) (fgK_t (mapK_clo _ _ _ rfl) (fgK_t (mapK_clo _ _ _ rfl) (fgK_t (mapK_clo _ _ _ rfl) (fgK_t (mapK_clo _ _ _ rfl) (fgK_t (mapK_clo _ _ _ rfl) (fgK_t (mapK_clo _ _ _ rfl) (fgK_t (mapK_clo _ _ _ rfl) (fgK_t (mapK_clo _ _ _ rfl) (fgK_t (mapK_clo _ _ _ rfl) (fgK_t (mapK_clo _ _ _ rfl) (fgK_t (mapK_clo _ _ _ rfl) (fgK_t (mapK_clo _ _ _ rfl) (fgK_t (mapK_clo _ _ _ rfl) (fgK_t (mapK_clo _ _ _ rfl) (fgK_t (mapK_clo _ _ _ rfl) (fgK_t (mapK_clo _ _ _ rfl) (fgK_t (mapK_clo _ _ _ rfl) (fgK_t (mapK_clo _ _ _ rfl) (fgK_t (mapK_clo _ _ _ rfl) (fgK_t (mapK_clo _ _ _ rfl) (fgK_t (mapK_clo _ _ _ rfl) (fgK_t (mapK_clo _ _ _ rfl) (fgK_t (mapK_clo _ _ _ rfl) (fgK_t (mapK_clo _ _ _ rfl) (fgK_t (mapK_clo _ _ _ rfl) (fgK_t (mapK_clo _ _ _ rfl) (fgK_t (mapK_clo _ _ _ rfl) (fgK_t (mapK_clo _ _ _ rfl) (fgK_t (mapK_clo _ _ _ rfl) (fgK_t (mapK_clo _ _ _ rfl) (fgK_t (mapK_clo _ _ _ rfl) (fgK_t (mapK_clo _ _ _ rfl) (fgK_t (mapK_clo _ _ _ rfl) (fgK_t (mapK_clo _ _ _ rfl) (fgK_t (mapK_clo _ _ _ rfl) (fgK_t (mapK_clo _ _ _ rfl) (fgK_t (mapK_clo _ _ _ rfl) (fgK_t (mapK_clo _ _ _ rfl) (fgK_t (mapK_clo _ _ _ rfl) (fgK_t (mapK_clo _ _ _ rfl) (fgK_t (mapK_clo _ _ _ rfl) (fgK_t (mapK_clo _ _ _ rfl) (fgK_t (mapK_clo _ _ _ rfl) (fgK_t (mapK_clo _ _ _ rfl) (fgK_t (mapK_clo _ _ _ rfl) (fgK_t (mapK_clo _ _ _ rfl) (fgK_t (mapK_clo _ _ _ rfl) (fgK_t (mapK_clo _ _ _ rfl) (fgK_t (mapK_clo _ _ _ rfl) (fgK_t (mapK_clo _ _ _ rfl) (fgK_t (mapK_clo _ _ _ rfl) (fgK_t (mapK_clo _ _ _ rfl) (fgK_t (mapK_clo _ _ _ rfl) fgK_nil)))))))))))))))))))))))))))))))))))))))))))))))))))))))))))))))))))))))))))))))))))))))))))))))))))))))))))))))))))))))))))))))))))))))))))))))))))))))))))))) (keep_of (keep_cons rfl (mapKL_clo _ _ _ (Enc.clo _)) (keep_cons rfl (mapKL_clo _ _ _ (Enc.clo _)) (keep_cons rfl (mapKL_clo _ _ _ (Enc.cloL _)) (keep_cons rfl (mapKL_cons' rfl (mapKL_cons' (mapK_clo _ _ _ rfl) (mapKL_cons' (mapK_clo _ _ _ rfl) mapKL_nil'))) keep_nil)))) rfl)))
   have n54 : aany (ITP Tryd.prog) Tryd.prog none ops FIN 0 ⟨[true, true, true, true, true, true, true, true, true, true]⟩ (setAll S0 [(12, .ptr 3 0), (40, .ptr 0 0), (41, .list (List.length (x1.l : List En)) (Enc.cellsL (x1.l : List En)) .none), (42, .raw (.int .i64 (Int.tmod cut ((List.length x1.l : Int) + 1)))), (43, .list (List.length ((sub x1.l (Int.tmod cut ((List.length x1.l : Int) + 1)) (List.length x1.l : Int)) : List En)) (Enc.cellsL ((sub x1.l (Int.tmod cut ((List.length x1.l : Int) + 1)) (List.length x1.l : Int)) : List En)) .none), (44, .bsl 2 0 (List.length (sub x1.l (Int.tmod cut ((List.length x1.l : Int) + 1)) (List.length x1.l : Int))) 4 false), (45, .ptr 0 1), (46, .agg (Enc.cells (x1.e : Ed))), (47, .agg [.bsl 2 0 (List.length (sub x1.l (Int.tmod cut ((List.length x1.l : Int) + 1)) (List.length x1.l : Int))) 4 false, .raw (.int .u8 x1.e.k), .raw (.int .i64 x1.e.c)])]) ⟨[(26, (Enc.cells (x1 : Trc))), (26, (Enc.cells ((Trc.mk x2 x1.e) : Trc))), (43, (Enc.cellsL ((sub x1.l (Int.tmod cut ((List.length x1.l : Int) + 1)) (List.length x1.l : Int)) : List En))), (26, [.bsl 2 0 (List.length (sub x1.l (Int.tmod cut ((List.length x1.l : Int) + 1)) (List.length x1.l : Int))) 4 false, .raw (.int .u8 x1.e.k), .raw (.int .i64 x1.e.c)])], [], [], 0, false⟩ := by
    rw [hS0]
    dsimp only [setAll, List.foldl, List.set]
    exact aany_0 hops (by kernel_rfl) (hFIN _ _ (Wk.refl _ _ _))
   have n53 : aany (ITP Tryd.prog) Tryd.prog none ops FIN 1 ⟨[true, true, true, true, true, true, true, true, true, false]⟩ (setAll S0 [(12, .ptr 2 0), (40, .ptr 0 0), (41, .list (List.length (x1.l : List En)) (Enc.cellsL (x1.l : List En)) .none), (42, .raw (.int .i64 (Int.tmod cut ((List.length x1.l : Int) + 1)))), (43, .list (List.length ((sub x1.l (Int.tmod cut ((List.length x1.l : Int) + 1)) (List.length x1.l : Int)) : List En)) (Enc.cellsL ((sub x1.l (Int.tmod cut ((List.length x1.l : Int) + 1)) (List.length x1.l : Int)) : List En)) .none), (44, .bsl 3 0 (List.length (sub x1.l (Int.tmod cut ((List.length x1.l : Int) + 1)) (List.length x1.l : Int))) 4 false), (45, .ptr 0 1), (46, .agg (Enc.cells (x1.e : Ed))), (47, .agg [.bsl 3 0 (List.length (sub x1.l (Int.tmod cut ((List.length x1.l : Int) + 1)) (List.length x1.l : Int))) 4 false, .raw (.int .u8 x1.e.k), .raw (.int .i64 x1.e.c)])]) ⟨[(26, (Enc.cells (x1 : Trc))), (26, (Enc.cells ((Trc.mk x2 x1.e) : Trc))), (26, [.list 0 [] .full, .raw (.int .u8 0), .raw (.int .i64 0)]), (43, (Enc.cellsL ((sub x1.l (Int.tmod cut ((List.length x1.l : Int) + 1)) (List.length x1.l : Int)) : List En)))], [], [], 0, false⟩ := by
    rw [hS0]
    dsimp only [setAll, List.foldl, List.set]
    refine aany_n hops [9] (by kernel_rfl) (by decide) (all_cons (aopAt_s hops rfl ?_) all_nil)
    ·
     refine w_opm (σ'' := ⟨[(26, (Enc.cells (x1 : Trc))), (26, (Enc.cells ((Trc.mk x2 x1.e) : Trc))), (26, [.bsl 3 0 (List.length (sub x1.l (Int.tmod cut ((List.length x1.l : Int) + 1)) (List.length x1.l : Int))) 4 false, .raw (.int .u8 x1.e.k), .raw (.int .i64 x1.e.c)]), (43, (Enc.cellsL ((sub x1.l (Int.tmod cut ((List.length x1.l : Int) + 1)) (List.length x1.l : Int)) : List En)))], [], [], 0, false⟩) rfl rfl rfl (op_storeW (n := 3) rfl rfl rfl rfl rfl rfl rfl rfl (by decide)) (by dsimp only [aput, List.set]) rfl ?_
     have hn := n55
     rw [hS0] at hn
     exact hn
   have n52 : aany (ITP Tryd.prog) Tryd.prog none ops FIN 1 ⟨[true, true, true, true, true, true, true, true, true, false]⟩ (setAll S0 [(12, .ptr 3 0), (40, .ptr 0 0), (41, .list (List.length (x1.l : List En)) (Enc.cellsL (x1.l : List En)) .none), (42, .raw (.int .i64 (Int.tmod cut ((List.length x1.l : Int) + 1)))), (43, .list (List.length ((sub x1.l (Int.tmod cut ((List.length x1.l : Int) + 1)) (List.length x1.l : Int)) : List En)) (Enc.cellsL ((sub x1.l (Int.tmod cut ((List.length x1.l : Int) + 1)) (List.length x1.l : Int)) : List En)) .none), (44, .bsl 2 0 (List.length (sub x1.l (Int.tmod cut ((List.length x1.l : Int) + 1)) (List.length x1.l : Int))) 4 false), (45, .ptr 0 1), (46, .agg (Enc.cells (x1.e : Ed))), (47, .agg [.bsl 2 0 (List.length (sub x1.l (Int.tmod cut ((List.length x1.l : Int) + 1)) (List.length x1.l : Int))) 4 false, .raw (.int .u8 x1.e.k), .raw (.int .i64 x1.e.c)])]) ⟨[(26, (Enc.cells (x1 : Trc))), (26, (Enc.cells ((Trc.mk x2 x1.e) : Trc))), (43, (Enc.cellsL ((sub x1.l (Int.tmod cut ((List.length x1.l : Int) + 1)) (List.length x1.l : Int)) : List En))), (26, [.list 0 [] .full, .raw (.int .u8 0), .raw (.int .i64 0)])], [], [], 0, false⟩ := by
    rw [hS0]
    dsimp only [setAll, List.foldl, List.set]
    refine aany_n hops [9] (by kernel_rfl) (by decide) (all_cons (aopAt_s hops rfl ?_) all_nil)
    ·
     refine w_opm (σ'' := ⟨[(26, (Enc.cells (x1 : Trc))), (26, (Enc.cells ((Trc.mk x2 x1.e) : Trc))), (43, (Enc.cellsL ((sub x1.l (Int.tmod cut ((List.length x1.l : Int) + 1)) (List.length x1.l : Int)) : List En))), (26, [.bsl 2 0 (List.length (sub x1.l (Int.tmod cut ((List.length x1.l : Int) + 1)) (List.length x1.l : Int))) 4 false, .raw (.int .u8 x1.e.k), .raw (.int .i64 x1.e.c)])], [], [], 0, false⟩) rfl rfl rfl (op_storeW (n := 3) rfl rfl rfl rfl rfl rfl rfl rfl (by decide)) (by dsimp only [aput, List.set]) rfl ?_
     have hn := n54
     rw [hS0] at hn
     exact hn
   have n51 : aany (ITP Tryd.prog) Tryd.prog none ops FIN 2 ⟨[true, true, true, true, true, true, true, false, true, false]⟩ (setAll S0 [(12, .ptr 2 0), (40, .ptr 0 0), (41, .list (List.length (x1.l : List En)) (Enc.cellsL (x1.l : List En)) .none), (42, .raw (.int .i64 (Int.tmod cut ((List.length x1.l : Int) + 1)))), (43, .list (List.length ((sub x1.l (Int.tmod cut ((List.length x1.l : Int) + 1)) (List.length x1.l : Int)) : List En)) (Enc.cellsL ((sub x1.l (Int.tmod cut ((List.length x1.l : Int) + 1)) (List.length x1.l : Int)) : List En)) .none), (44, .bsl 3 0 (List.length (sub x1.l (Int.tmod cut ((List.length x1.l : Int) + 1)) (List.length x1.l : Int))) 4 false), (45, .ptr 0 1), (46, .agg (Enc.cells (x1.e : Ed)))]) ⟨[(26, (Enc.cells (x1 : Trc))), (26, (Enc.cells ((Trc.mk x2 x1.e) : Trc))), (26, [.list 0 [] .full, .raw (.int .u8 0), .raw (.int .i64 0)]), (43, (Enc.cellsL ((sub x1.l (Int.tmod cut ((List.length x1.l : Int) + 1)) (List.length x1.l : Int)) : List En)))], [], [], 0, false⟩ := by
    rw [hS0]
    dsimp only [setAll, List.foldl, List.set]
    refine aany_n hops [7] (by kernel_rfl) (by decide) (all_cons (aopAt_s hops rfl ?_) all_nil)
    ·
     refine w_op (a := .agg [.bsl 3 0 (List.length (sub x1.l (Int.tmod cut ((List.length x1.l : Int) + 1)) (List.length x1.l : Int))) 4 false, .raw (.int .u8 x1.e.k), .raw (.int .i64 x1.e.c)]) rfl rfl rfl rfl (by dsimp only [aput, List.set]) ?_
     have hn := n53
     rw [hS0] at hn
     exact hn
   have n50 : aany (ITP Tryd.prog) Tryd.prog none ops FIN 2 ⟨[true, true, true, true, true, true, true, false, true, false]⟩ (setAll S0 [(12, .ptr 3 0), (40, .ptr 0 0), (41, .list (List.length (x1.l : List En)) (Enc.cellsL (x1.l : List En)) .none), (42, .raw (.int .i64 (Int.tmod cut ((List.length x1.l : Int) + 1)))), (43, .list (List.length ((sub x1.l (Int.tmod cut ((List.length x1.l : Int) + 1)) (List.length x1.l : Int)) : List En)) (Enc.cellsL ((sub x1.l (Int.tmod cut ((List.length x1.l : Int) + 1)) (List.length x1.l : Int)) : List En)) .none), (44, .bsl 2 0 (List.length (sub x1.l (Int.tmod cut ((List.length x1.l : Int) + 1)) (List.length x1.l : Int))) 4 false), (45, .ptr 0 1), (46, .agg (Enc.cells (x1.e : Ed)))]) ⟨[(26, (Enc.cells (x1 : Trc))), (26, (Enc.cells ((Trc.mk x2 x1.e) : Trc))), (43, (Enc.cellsL ((sub x1.l (Int.tmod cut ((List.length x1.l : Int) + 1)) (List.length x1.l : Int)) : List En))), (26, [.list 0 [] .full, .raw (.int .u8 0), .raw (.int .i64 0)])], [], [], 0, false⟩ := by
    rw [hS0]
    dsimp only [setAll, List.foldl, List.set]
    refine aany_n hops [7] (by kernel_rfl) (by decide) (all_cons (aopAt_s hops rfl ?_) all_nil)
    ·
     refine w_op (a := .agg [.bsl 2 0 (List.length (sub x1.l (Int.tmod cut ((List.length x1.l : Int) + 1)) (List.length x1.l : Int))) 4 false, .raw (.int .u8 x1.e.k), .raw (.int .i64 x1.e.c)]) rfl rfl rfl rfl (by dsimp only [aput, List.set]) ?_
     have hn := n52
     rw [hS0] at hn
     exact hn
   have n49 : aany (ITP Tryd.prog) Tryd.prog none ops FIN 2 ⟨[true, true, true, true, true, true, true, true, false, false]⟩ (setAll S0 [(40, .ptr 0 0), (41, .list (List.length (x1.l : List En)) (Enc.cellsL (x1.l : List En)) .none), (42, .raw (.int .i64 (Int.tmod cut ((List.length x1.l : Int) + 1)))), (43, .list (List.length ((sub x1.l (Int.tmod cut ((List.length x1.l : Int) + 1)) (List.length x1.l : Int)) : List En)) (Enc.cellsL ((sub x1.l (Int.tmod cut ((List.length x1.l : Int) + 1)) (List.length x1.l : Int)) : List En)) .none), (44, .bsl 2 0 (List.length (sub x1.l (Int.tmod cut ((List.length x1.l : Int) + 1)) (List.length x1.l : Int))) 4 false), (45, .ptr 0 1), (46, .agg (Enc.cells (x1.e : Ed))), (47, .agg [.bsl 2 0 (List.length (sub x1.l (Int.tmod cut ((List.length x1.l : Int) + 1)) (List.length x1.l : Int))) 4 false, .raw (.int .u8 x1.e.k), .raw (.int .i64 x1.e.c)])]) ⟨[(26, (Enc.cells (x1 : Trc))), (26, (Enc.cells ((Trc.mk x2 x1.e) : Trc))), (43, (Enc.cellsL ((sub x1.l (Int.tmod cut ((List.length x1.l : Int) + 1)) (List.length x1.l : Int)) : List En)))], [], [], 0, false⟩ := by
    rw [hS0]
    dsimp only [setAll, List.foldl, List.set]
    refine aany_n hops [8] (by kernel_rfl) (by decide) (all_cons (aopAt_s hops rfl ?_) all_nil)
    ·
     refine w_opm (a := .ptr 3 0) (σ'' := ⟨[(26, (Enc.cells (x1 : Trc))), (26, (Enc.cells ((Trc.mk x2 x1.e) : Trc))), (43, (Enc.cellsL ((sub x1.l (Int.tmod cut ((List.length x1.l : Int) + 1)) (List.length x1.l : Int)) : List En))), (26, [.list 0 [] .full, .raw (.int .u8 0), .raw (.int .i64 0)])], [], [], 0, false⟩) rfl rfl rfl rfl (by dsimp only [aput, List.set]) rfl ?_
     have hn := n52
     rw [hS0] at hn
     exact hn
   have n48 : aany (ITP Tryd.prog) Tryd.prog none ops FIN 3 ⟨[true, true, true, true, true, true, false, false, true, false]⟩ (setAll S0 [(12, .ptr 2 0), (40, .ptr 0 0), (41, .list (List.length (x1.l : List En)) (Enc.cellsL (x1.l : List En)) .none), (42, .raw (.int .i64 (Int.tmod cut ((List.length x1.l : Int) + 1)))), (43, .list (List.length ((sub x1.l (Int.tmod cut ((List.length x1.l : Int) + 1)) (List.length x1.l : Int)) : List En)) (Enc.cellsL ((sub x1.l (Int.tmod cut ((List.length x1.l : Int) + 1)) (List.length x1.l : Int)) : List En)) .none), (44, .bsl 3 0 (List.length (sub x1.l (Int.tmod cut ((List.length x1.l : Int) + 1)) (List.length x1.l : Int))) 4 false), (45, .ptr 0 1)]) ⟨[(26, (Enc.cells (x1 : Trc))), (26, (Enc.cells ((Trc.mk x2 x1.e) : Trc))), (26, [.list 0 [] .full, .raw (.int .u8 0), .raw (.int .i64 0)]), (43, (Enc.cellsL ((sub x1.l (Int.tmod cut ((List.length x1.l : Int) + 1)) (List.length x1.l : Int)) : List En)))], [], [], 0, false⟩ := by
    rw [hS0]
    dsimp only [setAll, List.foldl, List.set]
    refine aany_n hops [6] (by kernel_rfl) (by decide) (all_cons (aopAt_s hops rfl ?_) all_nil)
    ·
     refine w_op (a := .agg (Enc.cells (x1.e : Ed))) rfl rfl rfl rfl (by dsimp only [aput, List.set]) ?_
     have hn := n51
     rw [hS0] at hn
     exact hn
   have n47 : aany (ITP Tryd.prog) Tryd.prog none ops FIN 3 ⟨[true, true, true, true, false, true, true, false, true, false]⟩ (setAll S0 [(12, .ptr 2 0), (40, .ptr 0 0), (41, .list (List.length (x1.l : List En)) (Enc.cellsL (x1.l : List En)) .none), (42, .raw (.int .i64 (Int.tmod cut ((List.length x1.l : Int) + 1)))), (43, .list (List.length ((sub x1.l (Int.tmod cut ((List.length x1.l : Int) + 1)) (List.length x1.l : Int)) : List En)) (Enc.cellsL ((sub x1.l (Int.tmod cut ((List.length x1.l : Int) + 1)) (List.length x1.l : Int)) : List En)) .none), (45, .ptr 0 1), (46, .agg (Enc.cells (x1.e : Ed)))]) ⟨[(26, (Enc.cells (x1 : Trc))), (26, (Enc.cells ((Trc.mk x2 x1.e) : Trc))), (26, [.list 0 [] .full, .raw (.int .u8 0), .raw (.int .i64 0)])], [], [], 0, false⟩ := by
    rw [hS0]
    dsimp only [setAll, List.foldl, List.set]
    refine aany_n hops [4] (by kernel_rfl) (by decide) (all_cons (aopAt_s hops rfl ?_) all_nil)
    ·
     refine w_snd (r := .bsl 3 0 (List.length (sub x1.l (Int.tmod cut ((List.length x1.l : Int) + 1)) (List.length x1.l : Int))) 4 false) (σ' := ⟨[(26, (Enc.cells (x1 : Trc))), (26, (Enc.cells ((Trc.mk x2 x1.e) : Trc))), (26, [.list 0 [] .full, .raw (.int .u8 0), .raw (.int .i64 0)]), (43, (Enc.cellsL ((sub x1.l (Int.tmod cut ((List.length x1.l : Int) + 1)) (List.length x1.l : Int)) : List En)))], [], [], 0, false⟩) (clone_cons (sub x1.l (Int.tmod cut ((List.length x1.l : Int) + 1)) (List.length x1.l : Int)) (len_pos hc1) g21 3 _ rfl) rfl rfl ⟨rfl, rfl⟩ (by dsimp only [aput, List.set]) ?_
     have hn := n51
     rw [hS0] at hn
     exact hn
   have n46 : aany (ITP Tryd.prog) Tryd.prog none ops FIN 3 ⟨[true, true, true, true, true, true, false, false, true, false]⟩ (setAll S0 [(12, .ptr 3 0), (40, .ptr 0 0), (41, .list (List.length (x1.l : List En)) (Enc.cellsL (x1.l : List En)) .none), (42, .raw (.int .i64 (Int.tmod cut ((List.length x1.l : Int) + 1)))), (43, .list (List.length ((sub x1.l (Int.tmod cut ((List.length x1.l : Int) + 1)) (List.length x1.l : Int)) : List En)) (Enc.cellsL ((sub x1.l (Int.tmod cut ((List.length x1.l : Int) + 1)) (List.length x1.l : Int)) : List En)) .none), (44, .bsl 2 0 (List.length (sub x1.l (Int.tmod cut ((List.length x1.l : Int) + 1)) (List.length x1.l : Int))) 4 false), (45, .ptr 0 1)]) ⟨[(26, (Enc.cells (x1 : Trc))), (26, (Enc.cells ((Trc.mk x2 x1.e) : Trc))), (43, (Enc.cellsL ((sub x1.l (Int.tmod cut ((List.length x1.l : Int) + 1)) (List.length x1.l : Int)) : List En))), (26, [.list 0 [] .full, .raw (.int .u8 0), .raw (.int .i64 0)])], [], [], 0, false⟩ := by
    rw [hS0]
    dsimp only [setAll, List.foldl, List.set]
    refine aany_n hops [6] (by kernel_rfl) (by decide) (all_cons (aopAt_s hops rfl ?_) all_nil)
    ·
     refine w_op (a := .agg (Enc.cells (x1.e : Ed))) rfl rfl rfl rfl (by dsimp only [aput, List.set]) ?_
     have hn := n50
     rw [hS0] at hn
     exact hn
   have n45 : aany (ITP Tryd.prog) Tryd.prog none ops FIN 3 ⟨[true, true, true, true, true, true, true, false, false, false]⟩ (setAll S0 [(40, .ptr 0 0), (41, .list (List.length (x1.l : List En)) (Enc.cellsL (x1.l : List En)) .none), (42, .raw (.int .i64 (Int.tmod cut ((List.length x1.l : Int) + 1)))), (43, .list (List.length ((sub x1.l (Int.tmod cut ((List.length x1.l : Int) + 1)) (List.length x1.l : Int)) : List En)) (Enc.cellsL ((sub x1.l (Int.tmod cut ((List.length x1.l : Int) + 1)) (List.length x1.l : Int)) : List En)) .none), (44, .bsl 2 0 (List.length (sub x1.l (Int.tmod cut ((List.length x1.l : Int) + 1)) (List.length x1.l : Int))) 4 false), (45, .ptr 0 1), (46, .agg (Enc.cells (x1.e : Ed)))]) ⟨[(26, (Enc.cells (x1 : Trc))), (26, (Enc.cells ((Trc.mk x2 x1.e) : Trc))), (43, (Enc.cellsL ((sub x1.l (Int.tmod cut ((List.length x1.l : Int) + 1)) (List.length x1.l : Int)) : List En)))], [], [], 0, false⟩ := by
    rw [hS0]
    dsimp only [setAll, List.foldl, List.set]
    refine aany_n hops [7, 8] (by kernel_rfl) (by decide) (all_cons (aopAt_s hops rfl ?_) (all_cons (aopAt_s hops rfl ?_) all_nil))
    ·
     refine w_op (a := .agg [.bsl 2 0 (List.length (sub x1.l (Int.tmod cut ((List.length x1.l : Int) + 1)) (List.length x1.l : Int))) 4 false, .raw (.int .u8 x1.e.k), .raw (.int .i64 x1.e.c)]) rfl rfl rfl rfl (by dsimp only [aput, List.set]) ?_
     have hn := n49
     rw [hS0] at hn
     exact hn
    ·
     refine w_opm (a := .ptr 3 0) (σ'' := ⟨[(26, (Enc.cells (x1 : Trc))), (26, (Enc.cells ((Trc.mk x2 x1.e) : Trc))), (43, (Enc.cellsL ((sub x1.l (Int.tmod cut ((List.length x1.l : Int) + 1)) (List.length x1.l : Int)) : List En))), (26, [.list 0 [] .full, .raw (.int .u8 0), .raw (.int .i64 0)])], [], [], 0, false⟩) rfl rfl rfl rfl (by dsimp only [aput, List.set]) rfl ?_
     have hn := n50
     rw [hS0] at hn
     exact hn
   have n44 : aany (ITP Tryd.prog) Tryd.prog none ops FIN 4 ⟨[true, true, true, false, false, true, true, false, true, false]⟩ (setAll S0 [(12, .ptr 2 0), (40, .ptr 0 0), (41, .list (List.length (x1.l : List En)) (Enc.cellsL (x1.l : List En)) .none), (42, .raw (.int .i64 (Int.tmod cut ((List.length x1.l : Int) + 1)))), (45, .ptr 0 1), (46, .agg (Enc.cells (x1.e : Ed)))]) ⟨[(26, (Enc.cells (x1 : Trc))), (26, (Enc.cells ((Trc.mk x2 x1.e) : Trc))), (26, [.list 0 [] .full, .raw (.int .u8 0), .raw (.int .i64 0)])], [], [], 0, false⟩ := by
    rw [hS0]
    dsimp only [setAll, List.foldl, List.set]
    refine aany_n hops [3] (by kernel_rfl) (by decide) (all_cons (aopAt_s hops rfl ?_) all_nil)
    ·
     refine w_qs (.list (List.length ((sub x1.l (Int.tmod cut ((List.length x1.l : Int) + 1)) (List.length x1.l : Int)) : List En)) (Enc.cellsL ((sub x1.l (Int.tmod cut ((List.length x1.l : Int) + 1)) (List.length x1.l : Int)) : List En)) .none) rfl rfl rfl (q_subL_ (α := En) (l := x1.l) g20 rfl rfl rfl rfl rfl) (strip_sub _ _ _) (by dsimp only [aput, List.set]) ?_
     have hn := n47
     rw [hS0] at hn
     exact hn
   have n43 : aany (ITP Tryd.prog) Tryd.prog none ops FIN 4 ⟨[true, true, true, true, true, false, false, false, true, false]⟩ (setAll S0 [(12, .ptr 2 0), (40, .ptr 0 0), (41, .list (List.length (x1.l : List En)) (Enc.cellsL (x1.l : List En)) .none), (42, .raw (.int .i64 (Int.tmod cut ((List.length x1.l : Int) + 1)))), (43, .list (List.length ((sub x1.l (Int.tmod cut ((List.length x1.l : Int) + 1)) (List.length x1.l : Int)) : List En)) (Enc.cellsL ((sub x1.l (Int.tmod cut ((List.length x1.l : Int) + 1)) (List.length x1.l : Int)) : List En)) .none), (44, .bsl 3 0 (List.length (sub x1.l (Int.tmod cut ((List.length x1.l : Int) + 1)) (List.length x1.l : Int))) 4 false)]) ⟨[(26, (Enc.cells (x1 : Trc))), (26, (Enc.cells ((Trc.mk x2 x1.e) : Trc))), (26, [.list 0 [] .full, .raw (.int .u8 0), .raw (.int .i64 0)]), (43, (Enc.cellsL ((sub x1.l (Int.tmod cut ((List.length x1.l : Int) + 1)) (List.length x1.l : Int)) : List En)))], [], [], 0, false⟩ := by
    rw [hS0]
    dsimp only [setAll, List.foldl, List.set]
    refine aany_n hops [5] (by kernel_rfl) (by decide) (all_cons (aopAt_s hops rfl ?_) all_nil)
    ·
     refine w_op (a := .ptr 0 1) rfl rfl rfl rfl (by dsimp only [aput, List.set]) ?_
     have hn := n48
     rw [hS0] at hn
     exact hn
   have n42 : aany (ITP Tryd.prog) Tryd.prog none ops FIN 4 ⟨[true, true, true, true, false, true, false, false, true, false]⟩ (setAll S0 [(12, .ptr 2 0), (40, .ptr 0 0), (41, .list (List.length (x1.l : List En)) (Enc.cellsL (x1.l : List En)) .none), (42, .raw (.int .i64 (Int.tmod cut ((List.length x1.l : Int) + 1)))), (43, .list (List.length ((sub x1.l (Int.tmod cut ((List.length x1.l : Int) + 1)) (List.length x1.l : Int)) : List En)) (Enc.cellsL ((sub x1.l (Int.tmod cut ((List.length x1.l : Int) + 1)) (List.length x1.l : Int)) : List En)) .none), (45, .ptr 0 1)]) ⟨[(26, (Enc.cells (x1 : Trc))), (26, (Enc.cells ((Trc.mk x2 x1.e) : Trc))), (26, [.list 0 [] .full, .raw (.int .u8 0), .raw (.int .i64 0)])], [], [], 0, false⟩ := by
    rw [hS0]
    dsimp only [setAll, List.foldl, List.set]
    refine aany_n hops [4, 6] (by kernel_rfl) (by decide) (all_cons (aopAt_s hops rfl ?_) (all_cons (aopAt_s hops rfl ?_) all_nil))
    ·
     refine w_snd (r := .bsl 3 0 (List.length (sub x1.l (Int.tmod cut ((List.length x1.l : Int) + 1)) (List.length x1.l : Int))) 4 false) (σ' := ⟨[(26, (Enc.cells (x1 : Trc))), (26, (Enc.cells ((Trc.mk x2 x1.e) : Trc))), (26, [.list 0 [] .full, .raw (.int .u8 0), .raw (.int .i64 0)]), (43, (Enc.cellsL ((sub x1.l (Int.tmod cut ((List.length x1.l : Int) + 1)) (List.length x1.l : Int)) : List En)))], [], [], 0, false⟩) (clone_cons (sub x1.l (Int.tmod cut ((List.length x1.l : Int) + 1)) (List.length x1.l : Int)) (len_pos hc1) g21 3 _ rfl) rfl rfl ⟨rfl, rfl⟩ (by dsimp only [aput, List.set]) ?_
     have hn := n48
     rw [hS0] at hn
     exact hn
    ·
     refine w_op (a := .agg (Enc.cells (x1.e : Ed))) rfl rfl rfl rfl (by dsimp only [aput, List.set]) ?_
     have hn := n47
     rw [hS0] at hn
     exact hn
   have n41 : aany (ITP Tryd.prog) Tryd.prog none ops FIN 4 ⟨[true, true, true, true, false, true, true, false, false, false]⟩ (setAll S0 [(40, .ptr 0 0), (41, .list (List.length (x1.l : List En)) (Enc.cellsL (x1.l : List En)) .none), (42, .raw (.int .i64 (Int.tmod cut ((List.length x1.l : Int) + 1)))), (43, .list (List.length ((sub x1.l (Int.tmod cut ((List.length x1.l : Int) + 1)) (List.length x1.l : Int)) : List En)) (Enc.cellsL ((sub x1.l (Int.tmod cut ((List.length x1.l : Int) + 1)) (List.length x1.l : Int)) : List En)) .none), (45, .ptr 0 1), (46, .agg (Enc.cells (x1.e : Ed)))]) ⟨[(26, (Enc.cells (x1 : Trc))), (26, (Enc.cells ((Trc.mk x2 x1.e) : Trc)))], [], [], 0, false⟩ := by
    rw [hS0]
    dsimp only [setAll, List.foldl, List.set]
    refine aany_n hops [4, 8] (by kernel_rfl) (by decide) (all_cons (aopAt_s hops rfl ?_) (all_cons (aopAt_s hops rfl ?_) all_nil))
    ·
     refine w_snd (r := .bsl 2 0 (List.length (sub x1.l (Int.tmod cut ((List.length x1.l : Int) + 1)) (List.length x1.l : Int))) 4 false) (σ' := ⟨[(26, (Enc.cells (x1 : Trc))), (26, (Enc.cells ((Trc.mk x2 x1.e) : Trc))), (43, (Enc.cellsL ((sub x1.l (Int.tmod cut ((List.length x1.l : Int) + 1)) (List.length x1.l : Int)) : List En)))], [], [], 0, false⟩) (clone_cons (sub x1.l (Int.tmod cut ((List.length x1.l : Int) + 1)) (List.length x1.l : Int)) (len_pos hc1) g21 2 _ rfl) rfl rfl ⟨rfl, rfl⟩ (by dsimp only [aput, List.set]) ?_
     have hn := n45
     rw [hS0] at hn
     exact hn
    ·
     refine w_opm (a := .ptr 2 0) (σ'' := ⟨[(26, (Enc.cells (x1 : Trc))), (26, (Enc.cells ((Trc.mk x2 x1.e) : Trc))), (26, [.list 0 [] .full, .raw (.int .u8 0), .raw (.int .i64 0)])], [], [], 0, false⟩) rfl rfl rfl rfl (by dsimp only [aput, List.set]) rfl ?_
     have hn := n47
     rw [hS0] at hn
     exact hn
   have n40 : aany (ITP Tryd.prog) Tryd.prog none ops FIN 4 ⟨[true, true, true, true, true, false, false, false, true, false]⟩ (setAll S0 [(12, .ptr 3 0), (40, .ptr 0 0), (41, .list (List.length (x1.l : List En)) (Enc.cellsL (x1.l : List En)) .none), (42, .raw (.int .i64 (Int.tmod cut ((List.length x1.l : Int) + 1)))), (43, .list (List.length ((sub x1.l (Int.tmod cut ((List.length x1.l : Int) + 1)) (List.length x1.l : Int)) : List En)) (Enc.cellsL ((sub x1.l (Int.tmod cut ((List.length x1.l : Int) + 1)) (List.length x1.l : Int)) : List En)) .none), (44, .bsl 2 0 (List.length (sub x1.l (Int.tmod cut ((List.length x1.l : Int) + 1)) (List.length x1.l : Int))) 4 false)]) ⟨[(26, (Enc.cells (x1 : Trc))), (26, (Enc.cells ((Trc.mk x2 x1.e) : Trc))), (43, (Enc.cellsL ((sub x1.l (Int.tmod cut ((List.length x1.l : Int) + 1)) (List.length x1.l : Int)) : List En))), (26, [.list 0 [] .full, .raw (.int .u8 0), .raw (.int .i64 0)])], [], [], 0, false⟩ := by
    rw [hS0]
    dsimp only [setAll, List.foldl, List.set]
    refine aany_n hops [5] (by kernel_rfl) (by decide) (all_cons (aopAt_s hops rfl ?_) all_nil)
    ·
     refine w_op (a := .ptr 0 1) rfl rfl rfl rfl (by dsimp only [aput, List.set]) ?_
     have hn := n46
     rw [hS0] at hn
     exact hn
   have n39 : aany (ITP Tryd.prog) Tryd.prog none ops FIN 4 ⟨[true, true, true, true, true, true, false, false, false, false]⟩ (setAll S0 [(40, .ptr 0 0), (41, .list (List.length (x1.l : List En)) (Enc.cellsL (x1.l : List En)) .none), (42, .raw (.int .i64 (Int.tmod cut ((List.length x1.l : Int) + 1)))), (43, .list (List.length ((sub x1.l (Int.tmod cut ((List.length x1.l : Int) + 1)) (List.length x1.l : Int)) : List En)) (Enc.cellsL ((sub x1.l (Int.tmod cut ((List.length x1.l : Int) + 1)) (List.length x1.l : Int)) : List En)) .none), (44, .bsl 2 0 (List.length (sub x1.l (Int.tmod cut ((List.length x1.l : Int) + 1)) (List.length x1.l : Int))) 4 false), (45, .ptr 0 1)]) ⟨[(26, (Enc.cells (x1 : Trc))), (26, (Enc.cells ((Trc.mk x2 x1.e) : Trc))), (43, (Enc.cellsL ((sub x1.l (Int.tmod cut ((List.length x1.l : Int) + 1)) (List.length x1.l : Int)) : List En)))], [], [], 0, false⟩ := by
    rw [hS0]
    dsimp only [setAll, List.foldl, List.set]
    refine aany_n hops [6, 8] (by kernel_rfl) (by decide) (all_cons (aopAt_s hops rfl ?_) (all_cons (aopAt_s hops rfl ?_) all_nil))
    ·
     refine w_op (a := .agg (Enc.cells (x1.e : Ed))) rfl rfl rfl rfl (by dsimp only [aput, List.set]) ?_
     have hn := n45
     rw [hS0] at hn
     exact hn
    ·
     refine w_opm (a := .ptr 3 0) (σ'' := ⟨[(26, (Enc.cells (x1 : Trc))), (26, (Enc.cells ((Trc.mk x2 x1.e) : Trc))), (43, (Enc.cellsL ((sub x1.l (Int.tmod cut ((List.length x1.l : Int) + 1)) (List.length x1.l : Int)) : List En))), (26, [.list 0 [] .full, .raw (.int .u8 0), .raw (.int .i64 0)])], [], [], 0, false⟩) rfl rfl rfl rfl (by dsimp only [aput, List.set]) rfl ?_
     have hn := n46
     rw [hS0] at hn
     exact hn
   have n38 : aany (ITP Tryd.prog) Tryd.prog none ops FIN 5 ⟨[true, false, true, false, false, true, true, false, true, false]⟩ (setAll S0 [(12, .ptr 2 0), (40, .ptr 0 0), (42, .raw (.int .i64 (Int.tmod cut ((List.length x1.l : Int) + 1)))), (45, .ptr 0 1), (46, .agg (Enc.cells (x1.e : Ed)))]) ⟨[(26, (Enc.cells (x1 : Trc))), (26, (Enc.cells ((Trc.mk x2 x1.e) : Trc))), (26, [.list 0 [] .full, .raw (.int .u8 0), .raw (.int .i64 0)])], [], [], 0, false⟩ := by
    rw [hS0]
    dsimp only [setAll, List.foldl, List.set]
    refine aany_n hops [1] (by kernel_rfl) (by decide) (all_cons (aopAt_s hops rfl ?_) all_nil)
    ·
     refine w_op (a := .list (List.length (x1.l : List En)) (Enc.cellsL (x1.l : List En)) .none) rfl rfl rfl rfl (by dsimp only [aput, List.set]) ?_
     have hn := n44
     rw [hS0] at hn
     exact hn
   have n37 : aany (ITP Tryd.prog) Tryd.prog none ops FIN 5 ⟨[true, true, false, false, false, true, true, false, true, false]⟩ (setAll S0 [(12, .ptr 2 0), (40, .ptr 0 0), (41, .list (List.length (x1.l : List En)) (Enc.cellsL (x1.l : List En)) .none), (45, .ptr 0 1), (46, .agg (Enc.cells (x1.e : Ed)))]) ⟨[(26, (Enc.cells (x1 : Trc))), (26, (Enc.cells ((Trc.mk x2 x1.e) : Trc))), (26, [.list 0 [] .full, .raw (.int .u8 0), .raw (.int .i64 0)])], [], [], 0, false⟩ := by
    rw [hS0]
    dsimp only [setAll, List.foldl, List.set]
    refine aany_n hops [2] (by kernel_rfl) (by decide) (all_cons (aopAt_s hops rfl ?_) all_nil)
    ·
     refine w_op (a := .raw (.int .i64 (Int.tmod cut ((List.length x1.l : Int) + 1)))) rfl rfl rfl rfl (by dsimp only [aput, List.set]) ?_
     have hn := n44
     rw [hS0] at hn
     exact hn
   have n36 : aany (ITP Tryd.prog) Tryd.prog none ops FIN 5 ⟨[true, true, true, false, false, true, false, false, true, false]⟩ (setAll S0 [(12, .ptr 2 0), (40, .ptr 0 0), (41, .list (List.length (x1.l : List En)) (Enc.cellsL (x1.l : List En)) .none), (42, .raw (.int .i64 (Int.tmod cut ((List.length x1.l : Int) + 1)))), (45, .ptr 0 1)]) ⟨[(26, (Enc.cells (x1 : Trc))), (26, (Enc.cells ((Trc.mk x2 x1.e) : Trc))), (26, [.list 0 [] .full, .raw (.int .u8 0), .raw (.int .i64 0)])], [], [], 0, false⟩ := by
    rw [hS0]
    dsimp only [setAll, List.foldl, List.set]
    refine aany_n hops [3, 6] (by kernel_rfl) (by decide) (all_cons (aopAt_s hops rfl ?_) (all_cons (aopAt_s hops rfl ?_) all_nil))
    ·
     refine w_qs (.list (List.length ((sub x1.l (Int.tmod cut ((List.length x1.l : Int) + 1)) (List.length x1.l : Int)) : List En)) (Enc.cellsL ((sub x1.l (Int.tmod cut ((List.length x1.l : Int) + 1)) (List.length x1.l : Int)) : List En)) .none) rfl rfl rfl (q_subL_ (α := En) (l := x1.l) g20 rfl rfl rfl rfl rfl) (strip_sub _ _ _) (by dsimp only [aput, List.set]) ?_
     have hn := n42
     rw [hS0] at hn
     exact hn
    ·
     refine w_op (a := .agg (Enc.cells (x1.e : Ed))) rfl rfl rfl rfl (by dsimp only [aput, List.set]) ?_
     have hn := n44
     rw [hS0] at hn
     exact hn
   have n35 : aany (ITP Tryd.prog) Tryd.prog none ops FIN 5 ⟨[true, true, true, false, false, true, true, false, false, false]⟩ (setAll S0 [(40, .ptr 0 0), (41, .list (List.length (x1.l : List En)) (Enc.cellsL (x1.l : List En)) .none), (42, .raw (.int .i64 (Int.tmod cut ((List.length x1.l : Int) + 1)))), (45, .ptr 0 1), (46, .agg (Enc.cells (x1.e : Ed)))]) ⟨[(26, (Enc.cells (x1 : Trc))), (26, (Enc.cells ((Trc.mk x2 x1.e) : Trc)))], [], [], 0, false⟩ := by
    rw [hS0]
    dsimp only [setAll, List.foldl, List.set]
    refine aany_n hops [3, 8] (by kernel_rfl) (by decide) (all_cons (aopAt_s hops rfl ?_) (all_cons (aopAt_s hops rfl ?_) all_nil))
    ·
     refine w_qs (.list (List.length ((sub x1.l (Int.tmod cut ((List.length x1.l : Int) + 1)) (List.length x1.l : Int)) : List En)) (Enc.cellsL ((sub x1.l (Int.tmod cut ((List.length x1.l : Int) + 1)) (List.length x1.l : Int)) : List En)) .none) rfl rfl rfl (q_subL_ (α := En) (l := x1.l) g20 rfl rfl rfl rfl rfl) (strip_sub _ _ _) (by dsimp only [aput, List.set]) ?_
     have hn := n41
     rw [hS0] at hn
     exact hn
    ·
     refine w_opm (a := .ptr 2 0) (σ'' := ⟨[(26, (Enc.cells (x1 : Trc))), (26, (Enc.cells ((Trc.mk x2 x1.e) : Trc))), (26, [.list 0 [] .full, .raw (.int .u8 0), .raw (.int .i64 0)])], [], [], 0, false⟩) rfl rfl rfl rfl (by dsimp only [aput, List.set]) rfl ?_
     have hn := n44
     rw [hS0] at hn
     exact hn
   have n34 : aany (ITP Tryd.prog) Tryd.prog none ops FIN 5 ⟨[true, true, true, true, false, false, false, false, true, false]⟩ (setAll S0 [(12, .ptr 2 0), (40, .ptr 0 0), (41, .list (List.length (x1.l : List En)) (Enc.cellsL (x1.l : List En)) .none), (42, .raw (.int .i64 (Int.tmod cut ((List.length x1.l : Int) + 1)))), (43, .list (List.length ((sub x1.l (Int.tmod cut ((List.length x1.l : Int) + 1)) (List.length x1.l : Int)) : List En)) (Enc.cellsL ((sub x1.l (Int.tmod cut ((List.length x1.l : Int) + 1)) (List.length x1.l : Int)) : List En)) .none)]) ⟨[(26, (Enc.cells (x1 : Trc))), (26, (Enc.cells ((Trc.mk x2 x1.e) : Trc))), (26, [.list 0 [] .full, .raw (.int .u8 0), .raw (.int .i64 0)])], [], [], 0, false⟩ := by
    rw [hS0]
    dsimp only [setAll, List.foldl, List.set]
    refine aany_n hops [4, 5] (by kernel_rfl) (by decide) (all_cons (aopAt_s hops rfl ?_) (all_cons (aopAt_s hops rfl ?_) all_nil))
    ·
     refine w_snd (r := .bsl 3 0 (List.length (sub x1.l (Int.tmod cut ((List.length x1.l : Int) + 1)) (List.length x1.l : Int))) 4 false) (σ' := ⟨[(26, (Enc.cells (x1 : Trc))), (26, (Enc.cells ((Trc.mk x2 x1.e) : Trc))), (26, [.list 0 [] .full, .raw (.int .u8 0), .raw (.int .i64 0)]), (43, (Enc.cellsL ((sub x1.l (Int.tmod cut ((List.length x1.l : Int) + 1)) (List.length x1.l : Int)) : List En)))], [], [], 0, false⟩) (clone_cons (sub x1.l (Int.tmod cut ((List.length x1.l : Int) + 1)) (List.length x1.l : Int)) (len_pos hc1) g21 3 _ rfl) rfl rfl ⟨rfl, rfl⟩ (by dsimp only [aput, List.set]) ?_
     have hn := n43
     rw [hS0] at hn
     exact hn
    ·
     refine w_op (a := .ptr 0 1) rfl rfl rfl rfl (by dsimp only [aput, List.set]) ?_
     have hn := n42
     rw [hS0] at hn
     exact hn
   have n33 : aany (ITP Tryd.prog) Tryd.prog none ops FIN 5 ⟨[true, true, true, true, false, true, false, false, false, false]⟩ (setAll S0 [(40, .ptr 0 0), (41, .list (List.length (x1.l : List En)) (Enc.cellsL (x1.l : List En)) .none), (42, .raw (.int .i64 (Int.tmod cut ((List.length x1.l : Int) + 1)))), (43, .list (List.length ((sub x1.l (Int.tmod cut ((List.length x1.l : Int) + 1)) (List.length x1.l : Int)) : List En)) (Enc.cellsL ((sub x1.l (Int.tmod cut ((List.length x1.l : Int) + 1)) (List.length x1.l : Int)) : List En)) .none), (45, .ptr 0 1)]) ⟨[(26, (Enc.cells (x1 : Trc))), (26, (Enc.cells ((Trc.mk x2 x1.e) : Trc)))], [], [], 0, false⟩ := by
    rw [hS0]
    dsimp only [setAll, List.foldl, List.set]
    refine aany_n hops [4, 6, 8] (by kernel_rfl) (by decide) (all_cons (aopAt_s hops rfl ?_) (all_cons (aopAt_s hops rfl ?_) (all_cons (aopAt_s hops rfl ?_) all_nil)))
    ·
     refine w_snd (r := .bsl 2 0 (List.length (sub x1.l (Int.tmod cut ((List.length x1.l : Int) + 1)) (List.length x1.l : Int))) 4 false) (σ' := ⟨[(26, (Enc.cells (x1 : Trc))), (26, (Enc.cells ((Trc.mk x2 x1.e) : Trc))), (43, (Enc.cellsL ((sub x1.l (Int.tmod cut ((List.length x1.l : Int) + 1)) (List.length x1.l : Int)) : List En)))], [], [], 0, false⟩) (clone_cons (sub x1.l (Int.tmod cut ((List.length x1.l : Int) + 1)) (List.length x1.l : Int)) (len_pos hc1) g21 2 _ rfl) rfl rfl ⟨rfl, rfl⟩ (by dsimp only [aput, List.set]) ?_
     have hn := n39
     rw [hS0] at hn
     exact hn
    ·
     refine w_op (a := .agg (Enc.cells (x1.e : Ed))) rfl rfl rfl rfl (by dsimp only [aput, List.set]) ?_
     have hn := n41
     rw [hS0] at hn
     exact hn
    ·
     refine w_opm (a := .ptr 2 0) (σ'' := ⟨[(26, (Enc.cells (x1 : Trc))), (26, (Enc.cells ((Trc.mk x2 x1.e) : Trc))), (26, [.list 0 [] .full, .raw (.int .u8 0), .raw (.int .i64 0)])], [], [], 0, false⟩) rfl rfl rfl rfl (by dsimp only [aput, List.set]) rfl ?_
     have hn := n42
     rw [hS0] at hn
     exact hn
   have n32 : aany (ITP Tryd.prog) Tryd.prog none ops FIN 5 ⟨[true, true, true, true, true, false, false, false, false, false]⟩ (setAll S0 [(40, .ptr 0 0), (41, .list (List.length (x1.l : List En)) (Enc.cellsL (x1.l : List En)) .none), (42, .raw (.int .i64 (Int.tmod cut ((List.length x1.l : Int) + 1)))), (43, .list (List.length ((sub x1.l (Int.tmod cut ((List.length x1.l : Int) + 1)) (List.length x1.l : Int)) : List En)) (Enc.cellsL ((sub x1.l (Int.tmod cut ((List.length x1.l : Int) + 1)) (List.length x1.l : Int)) : List En)) .none), (44, .bsl 2 0 (List.length (sub x1.l (Int.tmod cut ((List.length x1.l : Int) + 1)) (List.length x1.l : Int))) 4 false)]) ⟨[(26, (Enc.cells (x1 : Trc))), (26, (Enc.cells ((Trc.mk x2 x1.e) : Trc))), (43, (Enc.cellsL ((sub x1.l (Int.tmod cut ((List.length x1.l : Int) + 1)) (List.length x1.l : Int)) : List En)))], [], [], 0, false⟩ := by
    rw [hS0]
    dsimp only [setAll, List.foldl, List.set]
    refine aany_n hops [5, 8] (by kernel_rfl) (by decide) (all_cons (aopAt_s hops rfl ?_) (all_cons (aopAt_s hops rfl ?_) all_nil))
    ·
     refine w_op (a := .ptr 0 1) rfl rfl rfl rfl (by dsimp only [aput, List.set]) ?_
     have hn := n39
     rw [hS0] at hn
     exact hn
    ·
     refine w_opm (a := .ptr 3 0) (σ'' := ⟨[(26, (Enc.cells (x1 : Trc))), (26, (Enc.cells ((Trc.mk x2 x1.e) : Trc))), (43, (Enc.cellsL ((sub x1.l (Int.tmod cut ((List.length x1.l : Int) + 1)) (List.length x1.l : Int)) : List En))), (26, [.list 0 [] .full, .raw (.int .u8 0), .raw (.int .i64 0)])], [], [], 0, false⟩) rfl rfl rfl rfl (by dsimp only [aput, List.set]) rfl ?_
     have hn := n40
     rw [hS0] at hn
     exact hn
   have n31 : aany (ITP Tryd.prog) Tryd.prog none ops FIN 6 ⟨[false, false, true, false, false, true, true, false, true, false]⟩ (setAll S0 [(12, .ptr 2 0), (42, .raw (.int .i64 (Int.tmod cut ((List.length x1.l : Int) + 1)))), (45, .ptr 0 1), (46, .agg (Enc.cells (x1.e : Ed)))]) ⟨[(26, (Enc.cells (x1 : Trc))), (26, (Enc.cells ((Trc.mk x2 x1.e) : Trc))), (26, [.list 0 [] .full, .raw (.int .u8 0), .raw (.int .i64 0)])], [], [], 0, false⟩ := by
    rw [hS0]
    dsimp only [setAll, List.foldl, List.set]
    refine aany_n hops [0] (by kernel_rfl) (by decide) (all_cons (aopAt_s hops rfl ?_) all_nil)
    ·
     refine w_op (a := .ptr 0 0) rfl rfl rfl rfl (by dsimp only [aput, List.set]) ?_
     have hn := n38
     rw [hS0] at hn
     exact hn
   have n30 : aany (ITP Tryd.prog) Tryd.prog none ops FIN 6 ⟨[true, false, false, false, false, true, true, false, true, false]⟩ (setAll S0 [(12, .ptr 2 0), (40, .ptr 0 0), (45, .ptr 0 1), (46, .agg (Enc.cells (x1.e : Ed)))]) ⟨[(26, (Enc.cells (x1 : Trc))), (26, (Enc.cells ((Trc.mk x2 x1.e) : Trc))), (26, [.list 0 [] .full, .raw (.int .u8 0), .raw (.int .i64 0)])], [], [], 0, false⟩ := by
    rw [hS0]
    dsimp only [setAll, List.foldl, List.set]
    refine aany_n hops [1, 2] (by kernel_rfl) (by decide) (all_cons (aopAt_s hops rfl ?_) (all_cons (aopAt_s hops rfl ?_) all_nil))
    ·
     refine w_op (a := .list (List.length (x1.l : List En)) (Enc.cellsL (x1.l : List En)) .none) rfl rfl rfl rfl (by dsimp only [aput, List.set]) ?_
     have hn := n37
     rw [hS0] at hn
     exact hn
    ·
     refine w_op (a := .raw (.int .i64 (Int.tmod cut ((List.length x1.l : Int) + 1)))) rfl rfl rfl rfl (by dsimp only [aput, List.set]) ?_
     have hn := n38
     rw [hS0] at hn
     exact hn
   have n29 : aany (ITP Tryd.prog) Tryd.prog none ops FIN 6 ⟨[true, false, true, false, false, true, false, false, true, false]⟩ (setAll S0 [(12, .ptr 2 0), (40, .ptr 0 0), (42, .raw (.int .i64 (Int.tmod cut ((List.length x1.l : Int) + 1)))), (45, .ptr 0 1)]) ⟨[(26, (Enc.cells (x1 : Trc))), (26, (Enc.cells ((Trc.mk x2 x1.e) : Trc))), (26, [.list 0 [] .full, .raw (.int .u8 0), .raw (.int .i64 0)])], [], [], 0, false⟩ := by
    rw [hS0]
    dsimp only [setAll, List.foldl, List.set]
    refine aany_n hops [1, 6] (by kernel_rfl) (by decide) (all_cons (aopAt_s hops rfl ?_) (all_cons (aopAt_s hops rfl ?_) all_nil))
    ·
     refine w_op (a := .list (List.length (x1.l : List En)) (Enc.cellsL (x1.l : List En)) .none) rfl rfl rfl rfl (by dsimp only [aput, List.set]) ?_
     have hn := n36
     rw [hS0] at hn
     exact hn
    ·
     refine w_op (a := .agg (Enc.cells (x1.e : Ed))) rfl rfl rfl rfl (by dsimp only [aput, List.set]) ?_
     have hn := n38
     rw [hS0] at hn
     exact hn
   have n28 : aany (ITP Tryd.prog) Tryd.prog none ops FIN 6 ⟨[true, false, true, false, false, true, true, false, false, false]⟩ (setAll S0 [(40, .ptr 0 0), (42, .raw (.int .i64 (Int.tmod cut ((List.length x1.l : Int) + 1)))), (45, .ptr 0 1), (46, .agg (Enc.cells (x1.e : Ed)))]) ⟨[(26, (Enc.cells (x1 : Trc))), (26, (Enc.cells ((Trc.mk x2 x1.e) : Trc)))], [], [], 0, false⟩ := by
    rw [hS0]
    dsimp only [setAll, List.foldl, List.set]
    refine aany_n hops [1, 8] (by kernel_rfl) (by decide) (all_cons (aopAt_s hops rfl ?_) (all_cons (aopAt_s hops rfl ?_) all_nil))
    ·
     refine w_op (a := .list (List.length (x1.l : List En)) (Enc.cellsL (x1.l : List En)) .none) rfl rfl rfl rfl (by dsimp only [aput, List.set]) ?_
     have hn := n35
     rw [hS0] at hn
     exact hn
    ·
     refine w_opm (a := .ptr 2 0) (σ'' := ⟨[(26, (Enc.cells (x1 : Trc))), (26, (Enc.cells ((Trc.mk x2 x1.e) : Trc))), (26, [.list 0 [] .full, .raw (.int .u8 0), .raw (.int .i64 0)])], [], [], 0, false⟩) rfl rfl rfl rfl (by dsimp only [aput, List.set]) rfl ?_
     have hn := n38
     rw [hS0] at hn
     exact hn
   have n27 : aany (ITP Tryd.prog) Tryd.prog none ops FIN 6 ⟨[true, true, false, false, false, true, false, false, true, false]⟩ (setAll S0 [(12, .ptr 2 0), (40, .ptr 0 0), (41, .list (List.length (x1.l : List En)) (Enc.cellsL (x1.l : List En)) .none), (45, .ptr 0 1)]) ⟨[(26, (Enc.cells (x1 : Trc))), (26, (Enc.cells ((Trc.mk x2 x1.e) : Trc))), (26, [.list 0 [] .full, .raw (.int .u8 0), .raw (.int .i64 0)])], [], [], 0, false⟩ := by
    rw [hS0]
    dsimp only [setAll, List.foldl, List.set]
    refine aany_n hops [2, 6] (by kernel_rfl) (by decide) (all_cons (aopAt_s hops rfl ?_) (all_cons (aopAt_s hops rfl ?_) all_nil))
    ·
     refine w_op (a := .raw (.int .i64 (Int.tmod cut ((List.length x1.l : Int) + 1)))) rfl rfl rfl rfl (by dsimp only [aput, List.set]) ?_
     have hn := n36
     rw [hS0] at hn
     exact hn
    ·
     refine w_op (a := .agg (Enc.cells (x1.e : Ed))) rfl rfl rfl rfl (by dsimp only [aput, List.set]) ?_
     have hn := n37
     rw [hS0] at hn
     exact hn
   have n26 : aany (ITP Tryd.prog) Tryd.prog none ops FIN 6 ⟨[true, true, false, false, false, true, true, false, false, false]⟩ (setAll S0 [(40, .ptr 0 0), (41, .list (List.length (x1.l : List En)) (Enc.cellsL (x1.l : List En)) .none), (45, .ptr 0 1), (46, .agg (Enc.cells (x1.e : Ed)))]) ⟨[(26, (Enc.cells (x1 : Trc))), (26, (Enc.cells ((Trc.mk x2 x1.e) : Trc)))], [], [], 0, false⟩ := by
    rw [hS0]
    dsimp only [setAll, List.foldl, List.set]
    refine aany_n hops [2, 8] (by kernel_rfl) (by decide) (all_cons (aopAt_s hops rfl ?_) (all_cons (aopAt_s hops rfl ?_) all_nil))
    ·
     refine w_op (a := .raw (.int .i64 (Int.tmod cut ((List.length x1.l : Int) + 1)))) rfl rfl rfl rfl (by dsimp only [aput, List.set]) ?_
     have hn := n35
     rw [hS0] at hn
     exact hn
    ·
     refine w_opm (a := .ptr 2 0) (σ'' := ⟨[(26, (Enc.cells (x1 : Trc))), (26, (Enc.cells ((Trc.mk x2 x1.e) : Trc))), (26, [.list 0 [] .full, .raw (.int .u8 0), .raw (.int .i64 0)])], [], [], 0, false⟩) rfl rfl rfl rfl (by dsimp only [aput, List.set]) rfl ?_
     have hn := n37
     rw [hS0] at hn
     exact hn
   have n25 : aany (ITP Tryd.prog) Tryd.prog none ops FIN 6 ⟨[true, true, true, false, false, false, false, false, true, false]⟩ (setAll S0 [(12, .ptr 2 0), (40, .ptr 0 0), (41, .list (List.length (x1.l : List En)) (Enc.cellsL (x1.l : List En)) .none), (42, .raw (.int .i64 (Int.tmod cut ((List.length x1.l : Int) + 1))))]) ⟨[(26, (Enc.cells (x1 : Trc))), (26, (Enc.cells ((Trc.mk x2 x1.e) : Trc))), (26, [.list 0 [] .full, .raw (.int .u8 0), .raw (.int .i64 0)])], [], [], 0, false⟩ := by
    rw [hS0]
    dsimp only [setAll, List.foldl, List.set]
    refine aany_n hops [3, 5] (by kernel_rfl) (by decide) (all_cons (aopAt_s hops rfl ?_) (all_cons (aopAt_s hops rfl ?_) all_nil))
    ·
     refine w_qs (.list (List.length ((sub x1.l (Int.tmod cut ((List.length x1.l : Int) + 1)) (List.length x1.l : Int)) : List En)) (Enc.cellsL ((sub x1.l (Int.tmod cut ((List.length x1.l : Int) + 1)) (List.length x1.l : Int)) : List En)) .none) rfl rfl rfl (q_subL_ (α := En) (l := x1.l) g20 rfl rfl rfl rfl rfl) (strip_sub _ _ _) (by dsimp only [aput, List.set]) ?_
     have hn := n34
     rw [hS0] at hn
     exact hn
    ·
     refine w_op (a := .ptr 0 1) rfl rfl rfl rfl (by dsimp only [aput, List.set]) ?_
     have hn := n36
     rw [hS0] at hn
     exact hn
   have n24 : aany (ITP Tryd.prog) Tryd.prog none ops FIN 6 ⟨[true, true, true, false, false, true, false, false, false, false]⟩ (setAll S0 [(40, .ptr 0 0), (41, .list (List.length (x1.l : List En)) (Enc.cellsL (x1.l : List En)) .none), (42, .raw (.int .i64 (Int.tmod cut ((List.length x1.l : Int) + 1)))), (45, .ptr 0 1)]) ⟨[(26, (Enc.cells (x1 : Trc))), (26, (Enc.cells ((Trc.mk x2 x1.e) : Trc)))], [], [], 0, false⟩ := by
    rw [hS0]
    dsimp only [setAll, List.foldl, List.set]
    refine aany_n hops [3, 6, 8] (by kernel_rfl) (by decide) (all_cons (aopAt_s hops rfl ?_) (all_cons (aopAt_s hops rfl ?_) (all_cons (aopAt_s hops rfl ?_) all_nil)))
    ·
     refine w_qs (.list (List.length ((sub x1.l (Int.tmod cut ((List.length x1.l : Int) + 1)) (List.length x1.l : Int)) : List En)) (Enc.cellsL ((sub x1.l (Int.tmod cut ((List.length x1.l : Int) + 1)) (List.length x1.l : Int)) : List En)) .none) rfl rfl rfl (q_subL_ (α := En) (l := x1.l) g20 rfl rfl rfl rfl rfl) (strip_sub _ _ _) (by dsimp only [aput, List.set]) ?_
     have hn := n33
     rw [hS0] at hn
     exact hn
    ·
     refine w_op (a := .agg (Enc.cells (x1.e : Ed))) rfl rfl rfl rfl (by dsimp only [aput, List.set]) ?_
     have hn := n35
     rw [hS0] at hn
     exact hn
    ·
     refine w_opm (a := .ptr 2 0) (σ'' := ⟨[(26, (Enc.cells (x1 : Trc))), (26, (Enc.cells ((Trc.mk x2 x1.e) : Trc))), (26, [.list 0 [] .full, .raw (.int .u8 0), .raw (.int .i64 0)])], [], [], 0, false⟩) rfl rfl rfl rfl (by dsimp only [aput, List.set]) rfl ?_
     have hn := n36
     rw [hS0] at hn
     exact hn
   have n23 : aany (ITP Tryd.prog) Tryd.prog none ops FIN 6 ⟨[true, true, true, true, false, false, false, false, false, false]⟩ (setAll S0 [(40, .ptr 0 0), (41, .list (List.length (x1.l : List En)) (Enc.cellsL (x1.l : List En)) .none), (42, .raw (.int .i64 (Int.tmod cut ((List.length x1.l : Int) + 1)))), (43, .list (List.length ((sub x1.l (Int.tmod cut ((List.length x1.l : Int) + 1)) (List.length x1.l : Int)) : List En)) (Enc.cellsL ((sub x1.l (Int.tmod cut ((List.length x1.l : Int) + 1)) (List.length x1.l : Int)) : List En)) .none)]) ⟨[(26, (Enc.cells (x1 : Trc))), (26, (Enc.cells ((Trc.mk x2 x1.e) : Trc)))], [], [], 0, false⟩ := by
    rw [hS0]
    dsimp only [setAll, List.foldl, List.set]
    refine aany_n hops [4, 5, 8] (by kernel_rfl) (by decide) (all_cons (aopAt_s hops rfl ?_) (all_cons (aopAt_s hops rfl ?_) (all_cons (aopAt_s hops rfl ?_) all_nil)))
    ·
     refine w_snd (r := .bsl 2 0 (List.length (sub x1.l (Int.tmod cut ((List.length x1.l : Int) + 1)) (List.length x1.l : Int))) 4 false) (σ' := ⟨[(26, (Enc.cells (x1 : Trc))), (26, (Enc.cells ((Trc.mk x2 x1.e) : Trc))), (43, (Enc.cellsL ((sub x1.l (Int.tmod cut ((List.length x1.l : Int) + 1)) (List.length x1.l : Int)) : List En)))], [], [], 0, false⟩) (clone_cons (sub x1.l (Int.tmod cut ((List.length x1.l : Int) + 1)) (List.length x1.l : Int)) (len_pos hc1) g21 2 _ rfl) rfl rfl ⟨rfl, rfl⟩ (by dsimp only [aput, List.set]) ?_
     have hn := n32
     rw [hS0] at hn
     exact hn
    ·
     refine w_op (a := .ptr 0 1) rfl rfl rfl rfl (by dsimp only [aput, List.set]) ?_
     have hn := n33
     rw [hS0] at hn
     exact hn
    ·
     refine w_opm (a := .ptr 2 0) (σ'' := ⟨[(26, (Enc.cells (x1 : Trc))), (26, (Enc.cells ((Trc.mk x2 x1.e) : Trc))), (26, [.list 0 [] .full, .raw (.int .u8 0), .raw (.int .i64 0)])], [], [], 0, false⟩) rfl rfl rfl rfl (by dsimp only [aput, List.set]) rfl ?_
     have hn := n34
     rw [hS0] at hn
     exact hn
   have n22 : aany (ITP Tryd.prog) Tryd.prog none ops FIN 7 ⟨[false, false, false, false, false, true, true, false, true, false]⟩ (setAll S0 [(12, .ptr 2 0), (45, .ptr 0 1), (46, .agg (Enc.cells (x1.e : Ed)))]) ⟨[(26, (Enc.cells (x1 : Trc))), (26, (Enc.cells ((Trc.mk x2 x1.e) : Trc))), (26, [.list 0 [] .full, .raw (.int .u8 0), .raw (.int .i64 0)])], [], [], 0, false⟩ := by
    rw [hS0]
    dsimp only [setAll, List.foldl, List.set]
    refine aany_n hops [0, 2] (by kernel_rfl) (by decide) (all_cons (aopAt_s hops rfl ?_) (all_cons (aopAt_s hops rfl ?_) all_nil))
    ·
     refine w_op (a := .ptr 0 0) rfl rfl rfl rfl (by dsimp only [aput, List.set]) ?_
     have hn := n30
     rw [hS0] at hn
     exact hn
    ·
     refine w_op (a := .raw (.int .i64 (Int.tmod cut ((List.length x1.l : Int) + 1)))) rfl rfl rfl rfl (by dsimp only [aput, List.set]) ?_
     have hn := n31
     rw [hS0] at hn
     exact hn
   have n21 : aany (ITP Tryd.prog) Tryd.prog none ops FIN 7 ⟨[false, false, true, false, false, true, false, false, true, false]⟩ (setAll S0 [(12, .ptr 2 0), (42, .raw (.int .i64 (Int.tmod cut ((List.length x1.l : Int) + 1)))), (45, .ptr 0 1)]) ⟨[(26, (Enc.cells (x1 : Trc))), (26, (Enc.cells ((Trc.mk x2 x1.e) : Trc))), (26, [.list 0 [] .full, .raw (.int .u8 0), .raw (.int .i64 0)])], [], [], 0, false⟩ := by
    rw [hS0]
    dsimp only [setAll, List.foldl, List.set]
    refine aany_n hops [0, 6] (by kernel_rfl) (by decide) (all_cons (aopAt_s hops rfl ?_) (all_cons (aopAt_s hops rfl ?_) all_nil))
    ·
     refine w_op (a := .ptr 0 0) rfl rfl rfl rfl (by dsimp only [aput, List.set]) ?_
     have hn := n29
     rw [hS0] at hn
     exact hn
    ·
     refine w_op (a := .agg (Enc.cells (x1.e : Ed))) rfl rfl rfl rfl (by dsimp only [aput, List.set]) ?_
     have hn := n31
     rw [hS0] at hn
     exact hn
   have n20 : aany (ITP Tryd.prog) Tryd.prog none ops FIN 7 ⟨[false, false, true, false, false, true, true, false, false, false]⟩ (setAll S0 [(42, .raw (.int .i64 (Int.tmod cut ((List.length x1.l : Int) + 1)))), (45, .ptr 0 1), (46, .agg (Enc.cells (x1.e : Ed)))]) ⟨[(26, (Enc.cells (x1 : Trc))), (26, (Enc.cells ((Trc.mk x2 x1.e) : Trc)))], [], [], 0, false⟩ := by
    rw [hS0]
    dsimp only [setAll, List.foldl, List.set]
    refine aany_n hops [0, 8] (by kernel_rfl) (by decide) (all_cons (aopAt_s hops rfl ?_) (all_cons (aopAt_s hops rfl ?_) all_nil))
    ·
     refine w_op (a := .ptr 0 0) rfl rfl rfl rfl (by dsimp only [aput, List.set]) ?_
     have hn := n28
     rw [hS0] at hn
     exact hn
    ·
     refine w_opm (a := .ptr 2 0) (σ'' := ⟨[(26, (Enc.cells (x1 : Trc))), (26, (Enc.cells ((Trc.mk x2 x1.e) : Trc))), (26, [.list 0 [] .full, .raw (.int .u8 0), .raw (.int .i64 0)])], [], [], 0, false⟩) rfl rfl rfl rfl (by dsimp only [aput, List.set]) rfl ?_
     have hn := n31
     rw [hS0] at hn
     exact hn
   have n19 : aany (ITP Tryd.prog) Tryd.prog none ops FIN 7 ⟨[true, false, false, false, false, true, false, false, true, false]⟩ (setAll S0 [(12, .ptr 2 0), (40, .ptr 0 0), (45, .ptr 0 1)]) ⟨[(26, (Enc.cells (x1 : Trc))), (26, (Enc.cells ((Trc.mk x2 x1.e) : Trc))), (26, [.list 0 [] .full, .raw (.int .u8 0), .raw (.int .i64 0)])], [], [], 0, false⟩ := by
    rw [hS0]
    dsimp only [setAll, List.foldl, List.set]
    refine aany_n hops [1, 2, 6] (by kernel_rfl) (by decide) (all_cons (aopAt_s hops rfl ?_) (all_cons (aopAt_s hops rfl ?_) (all_cons (aopAt_s hops rfl ?_) all_nil)))
    ·
     refine w_op (a := .list (List.length (x1.l : List En)) (Enc.cellsL (x1.l : List En)) .none) rfl rfl rfl rfl (by dsimp only [aput, List.set]) ?_
     have hn := n27
     rw [hS0] at hn
     exact hn
    ·
     refine w_op (a := .raw (.int .i64 (Int.tmod cut ((List.length x1.l : Int) + 1)))) rfl rfl rfl rfl (by dsimp only [aput, List.set]) ?_
     have hn := n29
     rw [hS0] at hn
     exact hn
    ·
     refine w_op (a := .agg (Enc.cells (x1.e : Ed))) rfl rfl rfl rfl (by dsimp only [aput, List.set]) ?_
     have hn := n30
     rw [hS0] at hn
     exact hn
   have n18 : aany (ITP Tryd.prog) Tryd.prog none ops FIN 7 ⟨[true, false, false, false, false, true, true, false, false, false]⟩ (setAll S0 [(40, .ptr 0 0), (45, .ptr 0 1), (46, .agg (Enc.cells (x1.e : Ed)))]) ⟨[(26, (Enc.cells (x1 : Trc))), (26, (Enc.cells ((Trc.mk x2 x1.e) : Trc)))], [], [], 0, false⟩ := by
    rw [hS0]
    dsimp only [setAll, List.foldl, List.set]
    refine aany_n hops [1, 2, 8] (by kernel_rfl) (by decide) (all_cons (aopAt_s hops rfl ?_) (all_cons (aopAt_s hops rfl ?_) (all_cons (aopAt_s hops rfl ?_) all_nil)))
    ·
     refine w_op (a := .list (List.length (x1.l : List En)) (Enc.cellsL (x1.l : List En)) .none) rfl rfl rfl rfl (by dsimp only [aput, List.set]) ?_
     have hn := n26
     rw [hS0] at hn
     exact hn
    ·
     refine w_op (a := .raw (.int .i64 (Int.tmod cut ((List.length x1.l : Int) + 1)))) rfl rfl rfl rfl (by dsimp only [aput, List.set]) ?_
     have hn := n28
     rw [hS0] at hn
     exact hn
    ·
     refine w_opm (a := .ptr 2 0) (σ'' := ⟨[(26, (Enc.cells (x1 : Trc))), (26, (Enc.cells ((Trc.mk x2 x1.e) : Trc))), (26, [.list 0 [] .full, .raw (.int .u8 0), .raw (.int .i64 0)])], [], [], 0, false⟩) rfl rfl rfl rfl (by dsimp only [aput, List.set]) rfl ?_
     have hn := n30
     rw [hS0] at hn
     exact hn
   have n17 : aany (ITP Tryd.prog) Tryd.prog none ops FIN 7 ⟨[true, false, true, false, false, false, false, false, true, false]⟩ (setAll S0 [(12, .ptr 2 0), (40, .ptr 0 0), (42, .raw (.int .i64 (Int.tmod cut ((List.length x1.l : Int) + 1))))]) ⟨[(26, (Enc.cells (x1 : Trc))), (26, (Enc.cells ((Trc.mk x2 x1.e) : Trc))), (26, [.list 0 [] .full, .raw (.int .u8 0), .raw (.int .i64 0)])], [], [], 0, false⟩ := by
    rw [hS0]
    dsimp only [setAll, List.foldl, List.set]
    refine aany_n hops [1, 5] (by kernel_rfl) (by decide) (all_cons (aopAt_s hops rfl ?_) (all_cons (aopAt_s hops rfl ?_) all_nil))
    ·
     refine w_op (a := .list (List.length (x1.l : List En)) (Enc.cellsL (x1.l : List En)) .none) rfl rfl rfl rfl (by dsimp only [aput, List.set]) ?_
     have hn := n25
     rw [hS0] at hn
     exact hn
    ·
     refine w_op (a := .ptr 0 1) rfl rfl rfl rfl (by dsimp only [aput, List.set]) ?_
     have hn := n29
     rw [hS0] at hn
     exact hn
   have n16 : aany (ITP Tryd.prog) Tryd.prog none ops FIN 7 ⟨[true, false, true, false, false, true, false, false, false, false]⟩ (setAll S0 [(40, .ptr 0 0), (42, .raw (.int .i64 (Int.tmod cut ((List.length x1.l : Int) + 1)))), (45, .ptr 0 1)]) ⟨[(26, (Enc.cells (x1 : Trc))), (26, (Enc.cells ((Trc.mk x2 x1.e) : Trc)))], [], [], 0, false⟩ := by
    rw [hS0]
    dsimp only [setAll, List.foldl, List.set]
    refine aany_n hops [1, 6, 8] (by kernel_rfl) (by decide) (all_cons (aopAt_s hops rfl ?_) (all_cons (aopAt_s hops rfl ?_) (all_cons (aopAt_s hops rfl ?_) all_nil)))
    ·
     refine w_op (a := .list (List.length (x1.l : List En)) (Enc.cellsL (x1.l : List En)) .none) rfl rfl rfl rfl (by dsimp only [aput, List.set]) ?_
     have hn := n24
     rw [hS0] at hn
     exact hn
    ·
     refine w_op (a := .agg (Enc.cells (x1.e : Ed))) rfl rfl rfl rfl (by dsimp only [aput, List.set]) ?_
     have hn := n28
     rw [hS0] at hn
     exact hn
    ·
     refine w_opm (a := .ptr 2 0) (σ'' := ⟨[(26, (Enc.cells (x1 : Trc))), (26, (Enc.cells ((Trc.mk x2 x1.e) : Trc))), (26, [.list 0 [] .full, .raw (.int .u8 0), .raw (.int .i64 0)])], [], [], 0, false⟩) rfl rfl rfl rfl (by dsimp only [aput, List.set]) rfl ?_
     have hn := n29
     rw [hS0] at hn
     exact hn
   have n15 : aany (ITP Tryd.prog) Tryd.prog none ops FIN 7 ⟨[true, true, false, false, false, false, false, false, true, false]⟩ (setAll S0 [(12, .ptr 2 0), (40, .ptr 0 0), (41, .list (List.length (x1.l : List En)) (Enc.cellsL (x1.l : List En)) .none)]) ⟨[(26, (Enc.cells (x1 : Trc))), (26, (Enc.cells ((Trc.mk x2 x1.e) : Trc))), (26, [.list 0 [] .full, .raw (.int .u8 0), .raw (.int .i64 0)])], [], [], 0, false⟩ := by
    rw [hS0]
    dsimp only [setAll, List.foldl, List.set]
    refine aany_n hops [2, 5] (by kernel_rfl) (by decide) (all_cons (aopAt_s hops rfl ?_) (all_cons (aopAt_s hops rfl ?_) all_nil))
    ·
     refine w_op (a := .raw (.int .i64 (Int.tmod cut ((List.length x1.l : Int) + 1)))) rfl rfl rfl rfl (by dsimp only [aput, List.set]) ?_
     have hn := n25
     rw [hS0] at hn
     exact hn
    ·
     refine w_op (a := .ptr 0 1) rfl rfl rfl rfl (by dsimp only [aput, List.set]) ?_
     have hn := n27
     rw [hS0] at hn
     exact hn
   have n14 : aany (ITP Tryd.prog) Tryd.prog none ops FIN 7 ⟨[true, true, false, false, false, true, false, false, false, false]⟩ (setAll S0 [(40, .ptr 0 0), (41, .list (List.length (x1.l : List En)) (Enc.cellsL (x1.l : List En)) .none), (45, .ptr 0 1)]) ⟨[(26, (Enc.cells (x1 : Trc))), (26, (Enc.cells ((Trc.mk x2 x1.e) : Trc)))], [], [], 0, false⟩ := by
    rw [hS0]
    dsimp only [setAll, List.foldl, List.set]
    refine aany_n hops [2, 6, 8] (by kernel_rfl) (by decide) (all_cons (aopAt_s hops rfl ?_) (all_cons (aopAt_s hops rfl ?_) (all_cons (aopAt_s hops rfl ?_) all_nil)))
    ·
     refine w_op (a := .raw (.int .i64 (Int.tmod cut ((List.length x1.l : Int) + 1)))) rfl rfl rfl rfl (by dsimp only [aput, List.set]) ?_
     have hn := n24
     rw [hS0] at hn
     exact hn
    ·
     refine w_op (a := .agg (Enc.cells (x1.e : Ed))) rfl rfl rfl rfl (by dsimp only [aput, List.set]) ?_
     have hn := n26
     rw [hS0] at hn
     exact hn
    ·
     refine w_opm (a := .ptr 2 0) (σ'' := ⟨[(26, (Enc.cells (x1 : Trc))), (26, (Enc.cells ((Trc.mk x2 x1.e) : Trc))), (26, [.list 0 [] .full, .raw (.int .u8 0), .raw (.int .i64 0)])], [], [], 0, false⟩) rfl rfl rfl rfl (by dsimp only [aput, List.set]) rfl ?_
     have hn := n27
     rw [hS0] at hn
     exact hn
   have n13 : aany (ITP Tryd.prog) Tryd.prog none ops FIN 7 ⟨[true, true, true, false, false, false, false, false, false, false]⟩ (setAll S0 [(40, .ptr 0 0), (41, .list (List.length (x1.l : List En)) (Enc.cellsL (x1.l : List En)) .none), (42, .raw (.int .i64 (Int.tmod cut ((List.length x1.l : Int) + 1))))]) ⟨[(26, (Enc.cells (x1 : Trc))), (26, (Enc.cells ((Trc.mk x2 x1.e) : Trc)))], [], [], 0, false⟩ := by
    rw [hS0]
    dsimp only [setAll, List.foldl, List.set]
    refine aany_n hops [3, 5, 8] (by kernel_rfl) (by decide) (all_cons (aopAt_s hops rfl ?_) (all_cons (aopAt_s hops rfl ?_) (all_cons (aopAt_s hops rfl ?_) all_nil)))
    ·
     refine w_qs (.list (List.length ((sub x1.l (Int.tmod cut ((List.length x1.l : Int) + 1)) (List.length x1.l : Int)) : List En)) (Enc.cellsL ((sub x1.l (Int.tmod cut ((List.length x1.l : Int) + 1)) (List.length x1.l : Int)) : List En)) .none) rfl rfl rfl (q_subL_ (α := En) (l := x1.l) g20 rfl rfl rfl rfl rfl) (strip_sub _ _ _) (by dsimp only [aput, List.set]) ?_
     have hn := n23
     rw [hS0] at hn
     exact hn
    ·
     refine w_op (a := .ptr 0 1) rfl rfl rfl rfl (by dsimp only [aput, List.set]) ?_
     have hn := n24
     rw [hS0] at hn
     exact hn
    ·
     refine w_opm (a := .ptr 2 0) (σ'' := ⟨[(26, (Enc.cells (x1 : Trc))), (26, (Enc.cells ((Trc.mk x2 x1.e) : Trc))), (26, [.list 0 [] .full, .raw (.int .u8 0), .raw (.int .i64 0)])], [], [], 0, false⟩) rfl rfl rfl rfl (by dsimp only [aput, List.set]) rfl ?_
     have hn := n25
     rw [hS0] at hn
     exact hn
   have n12 : aany (ITP Tryd.prog) Tryd.prog none ops FIN 8 ⟨[false, false, false, false, false, true, false, false, true, false]⟩ (setAll S0 [(12, .ptr 2 0), (45, .ptr 0 1)]) ⟨[(26, (Enc.cells (x1 : Trc))), (26, (Enc.cells ((Trc.mk x2 x1.e) : Trc))), (26, [.list 0 [] .full, .raw (.int .u8 0), .raw (.int .i64 0)])], [], [], 0, false⟩ := by
    rw [hS0]
    dsimp only [setAll, List.foldl, List.set]
    refine aany_n hops [0, 2, 6] (by kernel_rfl) (by decide) (all_cons (aopAt_s hops rfl ?_) (all_cons (aopAt_s hops rfl ?_) (all_cons (aopAt_s hops rfl ?_) all_nil)))
    ·
     refine w_op (a := .ptr 0 0) rfl rfl rfl rfl (by dsimp only [aput, List.set]) ?_
     have hn := n19
     rw [hS0] at hn
     exact hn
    ·
     refine w_op (a := .raw (.int .i64 (Int.tmod cut ((List.length x1.l : Int) + 1)))) rfl rfl rfl rfl (by dsimp only [aput, List.set]) ?_
     have hn := n21
     rw [hS0] at hn
     exact hn
    ·
     refine w_op (a := .agg (Enc.cells (x1.e : Ed))) rfl rfl rfl rfl (by dsimp only [aput, List.set]) ?_
     have hn := n22
     rw [hS0] at hn
     exact hn
   have n11 : aany (ITP Tryd.prog) Tryd.prog none ops FIN 8 ⟨[false, false, false, false, false, true, true, false, false, false]⟩ (setAll S0 [(45, .ptr 0 1), (46, .agg (Enc.cells (x1.e : Ed)))]) ⟨[(26, (Enc.cells (x1 : Trc))), (26, (Enc.cells ((Trc.mk x2 x1.e) : Trc)))], [], [], 0, false⟩ := by
    rw [hS0]
    dsimp only [setAll, List.foldl, List.set]
    refine aany_n hops [0, 2, 8] (by kernel_rfl) (by decide) (all_cons (aopAt_s hops rfl ?_) (all_cons (aopAt_s hops rfl ?_) (all_cons (aopAt_s hops rfl ?_) all_nil)))
    ·
     refine w_op (a := .ptr 0 0) rfl rfl rfl rfl (by dsimp only [aput, List.set]) ?_
     have hn := n18
     rw [hS0] at hn
     exact hn
    ·
     refine w_op (a := .raw (.int .i64 (Int.tmod cut ((List.length x1.l : Int) + 1)))) rfl rfl rfl rfl (by dsimp only [aput, List.set]) ?_
     have hn := n20
     rw [hS0] at hn
     exact hn
    ·
     refine w_opm (a := .ptr 2 0) (σ'' := ⟨[(26, (Enc.cells (x1 : Trc))), (26, (Enc.cells ((Trc.mk x2 x1.e) : Trc))), (26, [.list 0 [] .full, .raw (.int .u8 0), .raw (.int .i64 0)])], [], [], 0, false⟩) rfl rfl rfl rfl (by dsimp only [aput, List.set]) rfl ?_
     have hn := n22
     rw [hS0] at hn
     exact hn
   have n10 : aany (ITP Tryd.prog) Tryd.prog none ops FIN 8 ⟨[false, false, true, false, false, false, false, false, true, false]⟩ (setAll S0 [(12, .ptr 2 0), (42, .raw (.int .i64 (Int.tmod cut ((List.length x1.l : Int) + 1))))]) ⟨[(26, (Enc.cells (x1 : Trc))), (26, (Enc.cells ((Trc.mk x2 x1.e) : Trc))), (26, [.list 0 [] .full, .raw (.int .u8 0), .raw (.int .i64 0)])], [], [], 0, false⟩ := by
    rw [hS0]
    dsimp only [setAll, List.foldl, List.set]
    refine aany_n hops [0, 5] (by kernel_rfl) (by decide) (all_cons (aopAt_s hops rfl ?_) (all_cons (aopAt_s hops rfl ?_) all_nil))
    ·
     refine w_op (a := .ptr 0 0) rfl rfl rfl rfl (by dsimp only [aput, List.set]) ?_
     have hn := n17
     rw [hS0] at hn
     exact hn
    ·
     refine w_op (a := .ptr 0 1) rfl rfl rfl rfl (by dsimp only [aput, List.set]) ?_
     have hn := n21
     rw [hS0] at hn
     exact hn
   have n9 : aany (ITP Tryd.prog) Tryd.prog none ops FIN 8 ⟨[false, false, true, false, false, true, false, false, false, false]⟩ (setAll S0 [(42, .raw (.int .i64 (Int.tmod cut ((List.length x1.l : Int) + 1)))), (45, .ptr 0 1)]) ⟨[(26, (Enc.cells (x1 : Trc))), (26, (Enc.cells ((Trc.mk x2 x1.e) : Trc)))], [], [], 0, false⟩ := by
    rw [hS0]
    dsimp only [setAll, List.foldl, List.set]
    refine aany_n hops [0, 6, 8] (by kernel_rfl) (by decide) (all_cons (aopAt_s hops rfl ?_) (all_cons (aopAt_s hops rfl ?_) (all_cons (aopAt_s hops rfl ?_) all_nil)))
    ·
     refine w_op (a := .ptr 0 0) rfl rfl rfl rfl (by dsimp only [aput, List.set]) ?_
     have hn := n16
     rw [hS0] at hn
     exact hn
    ·
     refine w_op (a := .agg (Enc.cells (x1.e : Ed))) rfl rfl rfl rfl (by dsimp only [aput, List.set]) ?_
     have hn := n20
     rw [hS0] at hn
     exact hn
    ·
     refine w_opm (a := .ptr 2 0) (σ'' := ⟨[(26, (Enc.cells (x1 : Trc))), (26, (Enc.cells ((Trc.mk x2 x1.e) : Trc))), (26, [.list 0 [] .full, .raw (.int .u8 0), .raw (.int .i64 0)])], [], [], 0, false⟩) rfl rfl rfl rfl (by dsimp only [aput, List.set]) rfl ?_
     have hn := n21
     rw [hS0] at hn
     exact hn
   have n8 : aany (ITP Tryd.prog) Tryd.prog none ops FIN 8 ⟨[true, false, false, false, false, false, false, false, true, false]⟩ (setAll S0 [(12, .ptr 2 0), (40, .ptr 0 0)]) ⟨[(26, (Enc.cells (x1 : Trc))), (26, (Enc.cells ((Trc.mk x2 x1.e) : Trc))), (26, [.list 0 [] .full, .raw (.int .u8 0), .raw (.int .i64 0)])], [], [], 0, false⟩ := by
    rw [hS0]
    dsimp only [setAll, List.foldl, List.set]
    refine aany_n hops [1, 2, 5] (by kernel_rfl) (by decide) (all_cons (aopAt_s hops rfl ?_) (all_cons (aopAt_s hops rfl ?_) (all_cons (aopAt_s hops rfl ?_) all_nil)))
    ·
     refine w_op (a := .list (List.length (x1.l : List En)) (Enc.cellsL (x1.l : List En)) .none) rfl rfl rfl rfl (by dsimp only [aput, List.set]) ?_
     have hn := n15
     rw [hS0] at hn
     exact hn
    ·
     refine w_op (a := .raw (.int .i64 (Int.tmod cut ((List.length x1.l : Int) + 1)))) rfl rfl rfl rfl (by dsimp only [aput, List.set]) ?_
     have hn := n17
     rw [hS0] at hn
     exact hn
    ·
     refine w_op (a := .ptr 0 1) rfl rfl rfl rfl (by dsimp only [aput, List.set]) ?_
     have hn := n19
     rw [hS0] at hn
     exact hn
   have n7 : aany (ITP Tryd.prog) Tryd.prog none ops FIN 8 ⟨[true, false, false, false, false, true, false, false, false, false]⟩ (setAll S0 [(40, .ptr 0 0), (45, .ptr 0 1)]) ⟨[(26, (Enc.cells (x1 : Trc))), (26, (Enc.cells ((Trc.mk x2 x1.e) : Trc)))], [], [], 0, false⟩ := by
    rw [hS0]
    dsimp only [setAll, List.foldl, List.set]
    refine aany_n hops [1, 2, 6, 8] (by kernel_rfl) (by decide) (all_cons (aopAt_s hops rfl ?_) (all_cons (aopAt_s hops rfl ?_) (all_cons (aopAt_s hops rfl ?_) (all_cons (aopAt_s hops rfl ?_) all_nil))))
    ·
     refine w_op (a := .list (List.length (x1.l : List En)) (Enc.cellsL (x1.l : List En)) .none) rfl rfl rfl rfl (by dsimp only [aput, List.set]) ?_
     have hn := n14
     rw [hS0] at hn
     exact hn
    ·
     refine w_op (a := .raw (.int .i64 (Int.tmod cut ((List.length x1.l : Int) + 1)))) rfl rfl rfl rfl (by dsimp only [aput, List.set]) ?_
     have hn := n16
     rw [hS0] at hn
     exact hn
    ·
     refine w_op (a := .agg (Enc.cells (x1.e : Ed))) rfl rfl rfl rfl (by dsimp only [aput, List.set]) ?_
     have hn := n18
     rw [hS0] at hn
     exact hn
    ·
     refine w_opm (a := .ptr 2 0) (σ'' := ⟨[(26, (Enc.cells (x1 : Trc))), (26, (Enc.cells ((Trc.mk x2 x1.e) : Trc))), (26, [.list 0 [] .full, .raw (.int .u8 0), .raw (.int .i64 0)])], [], [], 0, false⟩) rfl rfl rfl rfl (by dsimp only [aput, List.set]) rfl ?_
     have hn := n19
     rw [hS0] at hn
     exact hn
   have n6 : aany (ITP Tryd.prog) Tryd.prog none ops FIN 8 ⟨[true, false, true, false, false, false, false, false, false, false]⟩ (setAll S0 [(40, .ptr 0 0), (42, .raw (.int .i64 (Int.tmod cut ((List.length x1.l : Int) + 1))))]) ⟨[(26, (Enc.cells (x1 : Trc))), (26, (Enc.cells ((Trc.mk x2 x1.e) : Trc)))], [], [], 0, false⟩ := by
    rw [hS0]
    dsimp only [setAll, List.foldl, List.set]
    refine aany_n hops [1, 5, 8] (by kernel_rfl) (by decide) (all_cons (aopAt_s hops rfl ?_) (all_cons (aopAt_s hops rfl ?_) (all_cons (aopAt_s hops rfl ?_) all_nil)))
    ·
     refine w_op (a := .list (List.length (x1.l : List En)) (Enc.cellsL (x1.l : List En)) .none) rfl rfl rfl rfl (by dsimp only [aput, List.set]) ?_
     have hn := n13
     rw [hS0] at hn
     exact hn
    ·
     refine w_op (a := .ptr 0 1) rfl rfl rfl rfl (by dsimp only [aput, List.set]) ?_
     have hn := n16
     rw [hS0] at hn
     exact hn
    ·
     refine w_opm (a := .ptr 2 0) (σ'' := ⟨[(26, (Enc.cells (x1 : Trc))), (26, (Enc.cells ((Trc.mk x2 x1.e) : Trc))), (26, [.list 0 [] .full, .raw (.int .u8 0), .raw (.int .i64 0)])], [], [], 0, false⟩) rfl rfl rfl rfl (by dsimp only [aput, List.set]) rfl ?_
     have hn := n17
     rw [hS0] at hn
     exact hn
   have n5 : aany (ITP Tryd.prog) Tryd.prog none ops FIN 8 ⟨[true, true, false, false, false, false, false, false, false, false]⟩ (setAll S0 [(40, .ptr 0 0), (41, .list (List.length (x1.l : List En)) (Enc.cellsL (x1.l : List En)) .none)]) ⟨[(26, (Enc.cells (x1 : Trc))), (26, (Enc.cells ((Trc.mk x2 x1.e) : Trc)))], [], [], 0, false⟩ := by
    rw [hS0]
    dsimp only [setAll, List.foldl, List.set]
    refine aany_n hops [2, 5, 8] (by kernel_rfl) (by decide) (all_cons (aopAt_s hops rfl ?_) (all_cons (aopAt_s hops rfl ?_) (all_cons (aopAt_s hops rfl ?_) all_nil)))
    ·
     refine w_op (a := .raw (.int .i64 (Int.tmod cut ((List.length x1.l : Int) + 1)))) rfl rfl rfl rfl (by dsimp only [aput, List.set]) ?_
     have hn := n13
     rw [hS0] at hn
     exact hn
    ·
     refine w_op (a := .ptr 0 1) rfl rfl rfl rfl (by dsimp only [aput, List.set]) ?_
     have hn := n14
     rw [hS0] at hn
     exact hn
    ·
     refine w_opm (a := .ptr 2 0) (σ'' := ⟨[(26, (Enc.cells (x1 : Trc))), (26, (Enc.cells ((Trc.mk x2 x1.e) : Trc))), (26, [.list 0 [] .full, .raw (.int .u8 0), .raw (.int .i64 0)])], [], [], 0, false⟩) rfl rfl rfl rfl (by dsimp only [aput, List.set]) rfl ?_
     have hn := n15
     rw [hS0] at hn
     exact hn
   have n4 : aany (ITP Tryd.prog) Tryd.prog none ops FIN 9 ⟨[false, false, false, false, false, false, false, false, true, false]⟩ (setAll S0 [(12, .ptr 2 0)]) ⟨[(26, (Enc.cells (x1 : Trc))), (26, (Enc.cells ((Trc.mk x2 x1.e) : Trc))), (26, [.list 0 [] .full, .raw (.int .u8 0), .raw (.int .i64 0)])], [], [], 0, false⟩ := by
    rw [hS0]
    dsimp only [setAll, List.foldl, List.set]
    refine aany_n hops [0, 2, 5] (by kernel_rfl) (by decide) (all_cons (aopAt_s hops rfl ?_) (all_cons (aopAt_s hops rfl ?_) (all_cons (aopAt_s hops rfl ?_) all_nil)))
    ·
     refine w_op (a := .ptr 0 0) rfl rfl rfl rfl (by dsimp only [aput, List.set]) ?_
     have hn := n8
     rw [hS0] at hn
     exact hn
    ·
     refine w_op (a := .raw (.int .i64 (Int.tmod cut ((List.length x1.l : Int) + 1)))) rfl rfl rfl rfl (by dsimp only [aput, List.set]) ?_
     have hn := n10
     rw [hS0] at hn
     exact hn
    ·
     refine w_op (a := .ptr 0 1) rfl rfl rfl rfl (by dsimp only [aput, List.set]) ?_
     have hn := n12
     rw [hS0] at hn
     exact hn
   have n3 : aany (ITP Tryd.prog) Tryd.prog none ops FIN 9 ⟨[false, false, false, false, false, true, false, false, false, false]⟩ (setAll S0 [(45, .ptr 0 1)]) ⟨[(26, (Enc.cells (x1 : Trc))), (26, (Enc.cells ((Trc.mk x2 x1.e) : Trc)))], [], [], 0, false⟩ := by
    rw [hS0]
    dsimp only [setAll, List.foldl, List.set]
    refine aany_n hops [0, 2, 6, 8] (by kernel_rfl) (by decide) (all_cons (aopAt_s hops rfl ?_) (all_cons (aopAt_s hops rfl ?_) (all_cons (aopAt_s hops rfl ?_) (all_cons (aopAt_s hops rfl ?_) all_nil))))
    ·
     refine w_op (a := .ptr 0 0) rfl rfl rfl rfl (by dsimp only [aput, List.set]) ?_
     have hn := n7
     rw [hS0] at hn
     exact hn
    ·
     refine w_op (a := .raw (.int .i64 (Int.tmod cut ((List.length x1.l : Int) + 1)))) rfl rfl rfl rfl (by dsimp only [aput, List.set]) ?_
     have hn := n9
     rw [hS0] at hn
     exact hn
    ·
     refine w_op (a := .agg (Enc.cells (x1.e : Ed))) rfl rfl rfl rfl (by dsimp only [aput, List.set]) ?_
     have hn := n11
     rw [hS0] at hn
     exact hn
    ·
     refine w_opm (a := .ptr 2 0) (σ'' := ⟨[(26, (Enc.cells (x1 : Trc))), (26, (Enc.cells ((Trc.mk x2 x1.e) : Trc))), (26, [.list 0 [] .full, .raw (.int .u8 0), .raw (.int .i64 0)])], [], [], 0, false⟩) rfl rfl rfl rfl (by dsimp only [aput, List.set]) rfl ?_
     have hn := n12
     rw [hS0] at hn
     exact hn
   have n2 : aany (ITP Tryd.prog) Tryd.prog none ops FIN 9 ⟨[false, false, true, false, false, false, false, false, false, false]⟩ (setAll S0 [(42, .raw (.int .i64 (Int.tmod cut ((List.length x1.l : Int) + 1))))]) ⟨[(26, (Enc.cells (x1 : Trc))), (26, (Enc.cells ((Trc.mk x2 x1.e) : Trc)))], [], [], 0, false⟩ := by
    rw [hS0]
    dsimp only [setAll, List.foldl, List.set]
    refine aany_n hops [0, 5, 8] (by kernel_rfl) (by decide) (all_cons (aopAt_s hops rfl ?_) (all_cons (aopAt_s hops rfl ?_) (all_cons (aopAt_s hops rfl ?_) all_nil)))
    ·
     refine w_op (a := .ptr 0 0) rfl rfl rfl rfl (by dsimp only [aput, List.set]) ?_
     have hn := n6
     rw [hS0] at hn
     exact hn
    ·
     refine w_op (a := .ptr 0 1) rfl rfl rfl rfl (by dsimp only [aput, List.set]) ?_
     have hn := n9
     rw [hS0] at hn
     exact hn
    ·
     refine w_opm (a := .ptr 2 0) (σ'' := ⟨[(26, (Enc.cells (x1 : Trc))), (26, (Enc.cells ((Trc.mk x2 x1.e) : Trc))), (26, [.list 0 [] .full, .raw (.int .u8 0), .raw (.int .i64 0)])], [], [], 0, false⟩) rfl rfl rfl rfl (by dsimp only [aput, List.set]) rfl ?_
     have hn := n10
     rw [hS0] at hn
     exact hn
   have n1 : aany (ITP Tryd.prog) Tryd.prog none ops FIN 9 ⟨[true, false, false, false, false, false, false, false, false, false]⟩ (setAll S0 [(40, .ptr 0 0)]) ⟨[(26, (Enc.cells (x1 : Trc))), (26, (Enc.cells ((Trc.mk x2 x1.e) : Trc)))], [], [], 0, false⟩ := by
    rw [hS0]
    dsimp only [setAll, List.foldl, List.set]
    refine aany_n hops [1, 2, 5, 8] (by kernel_rfl) (by decide) (all_cons (aopAt_s hops rfl ?_) (all_cons (aopAt_s hops rfl ?_) (all_cons (aopAt_s hops rfl ?_) (all_cons (aopAt_s hops rfl ?_) all_nil))))
    ·
     refine w_op (a := .list (List.length (x1.l : List En)) (Enc.cellsL (x1.l : List En)) .none) rfl rfl rfl rfl (by dsimp only [aput, List.set]) ?_
     have hn := n5
     rw [hS0] at hn
     exact hn
    ·
     refine w_op (a := .raw (.int .i64 (Int.tmod cut ((List.length x1.l : Int) + 1)))) rfl rfl rfl rfl (by dsimp only [aput, List.set]) ?_
     have hn := n6
     rw [hS0] at hn
     exact hn
    ·
     refine w_op (a := .ptr 0 1) rfl rfl rfl rfl (by dsimp only [aput, List.set]) ?_
     have hn := n7
     rw [hS0] at hn
     exact hn
    ·
     refine w_opm (a := .ptr 2 0) (σ'' := ⟨[(26, (Enc.cells (x1 : Trc))), (26, (Enc.cells ((Trc.mk x2 x1.e) : Trc))), (26, [.list 0 [] .full, .raw (.int .u8 0), .raw (.int .i64 0)])], [], [], 0, false⟩) rfl rfl rfl rfl (by dsimp only [aput, List.set]) rfl ?_
     have hn := n8
     rw [hS0] at hn
     exact hn
   have n0 : aany (ITP Tryd.prog) Tryd.prog none ops FIN 10 ⟨[false, false, false, false, false, false, false, false, false, false]⟩ (setAll S0 []) ⟨[(26, (Enc.cells (x1 : Trc))), (26, (Enc.cells ((Trc.mk x2 x1.e) : Trc)))], [], [], 0, false⟩ := by
    rw [hS0]
    dsimp only [setAll, List.foldl, List.set]
    refine aany_n hops [0, 2, 5, 8] (by kernel_rfl) (by decide) (all_cons (aopAt_s hops rfl ?_) (all_cons (aopAt_s hops rfl ?_) (all_cons (aopAt_s hops rfl ?_) (all_cons (aopAt_s hops rfl ?_) all_nil))))
    ·
     refine w_op (a := .ptr 0 0) rfl rfl rfl rfl (by dsimp only [aput, List.set]) ?_
     have hn := n1
     rw [hS0] at hn
     exact hn
    ·
     refine w_op (a := .raw (.int .i64 (Int.tmod cut ((List.length x1.l : Int) + 1)))) rfl rfl rfl rfl (by dsimp only [aput, List.set]) ?_
     have hn := n2
     rw [hS0] at hn
     exact hn
    ·
     refine w_op (a := .ptr 0 1) rfl rfl rfl rfl (by dsimp only [aput, List.set]) ?_
     have hn := n3
     rw [hS0] at hn
     exact hn
    ·
     refine w_opm (a := .ptr 2 0) (σ'' := ⟨[(26, (Enc.cells (x1 : Trc))), (26, (Enc.cells ((Trc.mk x2 x1.e) : Trc))), (26, [.list 0 [] .full, .raw (.int .u8 0), .raw (.int .i64 0)])], [], [], 0, false⟩) rfl rfl rfl rfl (by dsimp only [aput, List.set]) rfl ?_
     have hn := n4
     rw [hS0] at hn
     exact hn
   exact n0
  ·
   refine w_seq (w_region ?_)
   refine w_op (a := .agg (Enc.cells ((Trc.mk x2 x1.e) : Trc))) rfl rfl rfl rfl (by dsimp only [aput, List.set]) ?_
   obtain ⟨x26, hx26, h⟩ := bindE_e h
   refine w_callc (args' := [.agg (Enc.cells ((Trc.mk x2 x1.e) : Trc))]) (r := .raw (.int .i64 x26)) (at_sh fuel (Trc.mk x2 x1.e) x26 hx26) rfl rfl (stripL_cons (strip_c (clo_agg (Enc.clo _))) rfl) (okTrimL_cons (okTrim_clo _ _ (clo_agg (Enc.clo _))) rfl) (by dsimp only [aput, List.set]) ?_
   refine w_op (a := .raw (.int .i64 x26)) rfl rfl rfl rfl (by dsimp only [aput, List.set]) ?_
   refine w_cutF h [0, 1, 2, 3, 4, 5, 6, 7, 8, 10, 12, 13, 14, 15, 16, 17, 18, 19, 20, 21, 22, 23, 24, 25, 26, 27, 28, 29, 30, 31, 32, 33, 34, 35, 36, 37, 38, 39, 40, 41, 42, 43, 44, 45, 46, 47, 48, 49, 50, 51, 52, 53, 54, 55, 56, 57, 58, 59, 60, 61, 62, 63, 64, 65, 66, 67, 68, 69, 70, 71, 72, 73, 74, 75, 76, 77, 78, 79, 80, 81, 82, 83, 84, 85, 86, 87, 88, 89, 90, 91, 92, 93, 94, 95, 96, 97, 98, 99, 100, 101, 102, 103, 104, 105, 106, 107, 108, 109, 110, 111, 112, 113, 114, 115, 116, 117, 118, 119, 120, 121, 122, 123, 124, 125, 126, 127, 128, 129, 130, 131, 132, 133, 134, 135, 136, 137, 138, 139, 140, 141, 142, 143, 144, 145, 146, 147, 148, 149, 150, 151, 152, 153, 154, 155, 156, 157] (fun j2 => [(12, .ptr 2 0)]) (fun j2 => ⟨[(26, (Enc.cells (x1 : Trc))), (26, (Enc.cells ((Trc.mk x2 x1.e) : Trc))), (26, (Enc.cells (j2 : Trc)))], [], [], 0, false⟩) ?_ ?_
   ·
    intro or2 h hr2
    refine w_seq (w_region ?_)
    refine w_op (a := .ptr 3 0) rfl rfl rfl rfl (by dsimp only [aput, List.set]) ?_
    refine w_op (a := .bsl 2 0 (List.length (sub x1.l (Int.tmod cut ((List.length x1.l : Int) + 1)) (List.length x1.l : Int))) 4 false) rfl rfl rfl rfl (by dsimp only [aput, List.set]) ?_
    refine w_op (a := .raw (.int .i64 (((List.length (sub x1.l (Int.tmod cut ((List.length x1.l : Int) + 1)) (List.length x1.l : Int))) : Nat) : Int))) rfl rfl rfl rfl (by dsimp only [aput, List.set]) ?_
    refine w_op (a := .raw (.int .i64 0)) rfl rfl rfl rfl (by dsimp only [aput, List.set]) ?_
    refine w_block ?_
    refine w_loopF h [0, 1, 2, 3, 4, 5, 6, 7, 8, 10, 14, 15, 16, 17, 18, 19, 20, 21, 22, 23, 24, 25, 26, 27, 28, 29, 30, 31, 32, 33, 34, 35, 36, 37, 38, 39, 40, 41, 42, 43, 44, 45, 46, 47, 48, 49, 50, 51, 53, 54, 55, 56, 57, 58, 59, 60, 61, 62, 63, 64, 65, 66, 67, 68, 69, 70, 71, 72, 73, 74, 75, 76, 77, 78, 79, 80, 81, 82, 83, 84, 85, 86, 87, 88, 89, 90, 91, 92, 93, 94, 95, 96, 97, 98, 99, 100, 101, 102, 103, 104, 105, 106, 107, 108, 109, 110, 111, 112, 113, 114, 115, 116, 117, 118, 119, 120, 121, 122, 123, 124, 125, 126, 127, 128, 129, 130, 131, 132, 133, 134, 135, 136, 137, 138, 139, 140, 141, 142, 143, 144, 145, 146, 147, 148, 149, 150, 151, 152, 153, 154, 155, 156, 157] (fun s2 => [(53, .raw (.int .i64 s2.1))]) (fun s2 => ⟨[(26, (Enc.cells (x1 : Trc))), (26, (Enc.cells ((Trc.mk x2 x1.e) : Trc))), (43, (Enc.cellsL (s2.2 : List En))), (26, [.bsl 2 0 (List.length (sub x1.l (Int.tmod cut ((List.length x1.l : Int) + 1)) (List.length x1.l : Int))) 4 false, .raw (.int .u8 x1.e.k), .raw (.int .i64 x1.e.c)])], [], [], 0, false⟩) ?_ ?_
    ·
     exact wm_of [false, false, false, false, false, false, false, false, false, true, false, true, true, true, false, false, false, false, false, false, false, false, false, false, false, false, false, false, false, false, false, false, false, false, false, false, false, false, false, false, false, false, false, false, false, false, false, false, false, false, false, false, true, true, false, false, false, false, false, false, false, false, false, false, false, false, false, false, false, false, false, false, false, false, false, false, false, false, false, false, false, false, false, false, false, false, false, false, false, false, false, false, false, false, false, false, false, false, false, false, false, false, false, false, false, false, false, false, false, false, false, false, false, false, false, false, false, false, false, false, false, false, false, false, false, false, false, false, false, false, false, false, false, false, false, false, false, false, false, false, false, false, false, false, false, false, false, false, false, false, false, false, false, false, false, false, false, false] (by kernel_rfl) (by kernel_rfl)
    ·
     intro s2 p2 h
     refine w_start (by dsimp only [setAll, topAll, List.foldl, List.set]) rfl ?_
     obtain ⟨g22, h⟩ := chk_e h
     refine w_seq (w_region ?_)
     refine w_op (a := .raw (.bool (decide (s2.1 < (((List.length (sub x1.l (Int.tmod cut ((List.length x1.l : Int) + 1)) (List.length x1.l : Int))) : Nat) : Int))))) rfl rfl rfl rfl (by dsimp only [aput, List.set]) ?_
     refine w_seq ?_
     refine bif_e h (fun hc10 h => ?_) (fun hc10 h => ?_)
     ·
      refine w_condT hc10 rfl ?_
      refine w_cutF h [14, 54, 55, 56, 57, 58, 59, 60, 61, 62, 63, 64, 65, 66, 67, 68, 69, 70, 71, 72, 73, 74, 75, 76, 77, 78, 79, 80, 81, 82] (fun j3 => []) (fun j3 => ⟨[(26, (Enc.cells (x1 : Trc))), (26, (Enc.cells ((Trc.mk x2 x1.e) : Trc))), (43, (Enc.cellsL (j3 : List En))), (26, [.bsl 2 0 (List.length (sub x1.l (Int.tmod cut ((List.length x1.l : Int) + 1)) (List.length x1.l : Int))) 4 false, .raw (.int .u8 x1.e.k), .raw (.int .i64 x1.e.c)])], [], [], 0, false⟩) ?_ ?_
      ·
       intro or3 h hr3
       refine w_block ?_
       refine w_seq (w_region ?_)
       refine w_op (a := .raw (.int .i64 s2.1)) rfl rfl rfl rfl (by dsimp only [aput, List.set]) ?_
       refine w_op (a := .raw (.int .i64 s2.1)) rfl rfl rfl rfl (by dsimp only [aput, List.set]) ?_
       refine w_seq (w_region ?_)
       refine w_op (a := .ptr 3 0) rfl rfl rfl rfl (by dsimp only [aput, List.set]) ?_
       refine w_op (a := .bsl 2 0 (List.length (sub x1.l (Int.tmod cut ((List.length x1.l : Int) + 1)) (List.length x1.l : Int))) 4 false) rfl rfl rfl rfl (by dsimp only [aput, List.set]) ?_
       refine w_op (a := .raw (.int .i64 s2.1)) rfl rfl rfl rfl (by dsimp only [aput, List.set]) ?_
       obtain ⟨g23, h⟩ := chk_e h
       refine w_op (a := .ptr 2 (0 + Int.toNat s2.1 * 4)) rfl rfl rfl (op_q (q_idxB (α := En) g23 rfl rfl rfl rfl rfl)) (by dsimp only [aput, List.set]) ?_
       refine w_op (a := .ptr 2 (0 + Int.toNat s2.1 * 4 + 0)) rfl rfl rfl rfl (by dsimp only [aput, List.set]) ?_
       obtain ⟨g24, h⟩ := chk_e h
       obtain ⟨x27, hx27, h⟩ := letE_e h
       refine w_op (a := .raw (.int .u8 x27.k)) rfl rfl rfl (op_q (by rw [← hx27]; exact (q_loadB (α := En) (l := s2.2) (i := s2.1) (k := 0) (te := 43) g24 rfl rfl rfl rfl))) (by dsimp only [aput, List.set]) ?_
       refine w_op (a := .raw (.bool (x27.k != 1))) rfl rfl rfl rfl (by dsimp only [aput, List.set]) ?_
       refine bif_e h (fun hc11 h => ?_) (fun hc11 h => ?_)
       ·
        refine w_condT hc11 rfl ?_
        refine w_seq (w_region ?_)
        refine w_op (a := .ptr 3 0) rfl rfl rfl rfl (by dsimp only [aput, List.set]) ?_
        refine w_op (a := .bsl 2 0 (List.length (sub x1.l (Int.tmod cut ((List.length x1.l : Int) + 1)) (List.length x1.l : Int))) 4 false) rfl rfl rfl rfl (by dsimp only [aput, List.set]) ?_
        refine w_op (a := .raw (.int .i64 s2.1)) rfl rfl rfl rfl (by dsimp only [aput, List.set]) ?_
        obtain ⟨g25, h⟩ := chk_e h
        refine w_op (a := .ptr 2 (0 + Int.toNat s2.1 * 4)) rfl rfl rfl (op_q (q_idxB (α := En) g25 rfl rfl rfl rfl rfl)) (by dsimp only [aput, List.set]) ?_
        refine w_op (a := .ptr 2 (0 + Int.toNat s2.1 * 4 + 1)) rfl rfl rfl rfl (by dsimp only [aput, List.set]) ?_
        obtain ⟨g26, h⟩ := chk_e h
        obtain ⟨x28, hx28, h⟩ := letE_e h
        refine w_op (a := .raw (.int .i64 x28.fr)) rfl rfl rfl (op_q (by rw [← hx28]; exact (q_loadB (α := En) (l := s2.2) (i := s2.1) (k := 1) (te := 43) g26 rfl rfl rfl rfl))) (by dsimp only [aput, List.set]) ?_
        refine w_op (a := .raw (.int .i64 x26)) rfl rfl rfl rfl (by dsimp only [aput, List.set]) ?_
        obtain ⟨g27, h⟩ := chk_e h
        refine w_op (a := .raw (.int .i64 (x28.fr - x26))) rfl rfl rfl (op_q (q_sub rfl rfl rfl rfl g27.1 g27.2)) (by dsimp only [aput, List.set]) ?_
        obtain ⟨g28, h⟩ := chk_e h
        refine w_op (a := .ptr 2 (0 + Int.toNat s2.1 * 4)) rfl rfl rfl (op_q (q_idxB (α := En) g28 rfl rfl rfl rfl rfl)) (by dsimp only [aput, List.set]) ?_
        refine w_op (a := .ptr 2 (0 + Int.toNat s2.1 * 4 + 1)) rfl rfl rfl rfl (by dsimp only [aput, List.set]) ?_
        obtain ⟨g29, h⟩ := chk_e h
        obtain ⟨x29, hx29, h⟩ := letE_e h
        refine w_opm (σ'' := ⟨[(26, (Enc.cells (x1 : Trc))), (26, (Enc.cells ((Trc.mk x2 x1.e) : Trc))), (43, (Enc.cellsL ((List.set s2.2 (Int.toNat s2.1) (En.mk x29.k (x28.fr - x26) x29.to x29.b)) : List En))), (26, [.bsl 2 0 (List.length (sub x1.l (Int.tmod cut ((List.length x1.l : Int) + 1)) (List.length x1.l : Int))) 4 false, .raw (.int .u8 x1.e.k), .raw (.int .i64 x1.e.c)])], [], [], 0, false⟩) rfl rfl rfl (op_storeB (α := En) (l := s2.2) (i := s2.1) (k := 1) (te := 43) (n := 1) (En.mk x29.k (x28.fr - x26) x29.to x29.b) g29 rfl rfl rfl rfl rfl rfl rfl (by decide) (by decide) (by rw [hx29]; rfl)) (by dsimp only [aput, List.set]) rfl ?_
        refine w_region (k0 := 0) (id := 11) ?_
        refine w_op (a := .ptr 3 0) rfl rfl rfl rfl (by dsimp only [aput, List.set]) ?_
        refine w_op (a := .bsl 2 0 (List.length (sub x1.l (Int.tmod cut ((List.length x1.l : Int) + 1)) (List.length x1.l : Int))) 4 false) rfl rfl rfl rfl (by dsimp only [aput, List.set]) ?_
        refine w_op (a := .raw (.int .i64 s2.1)) rfl rfl rfl rfl (by dsimp only [aput, List.set]) ?_
        obtain ⟨g30, h⟩ := chk_e h
        refine w_op (a := .ptr 2 (0 + Int.toNat s2.1 * 4)) rfl rfl rfl (op_q (q_idxB (α := En) g30 rfl rfl rfl rfl rfl)) (by dsimp only [aput, List.set]) ?_
        refine w_op (a := .ptr 2 (0 + Int.toNat s2.1 * 4 + 2)) rfl rfl rfl rfl (by dsimp only [aput, List.set]) ?_
        obtain ⟨g31, h⟩ := chk_e h
        obtain ⟨x30, hx30, h⟩ := letE_e h
        refine w_op (a := .raw (.int .i64 x30.to)) rfl rfl rfl (op_q (by rw [← hx30]; exact (q_loadB (α := En) (l := (List.set s2.2 (Int.toNat s2.1) (En.mk x29.k (x28.fr - x26) x29.to x29.b))) (i := s2.1) (k := 2) (te := 43) g31 rfl rfl rfl rfl))) (by dsimp only [aput, List.set]) ?_
        refine w_op (a := .raw (.int .i64 x26)) rfl rfl rfl rfl (by dsimp only [aput, List.set]) ?_
        obtain ⟨g32, h⟩ := chk_e h
        refine w_op (a := .raw (.int .i64 (x30.to - x26))) rfl rfl rfl (op_q (q_sub rfl rfl rfl rfl g32.1 g32.2)) (by dsimp only [aput, List.set]) ?_
        obtain ⟨g33, h⟩ := chk_e h
        refine w_op (a := .ptr 2 (0 + Int.toNat s2.1 * 4)) rfl rfl rfl (op_q (q_idxB (α := En) g33 rfl rfl rfl rfl rfl)) (by dsimp only [aput, List.set]) ?_
        refine w_op (a := .ptr 2 (0 + Int.toNat s2.1 * 4 + 2)) rfl rfl rfl rfl (by dsimp only [aput, List.set]) ?_
        obtain ⟨g34, h⟩ := chk_e h
        obtain ⟨x31, hx31, h⟩ := letE_e h
        refine w_opm (σ'' := ⟨[(26, (Enc.cells (x1 : Trc))), (26, (Enc.cells ((Trc.mk x2 x1.e) : Trc))), (43, (Enc.cellsL ((List.set (List.set s2.2 (Int.toNat s2.1) (En.mk x29.k (x28.fr - x26) x29.to x29.b)) (Int.toNat s2.1) (En.mk x31.k x31.fr (x30.to - x26) x31.b)) : List En))), (26, [.bsl 2 0 (List.length (sub x1.l (Int.tmod cut ((List.length x1.l : Int) + 1)) (List.length x1.l : Int))) 4 false, .raw (.int .u8 x1.e.k), .raw (.int .i64 x1.e.c)])], [], [], 0, false⟩) rfl rfl rfl (op_storeB (α := En) (l := (List.set s2.2 (Int.toNat s2.1) (En.mk x29.k (x28.fr - x26) x29.to x29.b))) (i := s2.1) (k := 2) (te := 43) (n := 1) (En.mk x31.k x31.fr (x30.to - x26) x31.b) g34 rfl rfl rfl rfl rfl rfl rfl (by decide) (by decide) (by rw [hx31]; rfl)) (by dsimp only [aput, List.set]) rfl ?_
        refine cut_done (o := or3) ((List.set (List.set s2.2 (Int.toNat s2.1) (En.mk x29.k (x28.fr - x26) x29.to x29.b)) (Int.toNat s2.1) (En.mk x31.k x31.fr (x30.to - x26) x31.b))) h ?_
        exact wm_of [true, true, true, true, true, true, true, true, true, true, true, true, true, true, false, true, true, true, true, true, true, true, true, true, true, true, true, true, true, true, true, true, true, true, true, true, true, true, true, true, true, true, true, true, true, true, true, true, true, true, true, true, true, true, false, false, false, false, false, false, false, false, false, false, false, false, false, false, false, false, false, false, false, false, false, false, false, false, false, false, false, false, false, true, true, true, true, true, true, true, true, true, true, true, true, true, true, true, true, true, true, true, true, true, true, true, true, true, true, true, true, true, true, true, true, true, true, true, true, true, true, true, true, true, true, true, true, true, true, true, true, true, true, true, true, true, true, true, true, true, true, true, true, true, true, true, true, true, true, true, true, true, true, true, true, true, true, true] (by kernel_rfl) (by kernel_rfl)
       ·
        refine w_condF hc11 rfl ?_
        refine cut_done (o := or3) (s2.2) h ?_
        exact wm_of [true, true, true, true, true, true, true, true, true, true, true, true, true, true, false, true, true, true, true, true, true, true, true, true, true, true, true, true, true, true, true, true, true, true, true, true, true, true, true, true, true, true, true, true, true, true, true, true, true, true, true, true, true, true, false, false, false, false, false, false, false, false, false, false, false, false, false, false, false, false, false, false, false, false, false, false, false, false, false, false, false, false, false, true, true, true, true, true, true, true, true, true, true, true, true, true, true, true, true, true, true, true, true, true, true, true, true, true, true, true, true, true, true, true, true, true, true, true, true, true, true, true, true, true, true, true, true, true, true, true, true, true, true, true, true, true, true, true, true, true, true, true, true, true, true, true, true, true, true, true, true, true, true, true, true, true, true, true] (by kernel_rfl) (by kernel_rfl)
      ·
       intro j3 h
       refine w_start (by dsimp only [setAll, topAll, List.foldl, List.set]) rfl ?_
       refine w_region (k0 := 0) (id := 12) ?_
       obtain ⟨g35, h⟩ := chk_e h
       refine w_op (a := .raw (.int .i64 (s2.1 + 1))) rfl rfl rfl (op_q (q_add rfl rfl rfl rfl g35.1 g35.2)) (by dsimp only [aput, List.set]) ?_
       refine w_op (a := .raw (.int .i64 (s2.1 + 1))) rfl rfl rfl rfl (by dsimp only [aput, List.set]) ?_
       refine loop_next (p := p2) ((s2.1 + 1), j3) h ?_
       exact wm_of [false, false, false, false, false, false, false, false, false, true, false, true, true, true, false, false, false, false, false, false, false, false, false, false, false, false, false, false, false, false, false, false, false, false, false, false, false, false, false, false, false, false, false, false, false, false, false, false, false, false, false, false, true, true, false, false, false, false, false, false, false, false, false, false, false, false, false, false, false, false, false, false, false, false, false, false, false, false, false, false, false, false, false, false, false, false, false, false, false, false, false, false, false, false, false, false, false, false, false, false, false, false, false, false, false, false, false, false, false, false, false, false, false, false, false, false, false, false, false, false, false, false, false, false, false, false, false, false, false, false, false, false, false, false, false, false, false, false, false, false, false, false, false, false, false, false, false, false, false, false, false, false, false, false, false, false, false, false] (by kernel_rfl) (by kernel_rfl)
     ·
      refine w_condF hc10 rfl ?_
      refine loop_exit h (fun h => ?_)
      refine cut_done (o := or2) ((Trc.mk s2.2 (Ed.mk x1.e.k x1.e.c))) h ?_
      exact wm_keep [false, false, false, false, false, false, false, false, false, true, false, true, true, false, false, false, false, false, false, false, false, false, false, false, false, false, false, false, false, false, false, false, false, false, false, false, false, false, false, false, false, false, false, false, false, false, false, false, false, false, false, false, false, false, false, false, false, false, false, false, false, false, false, false, false, false, false, false, false, false, false, false, false, false, false, false, false, false, false, false, false, false, false, false, false, false, false, false, false, false, false, false, false, false, false, false, false, false, false, false, false, false, false, false, false, false, false, false, false, false, false, false, false, false, false, false, false, false, false, false, false, false, false, false, false, false, false, false, false, false, false, false, false, false, false, false, false, false, false, false, false, false, false, false, false, false, false, false, false, false, false, false, false, false, false, false, false, false] 0 [] [0, 1, 3] 1 (Nat.le_refl _) rfl (by dsimp only [setAll, topAll, List.foldl, List.set]; exact (fgK_f (fgK_f (fgK_f (fgK_f (fgK_f (fgK_f (fgK_f (fgK_f (fgK_f (fgK_t rfl (fgK_f (fgK_t rfl (fgK_t rfl (fgK_f (fgK_f (fgK_f (fgK_f (fgK_f (fgK_f (fgK_f (fgK_f (fgK_f (fgK_f (fgK_f (fgK_f (fgK_f (fgK_f (fgK_f (fgK_f (fgK_f (fgK_f (fgK_f (fgK_f (fgK_f (fgK_f (fgK_f (fgK_f (fgK_f (fgK_f (fgK_f (fgK_f (fgK_f (fgK_f (fgK_f (fgK_f (fgK_f (fgK_f (fgK_f (fgK_f (fgK_f (fgK_f (fgK_f (fgK_f (fgK_f (fgK_f (fgK_f (fgK_f (fgK_f (fgK_f (fgK_f (fgK_f (fgK_f (fgK_f (fgK_f (fgK_f (fgK_f (fgK_f (fgK_f (fgK_f (fgK_f (fgK_f (fgK_f (fgK_f (fgK_f (fgK_f (fgK_f (fgK_f (fgK_f (fgK_f (fgK_f (fgK_f (fgK_f (fgK_f (fgK_f (fgK_f (fgK_f (fgK_f (fgK_f (fgK_f (fgK_f (fgK_f (fgK_f (fgK_f (fgK_f (fgK_f (fgK_f (fgK_f (fgK_f (fgK_f (fgK_f (fgK_f (fgK_f (fgK_f (fgK_f (fgK_f (fgK_f (fgK_f (fgK_f (fgK_f (fgK_f (fgK_f (fgK_f (fgK_f (fgK_f (fgK_f (fgK_f (fgK_f (fgK_f (fgK_f (fgK_f (fgK_f (fgK_f (fgK_f (fgK_f (fgK_f (fgK_f (fgK_f (fgK_f (fgK_f (fgK_f (fgK_f (fgK_f (fgK_f (fgK_f (fgK_f (fgK_f (fgK_f (fgK_f (fgK_f (fgK_f (fgK_f (fgK_f (fgK_f (fgK_f (fgK_f (fgK_f (fgK_f (fgK_f (fgK_f (fgK_f (fgK_f (fgK_f (fgK_f (fgK_f (fgK_f (fgK_f (fgK_f (fgK_f fgK_nil))))))))))))))))))))))))))))))))))))))))))))))))))))))))))))))))))))))))))))))))))))))))))))))))))))))))))))))))))))))))))))))))))))))))))))))))))))))))))))))) (keep_of (keep_cons rfl (mapKL_clo _ _ _ (Enc.clo _)) (keep_cons rfl (mapKL_clo _ _ _ (Enc.clo _)) (keep_cons rfl (mapKL_cons' (kz_bsl (α := En) (t := 43) (l := s2.2) g22 rfl rfl) (mapKL_cons' (mapK_clo _ _ _ rfl) (mapKL_cons' (mapK_clo _ _ _ rfl) mapKL_nil'))) keep_nil))) rfl)
   ·
    intro j2 h
    refine w_start (by dsimp only [setAll, topAll, List.foldl, List.set]) rfl ?_
    refine w_seq (w_region ?_)
    refine w_op (a := .agg (Enc.cells (x1 : Trc))) rfl rfl rfl rfl (by dsimp only [aput, List.set]) ?_
    obtain ⟨x32, hx32, h⟩ := bindE_e h
    refine w_callc (args' := [.agg (Enc.cells (x1 : Trc))]) (r := .tup [.raw (.int .i64 x32.1), .raw (.int .i64 x32.2)]) (check_sh fuel x1 x32 hx32) rfl rfl (stripL_cons (strip_c (clo_agg (Enc.clo _))) rfl) (okTrimL_cons (okTrim_clo _ _ (clo_agg (Enc.clo _))) rfl) (by dsimp only [aput, List.set]) ?_
    refine w_op (a := .tup [.raw (.int .i64 x32.1), .raw (.int .i64 x32.2)]) rfl rfl rfl rfl (by dsimp only [aput, List.set]) ?_
    refine w_op (a := .raw (.int .i64 x32.1)) rfl rfl rfl rfl (by dsimp only [aput, List.set]) ?_
    refine w_op (a := .raw (.int .i64 x32.2)) rfl rfl rfl rfl (by dsimp only [aput, List.set]) ?_
    refine w_op (a := .raw (.int .i64 x32.1)) rfl rfl rfl rfl (by dsimp only [aput, List.set]) ?_
    refine w_op (a := .raw (.int .i64 x32.2)) rfl rfl rfl rfl (by dsimp only [aput, List.set]) ?_
    refine w_seq (w_region ?_)
    refine w_op (a := .agg (Enc.cells ((Trc.mk x2 x1.e) : Trc))) rfl rfl rfl rfl (by dsimp only [aput, List.set]) ?_
    obtain ⟨x33, hx33, h⟩ := bindE_e h
    refine w_callc (args' := [.agg (Enc.cells ((Trc.mk x2 x1.e) : Trc))]) (r := .tup [.raw (.int .i64 x33.1), .raw (.int .i64 x33.2)]) (check_sh fuel (Trc.mk x2 x1.e) x33 hx33) rfl rfl (stripL_cons (strip_c (clo_agg (Enc.clo _))) rfl) (okTrimL_cons (okTrim_clo _ _ (clo_agg (Enc.clo _))) rfl) (by dsimp only [aput, List.set]) ?_
    refine w_op (a := .tup [.raw (.int .i64 x33.1), .raw (.int .i64 x33.2)]) rfl rfl rfl rfl (by dsimp only [aput, List.set]) ?_
    refine w_op (a := .raw (.int .i64 x33.1)) rfl rfl rfl rfl (by dsimp only [aput, List.set]) ?_
    refine w_op (a := .raw (.int .i64 x33.2)) rfl rfl rfl rfl (by dsimp only [aput, List.set]) ?_
    refine w_op (a := .raw (.int .i64 x33.1)) rfl rfl rfl rfl (by dsimp only [aput, List.set]) ?_
    refine w_op (a := .raw (.int .i64 x33.2)) rfl rfl rfl rfl (by dsimp only [aput, List.set]) ?_
    refine w_seq (w_region ?_)
    refine w_op (a := .agg (Enc.cells (j2 : Trc))) rfl rfl rfl rfl (by dsimp only [aput, List.set]) ?_
    obtain ⟨x34, hx34, h⟩ := bindE_e h
    refine w_callc (args' := [.agg (Enc.cells (j2 : Trc))]) (r := .tup [.raw (.int .i64 x34.1), .raw (.int .i64 x34.2)]) (check_sh fuel j2 x34 hx34) rfl rfl (stripL_cons (strip_c (clo_agg (Enc.clo _))) rfl) (okTrimL_cons (okTrim_clo _ _ (clo_agg (Enc.clo _))) rfl) (by dsimp only [aput, List.set]) ?_
    refine w_op (a := .tup [.raw (.int .i64 x34.1), .raw (.int .i64 x34.2)]) rfl rfl rfl rfl (by dsimp only [aput, List.set]) ?_
    refine w_op (a := .raw (.int .i64 x34.1)) rfl rfl rfl rfl (by dsimp only [aput, List.set]) ?_
    refine w_op (a := .raw (.int .i64 x34.2)) rfl rfl rfl rfl (by dsimp only [aput, List.set]) ?_
    refine w_op (a := .raw (.int .i64 x34.1)) rfl rfl rfl rfl (by dsimp only [aput, List.set]) ?_
    refine w_op (a := .raw (.int .i64 x34.2)) rfl rfl rfl rfl (by dsimp only [aput, List.set]) ?_
    refine w_seq ?_
    refine w_draw (id := 16) 52 (by kernel_rfl) (by kernel_rfl) ?_
    refine h_op (a := .raw (.int .i64 x32.2)) rfl rfl rfl rfl (by dsimp only [aput, List.set]) ?_
    refine h_op (a := .raw (.int .i64 x33.2)) rfl rfl rfl rfl (by dsimp only [aput, List.set]) ?_
    obtain ⟨g36, h⟩ := chk_e h
    refine h_op (a := .raw (.int .i64 (x32.2 + x33.2))) rfl rfl rfl (q_add rfl rfl rfl rfl g36.1 g36.2) (by dsimp only [aput, List.set]) ?_
    refine h_op (a := .raw (.int .i64 x34.2)) rfl rfl rfl rfl (by dsimp only [aput, List.set]) ?_
    obtain ⟨g37, h⟩ := chk_e h
    refine h_op (a := .raw (.int .i64 ((x32.2 + x33.2) + x34.2))) rfl rfl rfl (q_add rfl rfl rfl rfl g37.1 g37.2) (by dsimp only [aput, List.set]) ?_
    refine h_op (a := .raw (.bool (((x32.2 + x33.2) + x34.2) == 0))) rfl rfl rfl rfl (by dsimp only [aput, List.set]) ?_
    refine bif_e h (fun hc12 h => ?_) (fun hc12 h => ?_)
    ·
     refine h_op (a := .raw (.bool true)) rfl rfl rfl (q_bool rfl hc12) (by dsimp only [aput, List.set]) ?_
     refine h_met rfl rfl ?_
     refine h_op (a := .agg (Enc.cells (x1 : Trc))) rfl rfl rfl rfl (by dsimp only [aput, List.set]) ?_
     refine h_met rfl rfl ?_
     obtain ⟨x35, hx35, h⟩ := bindE_e h
     refine h_call (args' := [.agg (Enc.cells (x1 : Trc))]) (r := .raw (.int .i64 x35)) (taken_sh fuel x1 x35 hx35) rfl rfl rfl (stripL_cons (strip_c (clo_agg (Enc.clo _))) rfl) (okTrimL_cons (okTrim_clo _ _ (clo_agg (Enc.clo _))) rfl) (by dsimp only [aput, List.set]) ?_
     refine h_met rfl rfl ?_
     refine h_op (a := .agg (Enc.cells (x1 : Trc))) rfl rfl rfl rfl (by dsimp only [aput, List.set]) ?_
     refine h_met rfl rfl ?_
     obtain ⟨x36, hx36, h⟩ := bindE_e h
     refine h_call (args' := [.agg (Enc.cells (x1 : Trc))]) (r := .raw (.int .i64 x36)) (lost_sh fuel x1 x36 hx36) rfl rfl rfl (stripL_cons (strip_c (clo_agg (Enc.clo _))) rfl) (okTrimL_cons (okTrim_clo _ _ (clo_agg (Enc.clo _))) rfl) (by dsimp only [aput, List.set]) ?_
     refine h_met rfl rfl ?_
     obtain ⟨g38, h⟩ := chk_e h
     refine h_op (a := .raw (.int .i64 (x35 + x36))) rfl rfl rfl (q_add rfl rfl rfl rfl g38.1 g38.2) (by dsimp only [aput, List.set]) ?_
     refine h_met rfl rfl ?_
     refine h_op (a := .agg (Enc.cells (x1 : Trc))) rfl rfl rfl rfl (by dsimp only [aput, List.set]) ?_
     refine h_met rfl rfl ?_
     obtain ⟨x37, hx37, h⟩ := bindE_e h
     refine h_call (args' := [.agg (Enc.cells (x1 : Trc))]) (r := .raw (.int .i64 x37)) (at_sh fuel x1 x37 hx37) rfl rfl rfl (stripL_cons (strip_c (clo_agg (Enc.clo _))) rfl) (okTrimL_cons (okTrim_clo _ _ (clo_agg (Enc.clo _))) rfl) (by dsimp only [aput, List.set]) ?_
     refine h_met rfl rfl ?_
     refine h_op (a := .raw (.bool ((x35 + x36) == x37))) rfl rfl rfl rfl (by dsimp only [aput, List.set]) ?_
     refine h_op (a := .raw (.bool ((x35 + x36) == x37))) rfl rfl rfl rfl (by dsimp only [aput, List.set]) ?_
     refine bif_e h (fun hc13 h => ?_) (fun hc13 h => ?_)
     ·
      refine h_op (a := .raw (.bool true)) rfl rfl rfl (q_bool rfl hc13) (by dsimp only [aput, List.set]) ?_
      refine h_met rfl rfl ?_
      refine h_op (a := .agg (Enc.cells (x1 : Trc))) rfl rfl rfl rfl (by dsimp only [aput, List.set]) ?_
      refine h_met rfl rfl ?_
      obtain ⟨x38, hx38, h⟩ := bindE_e h
      refine h_call (args' := [.agg (Enc.cells (x1 : Trc))]) (r := .raw (.int .i64 x38)) (at_sh fuel x1 x38 hx38) rfl rfl rfl (stripL_cons (strip_c (clo_agg (Enc.clo _))) rfl) (okTrimL_cons (okTrim_clo _ _ (clo_agg (Enc.clo _))) rfl) (by dsimp only [aput, List.set]) ?_
      refine h_met rfl rfl ?_
      refine h_op (a := .agg (Enc.cells ((Trc.mk x2 x1.e) : Trc))) rfl rfl rfl rfl (by dsimp only [aput, List.set]) ?_
      refine h_met rfl rfl ?_
      obtain ⟨x39, hx39, h⟩ := bindE_e h
      refine h_call (args' := [.agg (Enc.cells ((Trc.mk x2 x1.e) : Trc))]) (r := .raw (.int .i64 x39)) (at_sh fuel (Trc.mk x2 x1.e) x39 hx39) rfl rfl rfl (stripL_cons (strip_c (clo_agg (Enc.clo _))) rfl) (okTrimL_cons (okTrim_clo _ _ (clo_agg (Enc.clo _))) rfl) (by dsimp only [aput, List.set]) ?_
      refine h_met rfl rfl ?_
      refine h_op (a := .agg (Enc.cells (j2 : Trc))) rfl rfl rfl rfl (by dsimp only [aput, List.set]) ?_
      refine h_met rfl rfl ?_
      obtain ⟨x40, hx40, h⟩ := bindE_e h
      refine h_call (args' := [.agg (Enc.cells (j2 : Trc))]) (r := .raw (.int .i64 x40)) (at_sh fuel j2 x40 hx40) rfl rfl rfl (stripL_cons (strip_c (clo_agg (Enc.clo _))) rfl) (okTrimL_cons (okTrim_clo _ _ (clo_agg (Enc.clo _))) rfl) (by dsimp only [aput, List.set]) ?_
      refine h_met rfl rfl ?_
      obtain ⟨g39, h⟩ := chk_e h
      refine h_op (a := .raw (.int .i64 (x39 + x40))) rfl rfl rfl (q_add rfl rfl rfl rfl g39.1 g39.2) (by dsimp only [aput, List.set]) ?_
      refine h_met rfl rfl ?_
      refine h_op (a := .raw (.bool (x38 == (x39 + x40)))) rfl rfl rfl rfl (by dsimp only [aput, List.set]) ?_
      refine h_op (a := .raw (.bool (x38 == (x39 + x40)))) rfl rfl rfl rfl (by dsimp only [aput, List.set]) ?_
      refine bif_e h (fun hc14 h => ?_) (fun hc14 h => ?_)
      ·
       refine h_op (a := .raw (.bool true)) rfl rfl rfl (q_bool rfl hc14) (by dsimp only [aput, List.set]) ?_
       refine h_met rfl rfl ?_
       refine h_op (a := .agg (Enc.cells (x1 : Trc))) rfl rfl rfl rfl (by dsimp only [aput, List.set]) ?_
       refine h_met rfl rfl ?_
       obtain ⟨x41, hx41, h⟩ := bindE_e h
       refine h_call (args' := [.agg (Enc.cells (x1 : Trc))]) (r := .raw (.int .i64 x41)) (taken_sh fuel x1 x41 hx41) rfl rfl rfl (stripL_cons (strip_c (clo_agg (Enc.clo _))) rfl) (okTrimL_cons (okTrim_clo _ _ (clo_agg (Enc.clo _))) rfl) (by dsimp only [aput, List.set]) ?_
       refine h_met rfl rfl ?_
       refine h_op (a := .agg (Enc.cells ((Trc.mk x2 x1.e) : Trc))) rfl rfl rfl rfl (by dsimp only [aput, List.set]) ?_
       refine h_met rfl rfl ?_
       obtain ⟨x42, hx42, h⟩ := bindE_e h
       refine h_call (args' := [.agg (Enc.cells ((Trc.mk x2 x1.e) : Trc))]) (r := .raw (.int .i64 x42)) (taken_sh fuel (Trc.mk x2 x1.e) x42 hx42) rfl rfl rfl (stripL_cons (strip_c (clo_agg (Enc.clo _))) rfl) (okTrimL_cons (okTrim_clo _ _ (clo_agg (Enc.clo _))) rfl) (by dsimp only [aput, List.set]) ?_
       refine h_met rfl rfl ?_
       refine h_op (a := .agg (Enc.cells (j2 : Trc))) rfl rfl rfl rfl (by dsimp only [aput, List.set]) ?_
       refine h_met rfl rfl ?_
       obtain ⟨x43, hx43, h⟩ := bindE_e h
       refine h_call (args' := [.agg (Enc.cells (j2 : Trc))]) (r := .raw (.int .i64 x43)) (taken_sh fuel j2 x43 hx43) rfl rfl rfl (stripL_cons (strip_c (clo_agg (Enc.clo _))) rfl) (okTrimL_cons (okTrim_clo _ _ (clo_agg (Enc.clo _))) rfl) (by dsimp only [aput, List.set]) ?_
       refine h_met rfl rfl ?_
       obtain ⟨g40, h⟩ := chk_e h
       refine h_op (a := .raw (.int .i64 (x42 + x43))) rfl rfl rfl (q_add rfl rfl rfl rfl g40.1 g40.2) (by dsimp only [aput, List.set]) ?_
       refine h_met rfl rfl ?_
       refine h_op (a := .raw (.bool (x41 == (x42 + x43)))) rfl rfl rfl rfl (by dsimp only [aput, List.set]) ?_
       refine h_op (a := .raw (.bool (x41 == (x42 + x43)))) rfl rfl rfl rfl (by dsimp only [aput, List.set]) ?_
       refine bif_e h (fun hc15 h => ?_) (fun hc15 h => ?_)
       ·
        refine h_op (a := .raw (.bool true)) rfl rfl rfl (q_bool rfl hc15) (by dsimp only [aput, List.set]) ?_
        refine h_met rfl rfl ?_
        refine h_op (a := .agg (Enc.cells (x1 : Trc))) rfl rfl rfl rfl (by dsimp only [aput, List.set]) ?_
        refine h_met rfl rfl ?_
        obtain ⟨x44, hx44, h⟩ := bindE_e h
        refine h_call (args' := [.agg (Enc.cells (x1 : Trc))]) (r := .raw (.int .i64 x44)) (lost_sh fuel x1 x44 hx44) rfl rfl rfl (stripL_cons (strip_c (clo_agg (Enc.clo _))) rfl) (okTrimL_cons (okTrim_clo _ _ (clo_agg (Enc.clo _))) rfl) (by dsimp only [aput, List.set]) ?_
        refine h_met rfl rfl ?_
        refine h_op (a := .agg (Enc.cells ((Trc.mk x2 x1.e) : Trc))) rfl rfl rfl rfl (by dsimp only [aput, List.set]) ?_
        refine h_met rfl rfl ?_
        obtain ⟨x45, hx45, h⟩ := bindE_e h
        refine h_call (args' := [.agg (Enc.cells ((Trc.mk x2 x1.e) : Trc))]) (r := .raw (.int .i64 x45)) (lost_sh fuel (Trc.mk x2 x1.e) x45 hx45) rfl rfl rfl (stripL_cons (strip_c (clo_agg (Enc.clo _))) rfl) (okTrimL_cons (okTrim_clo _ _ (clo_agg (Enc.clo _))) rfl) (by dsimp only [aput, List.set]) ?_
        refine h_met rfl rfl ?_
        refine h_op (a := .agg (Enc.cells (j2 : Trc))) rfl rfl rfl rfl (by dsimp only [aput, List.set]) ?_
        refine h_met rfl rfl ?_
        obtain ⟨x46, hx46, h⟩ := bindE_e h
        refine h_call (args' := [.agg (Enc.cells (j2 : Trc))]) (r := .raw (.int .i64 x46)) (lost_sh fuel j2 x46 hx46) rfl rfl rfl (stripL_cons (strip_c (clo_agg (Enc.clo _))) rfl) (okTrimL_cons (okTrim_clo _ _ (clo_agg (Enc.clo _))) rfl) (by dsimp only [aput, List.set]) ?_
        refine h_met rfl rfl ?_
        obtain ⟨g41, h⟩ := chk_e h
        refine h_op (a := .raw (.int .i64 (x45 + x46))) rfl rfl rfl (q_add rfl rfl rfl rfl g41.1 g41.2) (by dsimp only [aput, List.set]) ?_
        refine h_met rfl rfl ?_
        refine h_op (a := .raw (.bool (x44 == (x45 + x46)))) rfl rfl rfl rfl (by dsimp only [aput, List.set]) ?_
        refine h_op (a := .raw (.bool (x44 == (x45 + x46)))) rfl rfl rfl rfl (by dsimp only [aput, List.set]) ?_
        refine bif_e h (fun hc16 h => ?_) (fun hc16 h => ?_)
        ·
         refine h_op (a := .raw (.bool true)) rfl rfl rfl (q_bool rfl hc16) (by dsimp only [aput, List.set]) ?_
         refine h_met rfl rfl ?_
         refine h_op (a := .agg (Enc.cells (x1 : Trc))) rfl rfl rfl rfl (by dsimp only [aput, List.set]) ?_
         refine h_met rfl rfl ?_
         obtain ⟨x47, hx47, h⟩ := bindE_e h
         refine h_call (args' := [.agg (Enc.cells (x1 : Trc))]) (r := .raw (.string (bs x47))) (sent_sh fuel x1 x47 hx47) rfl rfl rfl (stripL_cons (strip_c (clo_agg (Enc.clo _))) rfl) (okTrimL_cons (okTrim_clo _ _ (clo_agg (Enc.clo _))) rfl) (by dsimp only [aput, List.set]) ?_
         refine h_met rfl rfl ?_
         refine h_op (a := .agg (Enc.cells ((Trc.mk x2 x1.e) : Trc))) rfl rfl rfl rfl (by dsimp only [aput, List.set]) ?_
         refine h_met rfl rfl ?_
         obtain ⟨x48, hx48, h⟩ := bindE_e h
         refine h_call (args' := [.agg (Enc.cells ((Trc.mk x2 x1.e) : Trc))]) (r := .raw (.string (bs x48))) (sent_sh fuel (Trc.mk x2 x1.e) x48 hx48) rfl rfl rfl (stripL_cons (strip_c (clo_agg (Enc.clo _))) rfl) (okTrimL_cons (okTrim_clo _ _ (clo_agg (Enc.clo _))) rfl) (by dsimp only [aput, List.set]) ?_
         refine h_met rfl rfl ?_
         refine h_op (a := .agg (Enc.cells (j2 : Trc))) rfl rfl rfl rfl (by dsimp only [aput, List.set]) ?_
         refine h_end ?_
         refine w_met rfl rfl ?_
         obtain ⟨x49, hx49, h⟩ := bindE_e h
         refine w_callc (args' := [.agg (Enc.cells (j2 : Trc))]) (r := .raw (.string (bs x49))) (sent_sh fuel j2 x49 hx49) rfl rfl (stripL_cons (strip_c (clo_agg (Enc.clo _))) rfl) (okTrimL_cons (okTrim_clo _ _ (clo_agg (Enc.clo _))) rfl) (by dsimp only [aput, List.set]) ?_
         refine w_met rfl rfl ?_
         obtain ⟨g42, h⟩ := chk_e h
         refine w_op (a := .raw (.string (bs (x48 ++ x49)))) rfl rfl rfl (op_q (q_stradd g42 rfl rfl rfl)) (by dsimp only [aput, List.set]) ?_
         refine w_met rfl rfl ?_
         refine w_op (a := .raw (.bool (x47 == (x48 ++ x49)))) rfl rfl rfl (op_q (q_streq rfl rfl rfl)) (by dsimp only [aput, List.set]) ?_
         refine w_op (a := .raw (.bool (x47 == (x48 ++ x49)))) rfl rfl rfl rfl (by dsimp only [aput, List.set]) ?_
         refine bif_e h (fun hc17 h => ?_) (fun hc17 h => ?_)
         ·
          refine w_op (a := .raw (.bool true)) rfl rfl rfl (op_q (q_bool rfl hc17)) (by dsimp only [aput, List.set]) ?_
          refine w_met rfl rfl ?_
          refine w_callc (args' := []) (r := .raw (.bool true)) awake_pure rfl rfl rfl rfl (by dsimp only [aput, List.set]) ?_
          refine w_op (a := .raw (.bool true)) rfl rfl rfl rfl (by dsimp only [aput, List.set]) ?_
          refine w_op (a := .raw (.bool true)) rfl rfl rfl rfl (by dsimp only [aput, List.set]) ?_
          exact end_pureF (fun (r : Bool) => (.raw (.bool r) : AV)) h (a := .raw (.bool true)) rfl rfl rfl
         ·
          refine w_op (a := .raw (.bool false)) rfl rfl rfl (op_q (q_bool rfl hc17)) (by dsimp only [aput, List.set]) ?_
          refine w_pass rfl rfl (by decide) (by dsimp only [aput, List.set]) ?_
          refine w_op (a := .raw (.bool false)) rfl rfl rfl rfl (by dsimp only [aput, List.set]) ?_
          refine w_op (a := .raw (.bool false)) rfl rfl rfl rfl (by dsimp only [aput, List.set]) ?_
          exact end_pureF (fun (r : Bool) => (.raw (.bool r) : AV)) h (a := .raw (.bool false)) rfl rfl rfl
        ·
         refine h_op (a := .raw (.bool false)) rfl rfl rfl (q_bool rfl hc16) (by dsimp only [aput, List.set]) ?_
         refine h_pass rfl rfl rfl (by decide) (by dsimp only [aput, List.set]) ?_
         refine h_pass rfl rfl rfl (by decide) (by dsimp only [aput, List.set]) ?_
         refine h_pass rfl rfl rfl (by decide) (by dsimp only [aput, List.set]) ?_
         refine h_pass rfl rfl rfl (by decide) (by dsimp only [aput, List.set]) ?_
         refine h_pass rfl rfl rfl (by decide) (by dsimp only [aput, List.set]) ?_
         refine h_end ?_
         refine w_pass rfl rfl (by decide) (by dsimp only [aput, List.set]) ?_
         refine w_pass rfl rfl (by decide) (by dsimp only [aput, List.set]) ?_
         refine w_pass rfl rfl (by decide) (by dsimp only [aput, List.set]) ?_
         refine w_op (a := .raw (.bool false)) rfl rfl rfl rfl (by dsimp only [aput, List.set]) ?_
         refine w_op (a := .raw (.bool false)) rfl rfl rfl rfl (by dsimp only [aput, List.set]) ?_
         refine w_pass rfl rfl (by decide) (by dsimp only [aput, List.set]) ?_
         refine w_op (a := .raw (.bool false)) rfl rfl rfl rfl (by dsimp only [aput, List.set]) ?_
         refine w_op (a := .raw (.bool false)) rfl rfl rfl rfl (by dsimp only [aput, List.set]) ?_
         exact end_pureF (fun (r : Bool) => (.raw (.bool r) : AV)) h (a := .raw (.bool false)) rfl rfl rfl
       ·
        refine h_op (a := .raw (.bool false)) rfl rfl rfl (q_bool rfl hc15) (by dsimp only [aput, List.set]) ?_
        refine h_pass rfl rfl rfl (by decide) (by dsimp only [aput, List.set]) ?_
        refine h_pass rfl rfl rfl (by decide) (by dsimp only [aput, List.set]) ?_
        refine h_pass rfl rfl rfl (by decide) (by dsimp only [aput, List.set]) ?_
        refine h_pass rfl rfl rfl (by decide) (by dsimp only [aput, List.set]) ?_
        refine h_pass rfl rfl rfl (by decide) (by dsimp only [aput, List.set]) ?_
        refine h_pass rfl rfl rfl (by decide) (by dsimp only [aput, List.set]) ?_
        refine h_pass rfl rfl rfl (by decide) (by dsimp only [aput, List.set]) ?_
        refine h_pass rfl rfl rfl (by decide) (by dsimp only [aput, List.set]) ?_
        refine h_op (a := .raw (.bool false)) rfl rfl rfl rfl (by dsimp only [aput, List.set]) ?_
        refine h_op (a := .raw (.bool false)) rfl rfl rfl rfl (by dsimp only [aput, List.set]) ?_
        refine h_pass rfl rfl rfl (by decide) (by dsimp only [aput, List.set]) ?_
        refine h_pass rfl rfl rfl (by decide) (by dsimp only [aput, List.set]) ?_
        refine h_pass rfl rfl rfl (by decide) (by dsimp only [aput, List.set]) ?_
        refine h_pass rfl rfl rfl (by decide) (by dsimp only [aput, List.set]) ?_
        refine h_pass rfl rfl rfl (by decide) (by dsimp only [aput, List.set]) ?_
        refine h_end ?_
        refine w_pass rfl rfl (by decide) (by dsimp only [aput, List.set]) ?_
        refine w_pass rfl rfl (by decide) (by dsimp only [aput, List.set]) ?_
        refine w_pass rfl rfl (by decide) (by dsimp only [aput, List.set]) ?_
        refine w_op (a := .raw (.bool false)) rfl rfl rfl rfl (by dsimp only [aput, List.set]) ?_
        refine w_op (a := .raw (.bool false)) rfl rfl rfl rfl (by dsimp only [aput, List.set]) ?_
        refine w_pass rfl rfl (by decide) (by dsimp only [aput, List.set]) ?_
        refine w_op (a := .raw (.bool false)) rfl rfl rfl rfl (by dsimp only [aput, List.set]) ?_
        refine w_op (a := .raw (.bool false)) rfl rfl rfl rfl (by dsimp only [aput, List.set]) ?_
        exact end_pureF (fun (r : Bool) => (.raw (.bool r) : AV)) h (a := .raw (.bool false)) rfl rfl rfl
      ·
       refine h_op (a := .raw (.bool false)) rfl rfl rfl (q_bool rfl hc14) (by dsimp only [aput, List.set]) ?_
       refine h_pass rfl rfl rfl (by decide) (by dsimp only [aput, List.set]) ?_
       refine h_pass rfl rfl rfl (by decide) (by dsimp only [aput, List.set]) ?_
       refine h_pass rfl rfl rfl (by decide) (by dsimp only [aput, List.set]) ?_
       refine h_pass rfl rfl rfl (by decide) (by dsimp only [aput, List.set]) ?_
       refine h_pass rfl rfl rfl (by decide) (by dsimp only [aput, List.set]) ?_
       refine h_pass rfl rfl rfl (by decide) (by dsimp only [aput, List.set]) ?_
       refine h_pass rfl rfl rfl (by decide) (by dsimp only [aput, List.set]) ?_
       refine h_pass rfl rfl rfl (by decide) (by dsimp only [aput, List.set]) ?_
       refine h_op (a := .raw (.bool false)) rfl rfl rfl rfl (by dsimp only [aput, List.set]) ?_
       refine h_op (a := .raw (.bool false)) rfl rfl rfl rfl (by dsimp only [aput, List.set]) ?_
       refine h_pass rfl rfl rfl (by decide) (by dsimp only [aput, List.set]) ?_
       refine h_pass rfl rfl rfl (by decide) (by dsimp only [aput, List.set]) ?_
       refine h_pass rfl rfl rfl (by decide) (by dsimp only [aput, List.set]) ?_
       refine h_pass rfl rfl rfl (by decide) (by dsimp only [aput, List.set]) ?_
       refine h_pass rfl rfl rfl (by decide) (by dsimp only [aput, List.set]) ?_
       refine h_pass rfl rfl rfl (by decide) (by dsimp only [aput, List.set]) ?_
       refine h_pass rfl rfl rfl (by decide) (by dsimp only [aput, List.set]) ?_
       refine h_pass rfl rfl rfl (by decide) (by dsimp only [aput, List.set]) ?_
       refine h_op (a := .raw (.bool false)) rfl rfl rfl rfl (by dsimp only [aput, List.set]) ?_
       refine h_op (a := .raw (.bool false)) rfl rfl rfl rfl (by dsimp only [aput, List.set]) ?_
       refine h_pass rfl rfl rfl (by decide) (by dsimp only [aput, List.set]) ?_
       refine h_pass rfl rfl rfl (by decide) (by dsimp only [aput, List.set]) ?_
       refine h_pass rfl rfl rfl (by decide) (by dsimp only [aput, List.set]) ?_
       refine h_pass rfl rfl rfl (by decide) (by dsimp only [aput, List.set]) ?_
       refine h_pass rfl rfl rfl (by decide) (by dsimp only [aput, List.set]) ?_
       refine h_end ?_
       refine w_pass rfl rfl (by decide) (by dsimp only [aput, List.set]) ?_
       refine w_pass rfl rfl (by decide) (by dsimp only [aput, List.set]) ?_
       refine w_pass rfl rfl (by decide) (by dsimp only [aput, List.set]) ?_
       refine w_op (a := .raw (.bool false)) rfl rfl rfl rfl (by dsimp only [aput, List.set]) ?_
       refine w_op (a := .raw (.bool false)) rfl rfl rfl rfl (by dsimp only [aput, List.set]) ?_
       refine w_pass rfl rfl (by decide) (by dsimp only [aput, List.set]) ?_
       refine w_op (a := .raw (.bool false)) rfl rfl rfl rfl (by dsimp only [aput, List.set]) ?_
       refine w_op (a := .raw (.bool false)) rfl rfl rfl rfl (by dsimp only [aput, List.set]) ?_
       exact end_pureF (fun (r : Bool) => (.raw (.bool r) : AV)) h (a := .raw (.bool false)) rfl rfl rfl
     ·
      refine h_op (a := .raw (.bool false)) rfl rfl rfl (q_bool rfl hc13) (by dsimp only [aput, List.set]) ?_
      refine h_pass rfl rfl rfl (by decide) (by dsimp only [aput, List.set]) ?_
      refine h_pass rfl rfl rfl (by decide) (by dsimp only [aput, List.set]) ?_
      refine h_pass rfl rfl rfl (by decide) (by dsimp only [aput, List.set]) ?_
      refine h_pass rfl rfl rfl (by decide) (by dsimp only [aput, List.set]) ?_
      refine h_pass rfl rfl rfl (by decide) (by dsimp only [aput, List.set]) ?_
      refine h_pass rfl rfl rfl (by decide) (by dsimp only [aput, List.set]) ?_
      refine h_pass rfl rfl rfl (by decide) (by dsimp only [aput, List.set]) ?_
      refine h_pass rfl rfl rfl (by decide) (by dsimp only [aput, List.set]) ?_
      refine h_op (a := .raw (.bool false)) rfl rfl rfl rfl (by dsimp only [aput, List.set]) ?_
      refine h_op (a := .raw (.bool false)) rfl rfl rfl rfl (by dsimp only [aput, List.set]) ?_
      refine h_pass rfl rfl rfl (by decide) (by dsimp only [aput, List.set]) ?_
      refine h_pass rfl rfl rfl (by decide) (by dsimp only [aput, List.set]) ?_
      refine h_pass rfl rfl rfl (by decide) (by dsimp only [aput, List.set]) ?_
      refine h_pass rfl rfl rfl (by decide) (by dsimp only [aput, List.set]) ?_
      refine h_pass rfl rfl rfl (by decide) (by dsimp only [aput, List.set]) ?_
      refine h_pass rfl rfl rfl (by decide) (by dsimp only [aput, List.set]) ?_
      refine h_pass rfl rfl rfl (by decide) (by dsimp only [aput, List.set]) ?_
      refine h_pass rfl rfl rfl (by decide) (by dsimp only [aput, List.set]) ?_
      refine h_op (a := .raw (.bool false)) rfl rfl rfl rfl (by dsimp only [aput, List.set]) ?_
      refine h_op (a := .raw (.bool false)) rfl rfl rfl rfl (by dsimp only [aput, List.set]) ?_
      refine h_pass rfl rfl rfl (by decide) (by dsimp only [aput, List.set]) ?_
      refine h_pass rfl rfl rfl (by decide) (by dsimp only [aput, List.set]) ?_
      refine h_pass rfl rfl rfl (by decide) (by dsimp only [aput, List.set]) ?_
      refine h_pass rfl rfl rfl (by decide) (by dsimp only [aput, List.set]) ?_
      refine h_pass rfl rfl rfl (by decide) (by dsimp only [aput, List.set]) ?_
      refine h_pass rfl rfl rfl (by decide) (by dsimp only [aput, List.set]) ?_
      refine h_pass rfl rfl rfl (by decide) (by dsimp only [aput, List.set]) ?_
      refine h_pass rfl rfl rfl (by decide) (by dsimp only [aput, List.set]) ?_
      refine h_op (a := .raw (.bool false)) rfl rfl rfl rfl (by dsimp only [aput, List.set]) ?_
      refine h_op (a := .raw (.bool false)) rfl rfl rfl rfl (by dsimp only [aput, List.set]) ?_
      refine h_pass rfl rfl rfl (by decide) (by dsimp only [aput, List.set]) ?_
      refine h_pass rfl rfl rfl (by decide) (by dsimp only [aput, List.set]) ?_
      refine h_pass rfl rfl rfl (by decide) (by dsimp only [aput, List.set]) ?_
      refine h_pass rfl rfl rfl (by decide) (by dsimp only [aput, List.set]) ?_
      refine h_pass rfl rfl rfl (by decide) (by dsimp only [aput, List.set]) ?_
      refine h_end ?_
      refine w_pass rfl rfl (by decide) (by dsimp only [aput, List.set]) ?_
      refine w_pass rfl rfl (by decide) (by dsimp only [aput, List.set]) ?_
      refine w_pass rfl rfl (by decide) (by dsimp only [aput, List.set]) ?_
      refine w_op (a := .raw (.bool false)) rfl rfl rfl rfl (by dsimp only [aput, List.set]) ?_
      refine w_op (a := .raw (.bool false)) rfl rfl rfl rfl (by dsimp only [aput, List.set]) ?_
      refine w_pass rfl rfl (by decide) (by dsimp only [aput, List.set]) ?_
      refine w_op (a := .raw (.bool false)) rfl rfl rfl rfl (by dsimp only [aput, List.set]) ?_
      refine w_op (a := .raw (.bool false)) rfl rfl rfl rfl (by dsimp only [aput, List.set]) ?_
      exact end_pureF (fun (r : Bool) => (.raw (.bool r) : AV)) h (a := .raw (.bool false)) rfl rfl rfl
    ·
     refine h_op (a := .raw (.bool false)) rfl rfl rfl (q_bool rfl hc12) (by dsimp only [aput, List.set]) ?_
     refine h_pass rfl rfl rfl (by decide) (by dsimp only [aput, List.set]) ?_
     refine h_pass rfl rfl rfl (by decide) (by dsimp only [aput, List.set]) ?_
     refine h_pass rfl rfl rfl (by decide) (by dsimp only [aput, List.set]) ?_
     refine h_pass rfl rfl rfl (by decide) (by dsimp only [aput, List.set]) ?_
     refine h_pass rfl rfl rfl (by decide) (by dsimp only [aput, List.set]) ?_
     refine h_pass rfl rfl rfl (by decide) (by dsimp only [aput, List.set]) ?_
     refine h_pass rfl rfl rfl (by decide) (by dsimp only [aput, List.set]) ?_
     refine h_pass rfl rfl rfl (by decide) (by dsimp only [aput, List.set]) ?_
     refine h_op (a := .raw (.bool false)) rfl rfl rfl rfl (by dsimp only [aput, List.set]) ?_
     refine h_op (a := .raw (.bool false)) rfl rfl rfl rfl (by dsimp only [aput, List.set]) ?_
     refine h_pass rfl rfl rfl (by decide) (by dsimp only [aput, List.set]) ?_
     refine h_pass rfl rfl rfl (by decide) (by dsimp only [aput, List.set]) ?_
     refine h_pass rfl rfl rfl (by decide) (by dsimp only [aput, List.set]) ?_
     refine h_pass rfl rfl rfl (by decide) (by dsimp only [aput, List.set]) ?_
     refine h_pass rfl rfl rfl (by decide) (by dsimp only [aput, List.set]) ?_
     refine h_pass rfl rfl rfl (by decide) (by dsimp only [aput, List.set]) ?_
     refine h_pass rfl rfl rfl (by decide) (by dsimp only [aput, List.set]) ?_
     refine h_pass rfl rfl rfl (by decide) (by dsimp only [aput, List.set]) ?_
     refine h_op (a := .raw (.bool false)) rfl rfl rfl rfl (by dsimp only [aput, List.set]) ?_
     refine h_op (a := .raw (.bool false)) rfl rfl rfl rfl (by dsimp only [aput, List.set]) ?_
     refine h_pass rfl rfl rfl (by decide) (by dsimp only [aput, List.set]) ?_
     refine h_pass rfl rfl rfl (by decide) (by dsimp only [aput, List.set]) ?_
     refine h_pass rfl rfl rfl (by decide) (by dsimp only [aput, List.set]) ?_
     refine h_pass rfl rfl rfl (by decide) (by dsimp only [aput, List.set]) ?_
     refine h_pass rfl rfl rfl (by decide) (by dsimp only [aput, List.set]) ?_
     refine h_pass rfl rfl rfl (by decide) (by dsimp only [aput, List.set]) ?_
     refine h_pass rfl rfl rfl (by decide) (by dsimp only [aput, List.set]) ?_
     refine h_pass rfl rfl rfl (by decide) (by dsimp only [aput, List.set]) ?_
     refine h_op (a := .raw (.bool false)) rfl rfl rfl rfl (by dsimp only [aput, List.set]) ?_
     refine h_op (a := .raw (.bool false)) rfl rfl rfl rfl (by dsimp only [aput, List.set]) ?_
     refine h_pass rfl rfl rfl (by decide) (by dsimp only [aput, List.set]) ?_
     refine h_pass rfl rfl rfl (by decide) (by dsimp only [aput, List.set]) ?_
     refine h_pass rfl rfl rfl (by decide) (by dsimp only [aput, List.set]) ?_
     refine h_pass rfl rfl rfl (by decide) (by dsimp only [aput, List.set]) ?_
     refine h_pass rfl rfl rfl (by decide) (by dsimp only [aput, List.set]) ?_
     refine h_pass rfl rfl rfl (by decide) (by dsimp only [aput, List.set]) ?_
     refine h_pass rfl rfl rfl (by decide) (by dsimp only [aput, List.set]) ?_
     refine h_pass rfl rfl rfl (by decide) (by dsimp only [aput, List.set]) ?_
     refine h_op (a := .raw (.bool false)) rfl rfl rfl rfl (by dsimp only [aput, List.set]) ?_
     refine h_op (a := .raw (.bool false)) rfl rfl rfl rfl (by dsimp only [aput, List.set]) ?_
     refine h_pass rfl rfl rfl (by decide) (by dsimp only [aput, List.set]) ?_
     refine h_pass rfl rfl rfl (by decide) (by dsimp only [aput, List.set]) ?_
     refine h_pass rfl rfl rfl (by decide) (by dsimp only [aput, List.set]) ?_
     refine h_pass rfl rfl rfl (by decide) (by dsimp only [aput, List.set]) ?_
     refine h_pass rfl rfl rfl (by decide) (by dsimp only [aput, List.set]) ?_
     refine h_end ?_
     refine w_pass rfl rfl (by decide) (by dsimp only [aput, List.set]) ?_
     refine w_pass rfl rfl (by decide) (by dsimp only [aput, List.set]) ?_
     refine w_pass rfl rfl (by decide) (by dsimp only [aput, List.set]) ?_
     refine w_op (a := .raw (.bool false)) rfl rfl rfl rfl (by dsimp only [aput, List.set]) ?_
     refine w_op (a := .raw (.bool false)) rfl rfl rfl rfl (by dsimp only [aput, List.set]) ?_
     refine w_pass rfl rfl (by decide) (by dsimp only [aput, List.set]) ?_
     refine w_op (a := .raw (.bool false)) rfl rfl rfl rfl (by dsimp only [aput, List.set]) ?_
     refine w_op (a := .raw (.bool false)) rfl rfl rfl rfl (by dsimp only [aput, List.set]) ?_
     exact end_pureF (fun (r : Bool) => (.raw (.bool r) : AV)) h (a := .raw (.bool false)) rfl rfl rfl
end Go.Ab
