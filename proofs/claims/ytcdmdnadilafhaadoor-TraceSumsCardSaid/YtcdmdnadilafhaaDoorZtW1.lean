/-
  trace: equality, Differ, Goes.
-/
import Derived.Test.YtcdmdnadilafhaaDoorZtEn2
set_option linter.unusedSimpArgs false
set_option linter.unusedVariables false
namespace Go.Ab
open Go Go.RowKit Go.Fwd Go.Proofs
def F_equal (fuel : Nat) (a : (List En)) (b : (List En)) : Option Bool :=
  (bif ((List.length a : Int) != (List.length b : Int)) then (some false) else (cutE (τ := Unit) (loopE (β := Int) (fun s1 => (bif (decide (s1 < (List.length a : Int))) then (chk (0 ≤ s1 ∧ s1 < (List.length a : Int)) (letE (ix a s1) (fun x1 => (chk (0 ≤ s1 ∧ s1 < (List.length b : Int)) (letE (ix b s1) (fun x2 => (bif (decide (x1 ≠ x2)) then (some (Sum.inr (Sum.inr false))) else (chk (-9223372036854775808 ≤ (s1 + 1) ∧ (s1 + 1) < 9223372036854775808) (some (Sum.inl ((s1 + 1)))))))))))) else (some (Sum.inr (Sum.inl ()))))) fuel (0)) (fun j1 => (some true))))
theorem ent41 : Ent Tryd.prog 41 := enters_of Tryd.func41 (by kernel_rfl) rfl
set_option maxRecDepth 100000 in
set_option maxHeartbeats 4000000 in
theorem equal_sh (fuel : Nat) (a : (List En)) (b : (List En)) (r : Bool) (h : F_equal fuel a b = some r) : Pure (ITP Tryd.prog) Tryd.prog 41 [.list (List.length (a : List En)) (Enc.cellsL (a : List En)) .none, .list (List.length (b : List En)) (Enc.cellsL (b : List En)) .none] (.raw (.bool r)) := by
 obtain ⟨d, hd⟩ : ∃ d, Tryd.f41.body = some d := ⟨_, rfl⟩
 refine pure_of mix Tryd.func41 hd ent41 ?_
 cases hd
 unfold F_equal at h
 refine w_start (by dsimp only [abeginS, Tryd.f41, List.length_cons, List.length_nil, Nat.zero_add, Nat.reduceAdd, Nat.reduceSub, List.replicate, List.cons_append, List.nil_append]) (by dsimp only [St.empty]) ?_
 refine w_seq (w_region ?_)
 refine w_op (a := .raw (.bool false)) rfl rfl rfl rfl (by dsimp only [aput, List.set]) ?_
 refine w_seq ?_
 refine w_seq (w_region ?_)
 refine w_op (a := .list (List.length (a : List En)) (Enc.cellsL (a : List En)) .none) rfl rfl rfl rfl (by dsimp only [aput, List.set]) ?_
 refine w_op (a := .raw (.int .i64 (List.length a : Int))) rfl rfl rfl rfl (by dsimp only [aput, List.set]) ?_
 refine w_op (a := .list (List.length (b : List En)) (Enc.cellsL (b : List En)) .none) rfl rfl rfl rfl (by dsimp only [aput, List.set]) ?_
 refine w_op (a := .raw (.int .i64 (List.length b : Int))) rfl rfl rfl rfl (by dsimp only [aput, List.set]) ?_
 refine w_op (a := .raw (.bool ((List.length a : Int) != (List.length b : Int)))) rfl rfl rfl rfl (by dsimp only [aput, List.set]) ?_
 refine bif_e h (fun hc1 h => ?_) (fun hc1 h => ?_)
 ·
  refine w_condT hc1 rfl ?_
  refine w_seq (w_region ?_)
  refine w_op (a := .raw (.bool false)) rfl rfl rfl rfl (by dsimp only [aput, List.set]) ?_
  exact end_pureF (fun (r : Bool) => (.raw (.bool r) : AV)) h (a := .raw (.bool false)) rfl rfl rfl
 ·
  refine w_condF hc1 rfl ?_
  refine w_cutF h [0, 1, 2, 3, 4, 5, 6, 7, 8, 9, 10, 11, 12, 13, 14, 15, 16, 17, 18, 19, 20, 21, 22, 23, 24, 25] (fun j1 => []) (fun j1 => ⟨[], [], [], 0, false⟩) ?_ ?_
  ·
   intro or1 h hr1
   refine w_seq (w_region ?_)
   refine w_op (a := .list (List.length (a : List En)) (Enc.cellsL (a : List En)) .none) rfl rfl rfl rfl (by dsimp only [aput, List.set]) ?_
   refine w_op (a := .raw (.int .i64 (List.length a : Int))) rfl rfl rfl rfl (by dsimp only [aput, List.set]) ?_
   refine w_op (a := .raw (.int .i64 0)) rfl rfl rfl rfl (by dsimp only [aput, List.set]) ?_
   refine w_block ?_
   refine w_loopF h [2, 3, 4, 5, 6, 7, 8, 9, 10, 11, 13, 14, 15, 16, 17, 18, 19, 20, 21, 22, 23, 24, 25] (fun s1 => [(13, .raw (.int .i64 s1))]) (fun s1 => ⟨[], [], [], 0, false⟩) ?_ ?_
   ·
    exact wm_of [true, true, false, false, false, false, false, false, false, false, false, false, true, true, false, false, false, false, false, false, false, false, false, false, false, false] (by kernel_rfl) (by kernel_rfl)
   ·
    intro s1 p1 h
    refine w_start (by dsimp only [setAll, topAll, List.foldl, List.set]) rfl ?_
    refine w_seq (w_region ?_)
    refine w_op (a := .raw (.bool (decide (s1 < (List.length a : Int))))) rfl rfl rfl rfl (by dsimp only [aput, List.set]) ?_
    refine w_seq ?_
    refine bif_e h (fun hc2 h => ?_) (fun hc2 h => ?_)
    ·
     refine w_condT hc2 rfl ?_
     refine w_seq ?_
     refine w_block ?_
     refine w_seq (w_region ?_)
     refine w_op (a := .raw (.int .i64 s1)) rfl rfl rfl rfl (by dsimp only [aput, List.set]) ?_
     refine w_op (a := .raw (.int .i64 s1)) rfl rfl rfl rfl (by dsimp only [aput, List.set]) ?_
     refine w_seq ?_
     refine w_draw (id := 6) 8 (by kernel_rfl) (by kernel_rfl) ?_
     refine h_op (a := .list (List.length (a : List En)) (Enc.cellsL (a : List En)) .none) rfl rfl rfl rfl (by dsimp only [aput, List.set]) ?_
     refine h_op (a := .raw (.int .i64 s1)) rfl rfl rfl rfl (by dsimp only [aput, List.set]) ?_
     obtain ⟨g1, h⟩ := chk_e h
     obtain ⟨x1, hx1, h⟩ := letE_e h
     refine h_op (a := .iptr (Enc.cells x1 ++ Enc.cellsL (List.drop (Int.toNat s1 + 1) a))) rfl rfl rfl (by rw [← hx1]; exact (q_idx (α := En) (l := a) g1 rfl rfl rfl rfl rfl)) (by dsimp only [aput, List.set]) ?_
     refine h_op (a := .agg (Enc.cells (x1 : En))) rfl rfl rfl rfl (by dsimp only [aput, List.set]) ?_
     refine h_op (a := .list (List.length (b : List En)) (Enc.cellsL (b : List En)) .none) rfl rfl rfl rfl (by dsimp only [aput, List.set]) ?_
     refine h_op (a := .raw (.int .i64 s1)) rfl rfl rfl rfl (by dsimp only [aput, List.set]) ?_
     obtain ⟨g2, h⟩ := chk_e h
     obtain ⟨x2, hx2, h⟩ := letE_e h
     refine h_op (a := .iptr (Enc.cells x2 ++ Enc.cellsL (List.drop (Int.toNat s1 + 1) b))) rfl rfl rfl (by rw [← hx2]; exact (q_idx (α := En) (l := b) g2 rfl rfl rfl rfl rfl)) (by dsimp only [aput, List.set]) ?_
     refine h_op (a := .agg (Enc.cells (x2 : En))) rfl rfl rfl rfl (by dsimp only [aput, List.set]) ?_
     refine h_end ?_
     refine w_run (.raw (.bool (decide (x1 ≠ x2)))) rfl rfl rfl (rs_neqEn x1 x2 rfl rfl rfl) (by dsimp only [aput, List.set]) ?_
     refine bif_e h (fun hc3 h => ?_) (fun hc3 h => ?_)
     ·
      refine w_condT hc3 rfl ?_
      refine w_seq (w_region ?_)
      refine w_op (a := .raw (.bool false)) rfl rfl rfl rfl (by dsimp only [aput, List.set]) ?_
      refine loop_exit h (fun h => ?_)
      replace h := cut_inr h hr1
      exact end_pureF (fun (r : Bool) => (.raw (.bool r) : AV)) h (a := .raw (.bool false)) rfl rfl rfl
     ·
      refine w_condF hc3 rfl ?_
      refine w_region (k0 := 0) (id := 8) ?_
      obtain ⟨g3, h⟩ := chk_e h
      refine w_op (a := .raw (.int .i64 (s1 + 1))) rfl rfl rfl (op_q (q_add rfl rfl rfl rfl g3.1 g3.2)) (by dsimp only [aput, List.set]) ?_
      refine w_op (a := .raw (.int .i64 (s1 + 1))) rfl rfl rfl rfl (by dsimp only [aput, List.set]) ?_
      refine loop_next (p := p1) ((s1 + 1)) h ?_
      exact wm_of [true, true, false, false, false, false, false, false, false, false, false, false, true, true, false, false, false, false, false, false, false, false, false, false, false, false] (by kernel_rfl) (by kernel_rfl)
    ·
     refine w_condF hc2 rfl ?_
     refine loop_exit h (fun h => ?_)
     refine cut_done (o := or1) () h ?_
     exact wm_of [false, false, false, false, false, false, false, false, false, false, false, false, false, false, false, false, false, false, false, false, false, false, false, false, false, false] (by kernel_rfl) (by kernel_rfl)
  ·
   intro j1 h
   refine w_start (by dsimp only [setAll, topAll, List.foldl, List.set]) rfl ?_
   refine w_seq (w_region ?_)
   refine w_op (a := .raw (.bool true)) rfl rfl rfl rfl (by dsimp only [aput, List.set]) ?_
   exact end_pureF (fun (r : Bool) => (.raw (.bool r) : AV)) h (a := .raw (.bool true)) rfl rfl rfl
def F_same (fuel : Nat) (a : Trc) (b : Trc) : Option Bool :=
  (bindE (F_equal fuel a.l b.l) (fun x1 => (bif x1 then (some (decide (a.e = b.e))) else (some false))))
theorem ent17 : Ent Tryd.prog 17 := enters_of Tryd.func17 (by kernel_rfl) rfl
set_option maxRecDepth 100000 in
set_option maxHeartbeats 4000000 in
theorem same_sh (fuel : Nat) (a : Trc) (b : Trc) (r : Bool) (h : F_same fuel a b = some r) : Pure (ITP Tryd.prog) Tryd.prog 17 [.agg (Enc.cells (a : Trc)), .agg (Enc.cells (b : Trc))] (.raw (.bool r)) := by
 obtain ⟨d, hd⟩ : ∃ d, Tryd.f17.body = some d := ⟨_, rfl⟩
 refine pure_of mix Tryd.func17 hd ent17 ?_
 cases hd
 unfold F_same at h
 refine w_start (by dsimp only [abeginS, Tryd.f17, List.length_cons, List.length_nil, Nat.zero_add, Nat.reduceAdd, Nat.reduceSub, List.replicate, List.cons_append, List.nil_append]) (by dsimp only [St.empty]) ?_
 refine w_seq (w_region ?_)
 refine w_opm (a := .ptr 0 0) (σ'' := ⟨[(26, (Enc.cells (a : Trc)))], [], [], 0, false⟩) rfl rfl rfl rfl (by dsimp only [aput, List.set]) rfl ?_
 refine w_opm (a := .ptr 1 0) (σ'' := ⟨[(26, (Enc.cells (a : Trc))), (26, (Enc.cells (b : Trc)))], [], [], 0, false⟩) rfl rfl rfl rfl (by dsimp only [aput, List.set]) rfl ?_
 refine w_op (a := .raw (.bool false)) rfl rfl rfl rfl (by dsimp only [aput, List.set]) ?_
 refine w_seq (w_region ?_)
 refine w_op (a := .ptr 0 0) rfl rfl rfl rfl (by dsimp only [aput, List.set]) ?_
 refine w_op (a := .list (List.length (a.l : List En)) (Enc.cellsL (a.l : List En)) .none) rfl rfl rfl rfl (by dsimp only [aput, List.set]) ?_
 refine w_op (a := .ptr 1 0) rfl rfl rfl rfl (by dsimp only [aput, List.set]) ?_
 refine w_op (a := .list (List.length (b.l : List En)) (Enc.cellsL (b.l : List En)) .none) rfl rfl rfl rfl (by dsimp only [aput, List.set]) ?_
 obtain ⟨x1, hx1, h⟩ := bindE_e h
 refine w_callc (args' := [.list (List.length (a.l : List En)) (Enc.cellsL (a.l : List En)) .none, .list (List.length (b.l : List En)) (Enc.cellsL (b.l : List En)) .none]) (r := .raw (.bool x1)) (equal_sh fuel a.l b.l x1 hx1) rfl rfl (stripL_cons (strip_l (Enc.cloL _)) (stripL_cons (strip_l (Enc.cloL _)) rfl)) (okTrimL_cons (okTrim_l (Enc.cloL _)) (okTrimL_cons (okTrim_l (Enc.cloL _)) rfl)) (by dsimp only [aput, List.set]) ?_
 refine bif_e h (fun hc1 h => ?_) (fun hc1 h => ?_)
 ·
  refine w_op (a := .raw (.bool true)) rfl rfl rfl (op_q (q_bool rfl hc1)) (by dsimp only [aput, List.set]) ?_
  refine w_met rfl rfl ?_
  refine w_op (a := .ptr 0 1) rfl rfl rfl rfl (by dsimp only [aput, List.set]) ?_
  refine w_met rfl rfl ?_
  refine w_op (a := .agg (Enc.cells (a.e : Ed))) rfl rfl rfl rfl (by dsimp only [aput, List.set]) ?_
  refine w_met rfl rfl ?_
  refine w_op (a := .ptr 1 1) rfl rfl rfl rfl (by dsimp only [aput, List.set]) ?_
  refine w_met rfl rfl ?_
  refine w_op (a := .agg (Enc.cells (b.e : Ed))) rfl rfl rfl rfl (by dsimp only [aput, List.set]) ?_
  refine w_met rfl rfl ?_
  refine w_run (.raw (.bool (decide (a.e = b.e)))) rfl rfl rfl (rs_eqEd a.e b.e rfl rfl rfl) (by dsimp only [aput, List.set]) ?_
  refine w_op (a := .raw (.bool (decide (a.e = b.e)))) rfl rfl rfl rfl (by dsimp only [aput, List.set]) ?_
  refine w_op (a := .raw (.bool (decide (a.e = b.e)))) rfl rfl rfl rfl (by dsimp only [aput, List.set]) ?_
  exact end_pureF (fun (r : Bool) => (.raw (.bool r) : AV)) h (a := .raw (.bool (decide (a.e = b.e)))) rfl rfl rfl
 ·
  refine w_op (a := .raw (.bool false)) rfl rfl rfl (op_q (q_bool rfl hc1)) (by dsimp only [aput, List.set]) ?_
  refine w_pass rfl rfl (by decide) (by dsimp only [aput, List.set]) ?_
  refine w_pass rfl rfl (by decide) (by dsimp only [aput, List.set]) ?_
  refine w_pass rfl rfl (by decide) (by dsimp only [aput, List.set]) ?_
  refine w_pass rfl rfl (by decide) (by dsimp only [aput, List.set]) ?_
  refine w_pass rfl rfl (by decide) (by dsimp only [aput, List.set]) ?_
  refine w_op (a := .raw (.bool false)) rfl rfl rfl rfl (by dsimp only [aput, List.set]) ?_
  refine w_op (a := .raw (.bool false)) rfl rfl rfl rfl (by dsimp only [aput, List.set]) ?_
  exact end_pureF (fun (r : Bool) => (.raw (.bool r) : AV)) h (a := .raw (.bool false)) rfl rfl rfl
def F_differ (fuel : Nat) (a : Trc) (b : Trc) : Option (Int × Bool) :=
  (cutE (τ := Int) (loopE (β := Int) (fun s1 => (bif (decide (s1 < (min (List.length a.l : Int) (List.length b.l : Int)))) then (chk (0 ≤ s1 ∧ s1 < (List.length a.l : Int)) (letE (ix a.l s1) (fun x1 => (chk (0 ≤ s1 ∧ s1 < (List.length b.l : Int)) (letE (ix b.l s1) (fun x2 => (bif (decide (x1 = x2)) then (chk (-9223372036854775808 ≤ (s1 + 1) ∧ (s1 + 1) < 9223372036854775808) (some (Sum.inl ((s1 + 1))))) else (some (Sum.inr (Sum.inl (s1))))))))))) else (some (Sum.inr (Sum.inl (s1)))))) fuel (0)) (fun j1 => (cutE (τ := Unit) (bif (j1 == (List.length a.l : Int)) then (bif (j1 == (List.length b.l : Int)) then (bif (decide (a.e = b.e)) then (some (Sum.inr (0, false))) else (some (Sum.inl ()))) else (some (Sum.inl ()))) else (some (Sum.inl ()))) (fun j2 => (some (j1, true))))))
theorem ent26 : Ent Tryd.prog 26 := enters_of Tryd.func26 (by kernel_rfl) rfl
set_option maxRecDepth 100000 in
set_option maxHeartbeats 4000000 in
theorem differ_sh (fuel : Nat) (a : Trc) (b : Trc) (r : (Int × Bool)) (h : F_differ fuel a b = some r) : Pure (ITP Tryd.prog) Tryd.prog 26 [.agg (Enc.cells (a : Trc)), .agg (Enc.cells (b : Trc))] (.tup [.raw (.int .i64 r.1), .raw (.bool r.2)]) := by
 obtain ⟨d, hd⟩ : ∃ d, Tryd.f26.body = some d := ⟨_, rfl⟩
 refine pure_of mix Tryd.func26 hd ent26 ?_
 cases hd
 unfold F_differ at h
 refine w_start (by dsimp only [abeginS, Tryd.f26, List.length_cons, List.length_nil, Nat.zero_add, Nat.reduceAdd, Nat.reduceSub, List.replicate, List.cons_append, List.nil_append]) (by dsimp only [St.empty]) ?_
 refine w_seq (w_region ?_)
 refine w_opm (a := .ptr 0 0) (σ'' := ⟨[(26, (Enc.cells (a : Trc)))], [], [], 0, false⟩) rfl rfl rfl rfl (by dsimp only [aput, List.set]) rfl ?_
 refine w_opm (a := .ptr 1 0) (σ'' := ⟨[(26, (Enc.cells (a : Trc))), (26, (Enc.cells (b : Trc)))], [], [], 0, false⟩) rfl rfl rfl rfl (by dsimp only [aput, List.set]) rfl ?_
 refine w_op (a := .raw (.int .i64 0)) rfl rfl rfl rfl (by dsimp only [aput, List.set]) ?_
 refine w_op (a := .raw (.bool false)) rfl rfl rfl rfl (by dsimp only [aput, List.set]) ?_
 refine w_seq (w_region ?_)
 refine w_op (a := .raw (.int .i64 0)) rfl rfl rfl rfl (by dsimp only [aput, List.set]) ?_
 refine w_cutF h [0, 1, 4, 5, 6, 7, 8, 9, 10, 11, 12, 13, 14, 15, 16, 17, 18, 19, 20, 21, 22, 23, 24, 25, 26, 27, 28, 29, 30, 31, 32, 33, 34, 35, 36, 37, 38, 39, 40, 41, 42, 43, 44, 45, 46, 47, 48, 49, 50] (fun j1 => [(6, .raw (.int .i64 j1))]) (fun j1 => ⟨[(26, (Enc.cells (a : Trc))), (26, (Enc.cells (b : Trc)))], [], [], 0, false⟩) ?_ ?_
 ·
  intro or1 h hr1
  refine w_block ?_
  refine w_loopF h [0, 1, 4, 5, 6, 7, 8, 9, 10, 11, 12, 13, 14, 15, 16, 17, 18, 19, 20, 21, 22, 23, 24, 25, 26, 27, 28, 29, 30, 31, 32, 33, 34, 35, 36, 37, 38, 39, 40, 41, 42, 43, 44, 45, 46, 47, 48, 49, 50] (fun s1 => [(6, .raw (.int .i64 s1))]) (fun s1 => ⟨[(26, (Enc.cells (a : Trc))), (26, (Enc.cells (b : Trc)))], [], [], 0, false⟩) ?_ ?_
  ·
   exact wm_of [false, false, true, true, false, false, true, false, false, false, false, false, false, false, false, false, false, false, false, false, false, false, false, false, false, false, false, false, false, false, false, false, false, false, false, false, false, false, false, false, false, false, false, false, false, false, false, false, false, false, false] (by kernel_rfl) (by kernel_rfl)
  ·
   intro s1 p1 h
   refine w_start (by dsimp only [setAll, topAll, List.foldl, List.set]) rfl ?_
   refine w_seq ?_
   refine w_seq ?_
   refine w_draw (id := 2) 20 (by kernel_rfl) (by kernel_rfl) ?_
   refine h_op (a := .raw (.int .i64 s1)) rfl rfl rfl rfl (by dsimp only [aput, List.set]) ?_
   refine h_op (a := .ptr 0 0) rfl rfl rfl rfl (by dsimp only [aput, List.set]) ?_
   refine h_op (a := .list (List.length (a.l : List En)) (Enc.cellsL (a.l : List En)) .none) rfl rfl rfl rfl (by dsimp only [aput, List.set]) ?_
   refine h_op (a := .raw (.int .i64 (List.length a.l : Int))) rfl rfl rfl rfl (by dsimp only [aput, List.set]) ?_
   refine h_op (a := .ptr 1 0) rfl rfl rfl rfl (by dsimp only [aput, List.set]) ?_
   refine h_op (a := .list (List.length (b.l : List En)) (Enc.cellsL (b.l : List En)) .none) rfl rfl rfl rfl (by dsimp only [aput, List.set]) ?_
   refine h_op (a := .raw (.int .i64 (List.length b.l : Int))) rfl rfl rfl rfl (by dsimp only [aput, List.set]) ?_
   refine h_op (a := .raw (.int .i64 (min (List.length a.l : Int) (List.length b.l : Int)))) rfl rfl rfl (q_min rfl rfl rfl rfl rfl) (by dsimp only [aput, List.set]) ?_
   refine h_op (a := .raw (.bool (decide (s1 < (min (List.length a.l : Int) (List.length b.l : Int)))))) rfl rfl rfl rfl (by dsimp only [aput, List.set]) ?_
   refine bif_e h (fun hc1 h => ?_) (fun hc1 h => ?_)
   ·
    refine h_op (a := .raw (.bool true)) rfl rfl rfl (q_bool rfl hc1) (by dsimp only [aput, List.set]) ?_
    refine h_met rfl rfl ?_
    refine h_op (a := .ptr 0 0) rfl rfl rfl rfl (by dsimp only [aput, List.set]) ?_
    refine h_met rfl rfl ?_
    refine h_op (a := .list (List.length (a.l : List En)) (Enc.cellsL (a.l : List En)) .none) rfl rfl rfl rfl (by dsimp only [aput, List.set]) ?_
    refine h_met rfl rfl ?_
    refine h_op (a := .raw (.int .i64 s1)) rfl rfl rfl rfl (by dsimp only [aput, List.set]) ?_
    refine h_met rfl rfl ?_
    obtain ⟨g1, h⟩ := chk_e h
    obtain ⟨x1, hx1, h⟩ := letE_e h
    refine h_op (a := .iptr (Enc.cells x1 ++ Enc.cellsL (List.drop (Int.toNat s1 + 1) a.l))) rfl rfl rfl (by rw [← hx1]; exact (q_idx (α := En) (l := a.l) g1 rfl rfl rfl rfl rfl)) (by dsimp only [aput, List.set]) ?_
    refine h_met rfl rfl ?_
    refine h_op (a := .agg (Enc.cells (x1 : En))) rfl rfl rfl rfl (by dsimp only [aput, List.set]) ?_
    refine h_met rfl rfl ?_
    refine h_op (a := .ptr 1 0) rfl rfl rfl rfl (by dsimp only [aput, List.set]) ?_
    refine h_met rfl rfl ?_
    refine h_op (a := .list (List.length (b.l : List En)) (Enc.cellsL (b.l : List En)) .none) rfl rfl rfl rfl (by dsimp only [aput, List.set]) ?_
    refine h_met rfl rfl ?_
    refine h_op (a := .raw (.int .i64 s1)) rfl rfl rfl rfl (by dsimp only [aput, List.set]) ?_
    refine h_met rfl rfl ?_
    obtain ⟨g2, h⟩ := chk_e h
    obtain ⟨x2, hx2, h⟩ := letE_e h
    refine h_op (a := .iptr (Enc.cells x2 ++ Enc.cellsL (List.drop (Int.toNat s1 + 1) b.l))) rfl rfl rfl (by rw [← hx2]; exact (q_idx (α := En) (l := b.l) g2 rfl rfl rfl rfl rfl)) (by dsimp only [aput, List.set]) ?_
    refine h_met rfl rfl ?_
    refine h_op (a := .agg (Enc.cells (x2 : En))) rfl rfl rfl rfl (by dsimp only [aput, List.set]) ?_
    refine h_end ?_
    refine w_met rfl rfl ?_
    refine w_run (.raw (.bool (decide (x1 = x2)))) rfl rfl rfl (rs_eqEn x1 x2 rfl rfl rfl) (by dsimp only [aput, List.set]) ?_
    refine w_op (a := .raw (.bool (decide (x1 = x2)))) rfl rfl rfl rfl (by dsimp only [aput, List.set]) ?_
    refine bif_e h (fun hc2 h => ?_) (fun hc2 h => ?_)
    ·
     refine w_condT hc2 rfl ?_
     refine w_block ?_
     refine w_region (k0 := 0) (id := 3) ?_
     refine w_op (a := .raw (.int .i64 s1)) rfl rfl rfl rfl (by dsimp only [aput, List.set]) ?_
     obtain ⟨g3, h⟩ := chk_e h
     refine w_op (a := .raw (.int .i64 (s1 + 1))) rfl rfl rfl (op_q (q_add rfl rfl rfl rfl g3.1 g3.2)) (by dsimp only [aput, List.set]) ?_
     refine w_op (a := .raw (.int .i64 (s1 + 1))) rfl rfl rfl rfl (by dsimp only [aput, List.set]) ?_
     refine loop_next (p := p1) ((s1 + 1)) h ?_
     exact wm_of [false, false, true, true, false, false, true, false, false, false, false, false, false, false, false, false, false, false, false, false, false, false, false, false, false, false, false, false, false, false, false, false, false, false, false, false, false, false, false, false, false, false, false, false, false, false, false, false, false, false, false] (by kernel_rfl) (by kernel_rfl)
    ·
     refine w_condF hc2 rfl ?_
     refine loop_exit h (fun h => ?_)
     refine cut_done (o := or1) (s1) h ?_
     exact wm_of [false, false, true, true, false, false, true, false, false, false, false, false, false, false, false, false, false, false, false, false, false, false, false, false, false, false, false, false, false, false, false, false, false, false, false, false, false, false, false, false, false, false, false, false, false, false, false, false, false, false, false] (by kernel_rfl) (by kernel_rfl)
   ·
    refine h_op (a := .raw (.bool false)) rfl rfl rfl (q_bool rfl hc1) (by dsimp only [aput, List.set]) ?_
    refine h_pass rfl rfl rfl (by decide) (by dsimp only [aput, List.set]) ?_
    refine h_pass rfl rfl rfl (by decide) (by dsimp only [aput, List.set]) ?_
    refine h_pass rfl rfl rfl (by decide) (by dsimp only [aput, List.set]) ?_
    refine h_pass rfl rfl rfl (by decide) (by dsimp only [aput, List.set]) ?_
    refine h_pass rfl rfl rfl (by decide) (by dsimp only [aput, List.set]) ?_
    refine h_pass rfl rfl rfl (by decide) (by dsimp only [aput, List.set]) ?_
    refine h_pass rfl rfl rfl (by decide) (by dsimp only [aput, List.set]) ?_
    refine h_pass rfl rfl rfl (by decide) (by dsimp only [aput, List.set]) ?_
    refine h_pass rfl rfl rfl (by decide) (by dsimp only [aput, List.set]) ?_
    refine h_pass rfl rfl rfl (by decide) (by dsimp only [aput, List.set]) ?_
    refine h_end ?_
    refine w_pass rfl rfl (by decide) (by dsimp only [aput, List.set]) ?_
    refine w_op (a := .raw (.bool false)) rfl rfl rfl rfl (by dsimp only [aput, List.set]) ?_
    refine w_false rfl ?_
    refine loop_exit h (fun h => ?_)
    refine cut_done (o := or1) (s1) h ?_
    exact wm_of [false, false, true, true, false, false, true, false, false, false, false, false, false, false, false, false, false, false, false, false, false, false, false, false, false, false, false, false, false, false, false, false, false, false, false, false, false, false, false, false, false, false, false, false, false, false, false, false, false, false, false] (by kernel_rfl) (by kernel_rfl)
 ·
  intro j1 h
  refine w_start (by dsimp only [setAll, topAll, List.foldl, List.set]) rfl ?_
  refine w_cutF h [2, 3, 4, 5, 31, 32, 33, 34, 35, 36, 37, 38, 39, 40, 41, 42, 43, 44, 45, 46, 47, 48, 49] (fun j2 => []) (fun j2 => ⟨[(26, (Enc.cells (a : Trc))), (26, (Enc.cells (b : Trc)))], [], [], 0, false⟩) ?_ ?_
  ·
   intro or2 h hr2
   refine w_seq (w_region ?_)
   refine w_op (a := .raw (.int .i64 j1)) rfl rfl rfl rfl (by dsimp only [aput, List.set]) ?_
   refine w_op (a := .ptr 0 0) rfl rfl rfl rfl (by dsimp only [aput, List.set]) ?_
   refine w_op (a := .list (List.length (a.l : List En)) (Enc.cellsL (a.l : List En)) .none) rfl rfl rfl rfl (by dsimp only [aput, List.set]) ?_
   refine w_op (a := .raw (.int .i64 (List.length a.l : Int))) rfl rfl rfl rfl (by dsimp only [aput, List.set]) ?_
   refine w_op (a := .raw (.bool (j1 == (List.length a.l : Int)))) rfl rfl rfl rfl (by dsimp only [aput, List.set]) ?_
   refine bif_e h (fun hc3 h => ?_) (fun hc3 h => ?_)
   ·
    refine w_op (a := .raw (.bool true)) rfl rfl rfl (op_q (q_bool rfl hc3)) (by dsimp only [aput, List.set]) ?_
    refine w_met rfl rfl ?_
    refine w_op (a := .raw (.int .i64 j1)) rfl rfl rfl rfl (by dsimp only [aput, List.set]) ?_
    refine w_met rfl rfl ?_
    refine w_op (a := .ptr 1 0) rfl rfl rfl rfl (by dsimp only [aput, List.set]) ?_
    refine w_met rfl rfl ?_
    refine w_op (a := .list (List.length (b.l : List En)) (Enc.cellsL (b.l : List En)) .none) rfl rfl rfl rfl (by dsimp only [aput, List.set]) ?_
    refine w_met rfl rfl ?_
    refine w_op (a := .raw (.int .i64 (List.length b.l : Int))) rfl rfl rfl rfl (by dsimp only [aput, List.set]) ?_
    refine w_met rfl rfl ?_
    refine w_op (a := .raw (.bool (j1 == (List.length b.l : Int)))) rfl rfl rfl rfl (by dsimp only [aput, List.set]) ?_
    refine w_op (a := .raw (.bool (j1 == (List.length b.l : Int)))) rfl rfl rfl rfl (by dsimp only [aput, List.set]) ?_
    refine bif_e h (fun hc4 h => ?_) (fun hc4 h => ?_)
    ·
     refine w_op (a := .raw (.bool true)) rfl rfl rfl (op_q (q_bool rfl hc4)) (by dsimp only [aput, List.set]) ?_
     refine w_met rfl rfl ?_
     refine w_op (a := .ptr 0 1) rfl rfl rfl rfl (by dsimp only [aput, List.set]) ?_
     refine w_met rfl rfl ?_
     refine w_op (a := .agg (Enc.cells (a.e : Ed))) rfl rfl rfl rfl (by dsimp only [aput, List.set]) ?_
     refine w_met rfl rfl ?_
     refine w_op (a := .ptr 1 1) rfl rfl rfl rfl (by dsimp only [aput, List.set]) ?_
     refine w_met rfl rfl ?_
     refine w_op (a := .agg (Enc.cells (b.e : Ed))) rfl rfl rfl rfl (by dsimp only [aput, List.set]) ?_
     refine w_met rfl rfl ?_
     refine w_run (.raw (.bool (decide (a.e = b.e)))) rfl rfl rfl (rs_eqEd a.e b.e rfl rfl rfl) (by dsimp only [aput, List.set]) ?_
     refine w_op (a := .raw (.bool (decide (a.e = b.e)))) rfl rfl rfl rfl (by dsimp only [aput, List.set]) ?_
     refine bif_e h (fun hc5 h => ?_) (fun hc5 h => ?_)
     ·
      refine w_condT hc5 rfl ?_
      refine w_seq (w_region ?_)
      refine w_op (a := .raw (.int .i64 0)) rfl rfl rfl rfl (by dsimp only [aput, List.set]) ?_
      refine w_op (a := .raw (.bool false)) rfl rfl rfl rfl (by dsimp only [aput, List.set]) ?_
      replace h := cut_inr h hr2
      exact end_pureF (fun (r : (Int × Bool)) => (.tup [.raw (.int .i64 r.1), .raw (.bool r.2)] : AV)) h (a := .tup [.raw (.int .i64 0), .raw (.bool false)]) rfl (show okTrimL _ _ = true from (okTrimL_cons rfl (okTrimL_cons rfl rfl))) (show AV.tup (stripL _) = _ from congrArg AV.tup (stripL_cons rfl (stripL_cons rfl rfl)))
     ·
      refine w_condF hc5 rfl ?_
      refine cut_done (o := or2) () h ?_
      exact wm_of [true, true, false, false, false, false, true, true, true, true, true, true, true, true, true, true, true, true, true, true, true, true, true, true, true, true, true, true, true, true, true, false, false, false, false, false, false, false, false, false, false, false, false, false, false, false, false, false, false, false, true] (by kernel_rfl) (by kernel_rfl)
    ·
     refine w_op (a := .raw (.bool false)) rfl rfl rfl (op_q (q_bool rfl hc4)) (by dsimp only [aput, List.set]) ?_
     refine w_pass rfl rfl (by decide) (by dsimp only [aput, List.set]) ?_
     refine w_pass rfl rfl (by decide) (by dsimp only [aput, List.set]) ?_
     refine w_pass rfl rfl (by decide) (by dsimp only [aput, List.set]) ?_
     refine w_pass rfl rfl (by decide) (by dsimp only [aput, List.set]) ?_
     refine w_pass rfl rfl (by decide) (by dsimp only [aput, List.set]) ?_
     refine w_op (a := .raw (.bool false)) rfl rfl rfl rfl (by dsimp only [aput, List.set]) ?_
     refine w_false rfl ?_
     refine cut_done (o := or2) () h ?_
     exact wm_of [true, true, false, false, false, false, true, true, true, true, true, true, true, true, true, true, true, true, true, true, true, true, true, true, true, true, true, true, true, true, true, false, false, false, false, false, false, false, false, false, false, false, false, false, false, false, false, false, false, false, true] (by kernel_rfl) (by kernel_rfl)
   ·
    refine w_op (a := .raw (.bool false)) rfl rfl rfl (op_q (q_bool rfl hc3)) (by dsimp only [aput, List.set]) ?_
    refine w_pass rfl rfl (by decide) (by dsimp only [aput, List.set]) ?_
    refine w_pass rfl rfl (by decide) (by dsimp only [aput, List.set]) ?_
    refine w_pass rfl rfl (by decide) (by dsimp only [aput, List.set]) ?_
    refine w_pass rfl rfl (by decide) (by dsimp only [aput, List.set]) ?_
    refine w_pass rfl rfl (by decide) (by dsimp only [aput, List.set]) ?_
    refine w_op (a := .raw (.bool false)) rfl rfl rfl rfl (by dsimp only [aput, List.set]) ?_
    refine w_op (a := .raw (.bool false)) rfl rfl rfl rfl (by dsimp only [aput, List.set]) ?_
    refine w_pass rfl rfl (by decide) (by dsimp only [aput, List.set]) ?_
    refine w_pass rfl rfl (by decide) (by dsimp only [aput, List.set]) ?_
    refine w_pass rfl rfl (by decide) (by dsimp only [aput, List.set]) ?_
    refine w_pass rfl rfl (by decide) (by dsimp only [aput, List.set]) ?_
    refine w_pass rfl rfl (by decide) (by dsimp only [aput, List.set]) ?_
    refine w_op (a := .raw (.bool false)) rfl rfl rfl rfl (by dsimp only [aput, List.set]) ?_
    refine w_false rfl ?_
    refine cut_done (o := or2) () h ?_
    exact wm_of [true, true, false, false, false, false, true, true, true, true, true, true, true, true, true, true, true, true, true, true, true, true, true, true, true, true, true, true, true, true, true, false, false, false, false, false, false, false, false, false, false, false, false, false, false, false, false, false, false, false, true] (by kernel_rfl) (by kernel_rfl)
  ·
   intro j2 h
   refine w_start (by dsimp only [setAll, topAll, List.foldl, List.set]) rfl ?_
   refine w_seq (w_region ?_)
   refine w_op (a := .raw (.int .i64 j1)) rfl rfl rfl rfl (by dsimp only [aput, List.set]) ?_
   refine w_op (a := .raw (.int .i64 j1)) rfl rfl rfl rfl (by dsimp only [aput, List.set]) ?_
   refine w_op (a := .raw (.bool true)) rfl rfl rfl rfl (by dsimp only [aput, List.set]) ?_
   exact end_pureF (fun (r : (Int × Bool)) => (.tup [.raw (.int .i64 r.1), .raw (.bool r.2)] : AV)) h (a := .tup [.raw (.int .i64 j1), .raw (.bool true)]) rfl (show okTrimL _ _ = true from (okTrimL_cons rfl (okTrimL_cons rfl rfl))) (show AV.tup (stripL _) = _ from congrArg AV.tup (stripL_cons rfl (stripL_cons rfl rfl)))
def F_goes (fuel : Nat) (a : Trc) (b : Trc) : Option Bool :=
  (bindE (F_differ fuel a b) (fun x1 => (bif (!x1.2) then (some true) else (bif (decide (a.e = (Ed.mk 1 0))) then (some (x1.1 == (List.length a.l : Int))) else (some false)))))
theorem ent18 : Ent Tryd.prog 18 := enters_of Tryd.func18 (by kernel_rfl) rfl
set_option maxRecDepth 100000 in
set_option maxHeartbeats 4000000 in
theorem goes_sh (fuel : Nat) (a : Trc) (b : Trc) (r : Bool) (h : F_goes fuel a b = some r) : Pure (ITP Tryd.prog) Tryd.prog 18 [.agg (Enc.cells (a : Trc)), .agg (Enc.cells (b : Trc))] (.raw (.bool r)) := by
 obtain ⟨d, hd⟩ : ∃ d, Tryd.f18.body = some d := ⟨_, rfl⟩
 refine pure_of mix Tryd.func18 hd ent18 ?_
 cases hd
 unfold F_goes at h
 refine w_start (by dsimp only [abeginS, Tryd.f18, List.length_cons, List.length_nil, Nat.zero_add, Nat.reduceAdd, Nat.reduceSub, List.replicate, List.cons_append, List.nil_append]) (by dsimp only [St.empty]) ?_
 refine w_seq (w_region ?_)
 refine w_opm (a := .ptr 0 0) (σ'' := ⟨[(26, (Enc.cells (a : Trc)))], [], [], 0, false⟩) rfl rfl rfl rfl (by dsimp only [aput, List.set]) rfl ?_
 refine w_opm (a := .ptr 1 0) (σ'' := ⟨[(26, (Enc.cells (a : Trc))), (26, (Enc.cells (b : Trc)))], [], [], 0, false⟩) rfl rfl rfl rfl (by dsimp only [aput, List.set]) rfl ?_
 refine w_op (a := .raw (.bool false)) rfl rfl rfl rfl (by dsimp only [aput, List.set]) ?_
 refine w_seq (w_region ?_)
 refine w_op (a := .agg (Enc.cells (a : Trc))) rfl rfl rfl rfl (by dsimp only [aput, List.set]) ?_
 refine w_op (a := .agg (Enc.cells (b : Trc))) rfl rfl rfl rfl (by dsimp only [aput, List.set]) ?_
 obtain ⟨x1, hx1, h⟩ := bindE_e h
 refine w_callc (args' := [.agg (Enc.cells (a : Trc)), .agg (Enc.cells (b : Trc))]) (r := .tup [.raw (.int .i64 x1.1), .raw (.bool x1.2)]) (differ_sh fuel a b x1 hx1) rfl rfl (stripL_cons (strip_c (clo_agg (Enc.clo _))) (stripL_cons (strip_c (clo_agg (Enc.clo _))) rfl)) (okTrimL_cons (okTrim_clo _ _ (clo_agg (Enc.clo _))) (okTrimL_cons (okTrim_clo _ _ (clo_agg (Enc.clo _))) rfl)) (by dsimp only [aput, List.set]) ?_
 refine w_op (a := .tup [.raw (.int .i64 x1.1), .raw (.bool x1.2)]) rfl rfl rfl rfl (by dsimp only [aput, List.set]) ?_
 refine w_op (a := .raw (.int .i64 x1.1)) rfl rfl rfl rfl (by dsimp only [aput, List.set]) ?_
 refine w_op (a := .raw (.bool x1.2)) rfl rfl rfl rfl (by dsimp only [aput, List.set]) ?_
 refine w_op (a := .raw (.int .i64 x1.1)) rfl rfl rfl rfl (by dsimp only [aput, List.set]) ?_
 refine w_op (a := .raw (.bool x1.2)) rfl rfl rfl rfl (by dsimp only [aput, List.set]) ?_
 refine w_seq (w_region ?_)
 refine w_op (a := .raw (.bool x1.2)) rfl rfl rfl rfl (by dsimp only [aput, List.set]) ?_
 refine w_op (a := .raw (.bool (!x1.2))) rfl rfl rfl rfl (by dsimp only [aput, List.set]) ?_
 refine bif_e h (fun hc1 h => ?_) (fun hc1 h => ?_)
 ·
  refine w_op (a := .raw (.bool true)) rfl rfl rfl (op_q (q_bool rfl hc1)) (by dsimp only [aput, List.set]) ?_
  refine w_pass rfl rfl (by decide) (by dsimp only [aput, List.set]) ?_
  refine w_pass rfl rfl (by decide) (by dsimp only [aput, List.set]) ?_
  refine w_pass rfl rfl (by decide) (by dsimp only [aput, List.set]) ?_
  refine w_pass rfl rfl (by decide) (by dsimp only [aput, List.set]) ?_
  refine w_pass rfl rfl (by decide) (by dsimp only [aput, List.set]) ?_
  refine w_pass rfl rfl (by decide) (by dsimp only [aput, List.set]) ?_
  refine w_pass rfl rfl (by decide) (by dsimp only [aput, List.set]) ?_
  refine w_pass rfl rfl (by decide) (by dsimp only [aput, List.set]) ?_
  refine w_pass rfl rfl (by decide) (by dsimp only [aput, List.set]) ?_
  refine w_pass rfl rfl (by decide) (by dsimp only [aput, List.set]) ?_
  refine w_pass rfl rfl (by decide) (by dsimp only [aput, List.set]) ?_
  refine w_op (a := .raw (.bool true)) rfl rfl rfl rfl (by dsimp only [aput, List.set]) ?_
  refine w_op (a := .raw (.bool true)) rfl rfl rfl rfl (by dsimp only [aput, List.set]) ?_
  exact end_pureF (fun (r : Bool) => (.raw (.bool r) : AV)) h (a := .raw (.bool true)) rfl rfl rfl
 ·
  refine w_op (a := .raw (.bool false)) rfl rfl rfl (op_q (q_bool rfl hc1)) (by dsimp only [aput, List.set]) ?_
  refine w_met rfl rfl ?_
  refine w_op (a := .ptr 0 1) rfl rfl rfl rfl (by dsimp only [aput, List.set]) ?_
  refine w_met rfl rfl ?_
  refine w_op (a := .agg (Enc.cells (a.e : Ed))) rfl rfl rfl rfl (by dsimp only [aput, List.set]) ?_
  refine w_met rfl rfl ?_
  refine w_op (a := .agg (Enc.cells ((Ed.mk 1 0) : Ed))) rfl rfl rfl rfl (by dsimp only [aput, List.set]) ?_
  refine w_met rfl rfl ?_
  refine w_run (.raw (.bool (decide (a.e = (Ed.mk 1 0))))) rfl rfl rfl (rs_eqEd a.e (Ed.mk 1 0) rfl rfl rfl) (by dsimp only [aput, List.set]) ?_
  refine w_met rfl rfl ?_
  refine bif_e h (fun hc2 h => ?_) (fun hc2 h => ?_)
  ·
   refine w_op (a := .raw (.bool true)) rfl rfl rfl (op_q (q_bool rfl hc2)) (by dsimp only [aput, List.set]) ?_
   refine w_met rfl rfl ?_
   refine w_op (a := .raw (.int .i64 x1.1)) rfl rfl rfl rfl (by dsimp only [aput, List.set]) ?_
   refine w_met rfl rfl ?_
   refine w_op (a := .ptr 0 0) rfl rfl rfl rfl (by dsimp only [aput, List.set]) ?_
   refine w_met rfl rfl ?_
   refine w_op (a := .list (List.length (a.l : List En)) (Enc.cellsL (a.l : List En)) .none) rfl rfl rfl rfl (by dsimp only [aput, List.set]) ?_
   refine w_met rfl rfl ?_
   refine w_op (a := .raw (.int .i64 (List.length a.l : Int))) rfl rfl rfl rfl (by dsimp only [aput, List.set]) ?_
   refine w_met rfl rfl ?_
   refine w_op (a := .raw (.bool (x1.1 == (List.length a.l : Int)))) rfl rfl rfl rfl (by dsimp only [aput, List.set]) ?_
   refine w_met rfl rfl ?_
   refine w_op (a := .raw (.bool (x1.1 == (List.length a.l : Int)))) rfl rfl rfl rfl (by dsimp only [aput, List.set]) ?_
   refine w_op (a := .raw (.bool (x1.1 == (List.length a.l : Int)))) rfl rfl rfl rfl (by dsimp only [aput, List.set]) ?_
   refine w_op (a := .raw (.bool (x1.1 == (List.length a.l : Int)))) rfl rfl rfl rfl (by dsimp only [aput, List.set]) ?_
   exact end_pureF (fun (r : Bool) => (.raw (.bool r) : AV)) h (a := .raw (.bool (x1.1 == (List.length a.l : Int)))) rfl rfl rfl
  ·
   refine w_op (a := .raw (.bool false)) rfl rfl rfl (op_q (q_bool rfl hc2)) (by dsimp only [aput, List.set]) ?_
   refine w_pass rfl rfl (by decide) (by dsimp only [aput, List.set]) ?_
   refine w_pass rfl rfl (by decide) (by dsimp only [aput, List.set]) ?_
   refine w_pass rfl rfl (by decide) (by dsimp only [aput, List.set]) ?_
   refine w_pass rfl rfl (by decide) (by dsimp only [aput, List.set]) ?_
   refine w_pass rfl rfl (by decide) (by dsimp only [aput, List.set]) ?_
   refine w_met rfl rfl ?_
   refine w_op (a := .raw (.bool false)) rfl rfl rfl rfl (by dsimp only [aput, List.set]) ?_
   refine w_op (a := .raw (.bool false)) rfl rfl rfl rfl (by dsimp only [aput, List.set]) ?_
   refine w_op (a := .raw (.bool false)) rfl rfl rfl rfl (by dsimp only [aput, List.set]) ?_
   exact end_pureF (fun (r : Bool) => (.raw (.bool r) : AV)) h (a := .raw (.bool false)) rfl rfl rfl
end Go.Ab
