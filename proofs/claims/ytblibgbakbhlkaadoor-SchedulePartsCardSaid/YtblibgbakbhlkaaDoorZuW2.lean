/-
  schedule: stretches.
-/
import Derived.Test.YtblibgbakbhlkaaDoorZuW1
set_option linter.unusedSimpArgs false
set_option linter.unusedVariables false
namespace Go.Ab
open Go Go.RowKit Go.Fwd Go.Proofs
noncomputable def F_strb (fuel : Nat) (ev : (List Ev)) (rows : List (List Ev)) : Option Nat :=
  (loopE (β := (List Ev) × Nat) (fun s1 => (bif (decide ((List.length s1.1 : Int) > 0)) then (cutE (τ := Int) (loopE (β := Int) (fun s2 => (bif (decide (s2 < (List.length s1.1 : Int))) then (chk (0 ≤ s2 ∧ s2 < (List.length s1.1 : Int)) (letE (ix s1.1 s2) (fun x1 => (chk (0 ≤ (0 : Int) ∧ (0 : Int) < (List.length s1.1 : Int)) (letE (ix s1.1 (0 : Int)) (fun x2 => (bif (x1.k == x2.k) then (chk (-9223372036854775808 ≤ (s2 + 1) ∧ (s2 + 1) < 9223372036854775808) (some (Sum.inl ((s2 + 1))))) else (some (Sum.inr (Sum.inl (s2))))))))))) else (some (Sum.inr (Sum.inl (s2)))))) fuel (1)) (fun j1 => (chk (0 ≤ 0 ∧ 0 ≤ j1 ∧ j1 ≤ (List.length s1.1 : Int)) (chkP (rows[s1.2]? = some (sub s1.1 0 j1)) (chk (0 ≤ j1 ∧ j1 ≤ (List.length s1.1 : Int) ∧ (List.length s1.1 : Int) ≤ (List.length s1.1 : Int)) (some (Sum.inl ((sub s1.1 j1 (List.length s1.1 : Int)), (s1.2 + 1))))))))) else (some (Sum.inr s1.2)))) fuel (ev, 0))
theorem ent37 : Ent Tryd.prog 37 := enters_of Tryd.func37 (by kernel_rfl) rfl
set_option maxRecDepth 100000 in
set_option maxHeartbeats 4000000 in
theorem strb_sh (fuel : Nat) (ev : (List Ev)) (rows : List (List Ev)) (h : F_strb fuel ev rows = some rows.length) (c : Code) (hc : Tryd.f37.body = some c) (l : Nat) : awp (ITP Tryd.prog) Tryd.prog (some (l, rows.map rowE)) 1 c (aendG Tryd.prog Tryd.f37 rows.length) (abeginS Tryd.f37 [.yld l, .ptr 0 0]) ⟨[(23, [.list (List.length (ev : List Ev)) (Enc.cellsL (ev : List Ev)) .none])], [], [], 0, false⟩ := by
 cases hc
 unfold F_strb at h
 refine w_start (by dsimp only [abeginS, Tryd.f37, List.length_cons, List.length_nil, Nat.zero_add, Nat.reduceAdd, Nat.reduceSub, List.replicate, List.cons_append, List.nil_append]) rfl ?_
 refine w_block ?_
 refine w_loopF h [2, 3, 4, 5, 6, 7, 8, 9, 10, 11, 12, 13, 14, 15, 16, 17, 18, 19, 20, 21, 22, 23, 24, 25, 26, 27, 28, 29, 30, 31, 32, 33] (fun s1 => []) (fun s1 => ⟨[(23, [.list (List.length (s1.1 : List Ev)) (Enc.cellsL (s1.1 : List Ev)) .none])], [], [], s1.2, false⟩) ?_ ?_
 ·
  exact wm_of [true, true, false, false, false, false, false, false, false, false, false, false, false, false, false, false, false, false, false, false, false, false, false, false, false, false, false, false, false, false, false, false, false, false] (by kernel_rfl) (by kernel_rfl)
 ·
  intro s1 p1 h
  refine w_start (by dsimp only [setAll, topAll, List.foldl, List.set]) rfl ?_
  refine w_seq ?_
  refine w_seq (w_region ?_)
  refine w_op (a := .list (List.length (s1.1 : List Ev)) (Enc.cellsL (s1.1 : List Ev)) .none) rfl rfl rfl rfl (by dsimp only [aput, List.set]) ?_
  refine w_op (a := .raw (.int .i64 (List.length s1.1 : Int))) rfl rfl rfl rfl (by dsimp only [aput, List.set]) ?_
  refine w_op (a := .raw (.bool (decide ((List.length s1.1 : Int) > 0)))) rfl rfl rfl rfl (by dsimp only [aput, List.set]) ?_
  refine bif_e h (fun hc1 h => ?_) (fun hc1 h => ?_)
  ·
   refine w_condT hc1 rfl ?_
   refine w_block ?_
   refine w_seq (w_region ?_)
   refine w_op (a := .raw (.int .i64 1)) rfl rfl rfl rfl (by dsimp only [aput, List.set]) ?_
   refine w_cutF h [3, 4, 5, 6, 7, 8, 9, 10, 11, 12, 13, 14, 15, 16, 17, 18, 19, 20, 21, 22, 23, 24] (fun j1 => [(3, .raw (.int .i64 j1))]) (fun j1 => ⟨[(23, [.list (List.length (s1.1 : List Ev)) (Enc.cellsL (s1.1 : List Ev)) .none])], [], [], s1.2, false⟩) ?_ ?_
   ·
    intro or1 h hr1
    refine w_block ?_
    refine w_loopF h [3, 4, 5, 6, 7, 8, 9, 10, 11, 12, 13, 14, 15, 16, 17, 18, 19, 20, 21, 22, 23, 24] (fun s2 => [(3, .raw (.int .i64 s2))]) (fun s2 => ⟨[(23, [.list (List.length (s1.1 : List Ev)) (Enc.cellsL (s1.1 : List Ev)) .none])], [], [], s1.2, false⟩) ?_ ?_
    ·
     exact wm_of [true, true, true, true, false, false, false, false, false, false, false, false, false, false, false, false, false, false, false, false, false, false, false, false, false, true, true, true, true, true, true, true, true, true] (by kernel_rfl) (by kernel_rfl)
    ·
     intro s2 p2 h
     refine w_start (by dsimp only [setAll, topAll, List.foldl, List.set]) rfl ?_
     refine w_seq ?_
     refine w_seq ?_
     refine w_draw (k0 := 0) (id := 2) 14 (by kernel_rfl) (by kernel_rfl) ?_
     refine h_mv ?_
     refine h_op (a := .list (List.length (s1.1 : List Ev)) (Enc.cellsL (s1.1 : List Ev)) .none) rfl rfl rfl rfl (by dsimp only [aput, List.set]) ?_
     refine h_op (a := .raw (.int .i64 (List.length s1.1 : Int))) rfl rfl rfl rfl (by dsimp only [aput, List.set]) ?_
     refine h_op (a := .raw (.bool (decide (s2 < (List.length s1.1 : Int))))) rfl rfl rfl rfl (by dsimp only [aput, List.set]) ?_
     refine bif_e h (fun hc2 h => ?_) (fun hc2 h => ?_)
     ·
      refine h_op (a := .raw (.bool true)) rfl rfl rfl (q_bool rfl hc2) (by dsimp only [aput, List.set]) ?_
      refine h_met rfl rfl ?_
      refine h_op (a := .list (List.length (s1.1 : List Ev)) (Enc.cellsL (s1.1 : List Ev)) .none) rfl rfl rfl rfl (by dsimp only [aput, List.set]) ?_
      refine h_met rfl rfl ?_
      refine h_mv ?_
      refine h_met rfl rfl ?_
      obtain ⟨g1, h⟩ := chk_e h
      obtain ⟨x1, hx1, h⟩ := letE_e h
      refine h_op (a := .iptr (Enc.cells x1 ++ Enc.cellsL (List.drop (Int.toNat s2 + 1) s1.1))) rfl rfl rfl (by rw [← hx1]; exact (q_idx (α := Ev) (l := s1.1) g1 rfl rfl rfl rfl rfl)) (by dsimp only [aput, List.set]) ?_
      refine h_met rfl rfl ?_
      refine h_op (a := .iptr (List.drop 0 (Enc.cells x1 ++ Enc.cellsL (List.drop (Int.toNat s2 + 1) s1.1)))) rfl rfl rfl rfl (by dsimp only [aput, List.set]) ?_
      refine h_met rfl rfl ?_
      refine h_op (a := .raw (.int .u8 x1.k)) rfl rfl rfl rfl (by dsimp only [aput, List.set]) ?_
      refine h_met rfl rfl ?_
      refine h_op (a := .list (List.length (s1.1 : List Ev)) (Enc.cellsL (s1.1 : List Ev)) .none) rfl rfl rfl rfl (by dsimp only [aput, List.set]) ?_
      refine h_met rfl rfl ?_
      obtain ⟨g2, h⟩ := chk_e h
      obtain ⟨x2, hx2, h⟩ := letE_e h
      refine h_op (a := .iptr (Enc.cells x2 ++ Enc.cellsL (List.drop (Int.toNat (0 : Int) + 1) s1.1))) rfl rfl rfl (by rw [← hx2]; exact (q_idx (α := Ev) (l := s1.1) g2 rfl rfl rfl rfl rfl)) (by dsimp only [aput, List.set]) ?_
      refine h_met rfl rfl ?_
      refine h_op (a := .iptr (List.drop 0 (Enc.cells x2 ++ Enc.cellsL (List.drop (Int.toNat (0 : Int) + 1) s1.1)))) rfl rfl rfl rfl (by dsimp only [aput, List.set]) ?_
      refine h_met rfl rfl ?_
      refine h_op (a := .raw (.int .u8 x2.k)) rfl rfl rfl rfl (by dsimp only [aput, List.set]) ?_
      refine h_end ?_
      refine w_met rfl rfl ?_
      refine w_op (a := .raw (.bool (x1.k == x2.k))) rfl rfl rfl rfl (by dsimp only [aput, List.set]) ?_
      refine w_op (a := .raw (.bool (x1.k == x2.k))) rfl rfl rfl rfl (by dsimp only [aput, List.set]) ?_
      refine bif_e h (fun hc3 h => ?_) (fun hc3 h => ?_)
      ·
       refine w_condT hc3 rfl ?_
       refine w_block ?_
       refine w_region (k0 := 0) (id := 3) ?_
       refine w_mv ?_
       obtain ⟨g3, h⟩ := chk_e h
       refine w_op (a := .raw (.int .i64 (s2 + 1))) rfl rfl rfl (op_q (q_add rfl rfl rfl rfl g3.1 g3.2)) (by dsimp only [aput, List.set]) ?_
       refine w_mv ?_
       refine loop_next (p := p2) ((s2 + 1)) h ?_
       exact wm_of [true, true, true, true, false, false, false, false, false, false, false, false, false, false, false, false, false, false, false, false, false, false, false, false, false, true, true, true, true, true, true, true, true, true] (by kernel_rfl) (by kernel_rfl)
      ·
       refine w_condF hc3 rfl ?_
       refine loop_exit h (fun h => ?_)
       refine cut_done (o := or1) (s2) h ?_
       exact wm_of [true, true, true, true, false, false, false, false, false, false, false, false, false, false, false, false, false, false, false, false, false, false, false, false, false, true, true, true, true, true, true, true, true, true] (by kernel_rfl) (by kernel_rfl)
     ·
      refine h_op (a := .raw (.bool false)) rfl rfl rfl (q_bool rfl hc2) (by dsimp only [aput, List.set]) ?_
      refine h_pass rfl rfl rfl (by decide) (by dsimp only [aput, List.set]) ?_
      refine h_pass rfl rfl rfl (by decide) (by dsimp only [aput, List.set]) ?_
      refine h_pass rfl rfl rfl (by decide) (by dsimp only [aput, List.set]) ?_
      refine h_pass rfl rfl rfl (by decide) (by dsimp only [aput, List.set]) ?_
      refine h_pass rfl rfl rfl (by decide) (by dsimp only [aput, List.set]) ?_
      refine h_pass rfl rfl rfl (by decide) (by dsimp only [aput, List.set]) ?_
      refine h_pass rfl rfl rfl (by decide) (by dsimp only [aput, List.set]) ?_
      refine h_pass rfl rfl rfl (by decide) (by dsimp only [aput, List.set]) ?_
      refine h_pass rfl rfl rfl (by decide) (by dsimp only [aput, List.set]) ?_
      refine h_end ?_
      refine w_pass rfl rfl (by decide) (by dsimp only [aput, List.set]) ?_
      refine w_op (a := .raw (.bool false)) rfl rfl rfl rfl (by dsimp only [aput, List.set]) ?_
      refine w_false rfl ?_
      refine loop_exit h (fun h => ?_)
      refine cut_done (o := or1) (s2) h ?_
      exact wm_of [true, true, true, true, false, false, false, false, false, false, false, false, false, false, false, false, false, false, false, false, false, false, false, false, false, true, true, true, true, true, true, true, true, true] (by kernel_rfl) (by kernel_rfl)
   ·
    intro j1 h
    refine w_start (by dsimp only [setAll, topAll, List.foldl, List.set]) rfl ?_
    refine w_seq ?_
    refine w_seq (w_region ?_)
    refine w_mv ?_
    refine w_op (a := .list (List.length (s1.1 : List Ev)) (Enc.cellsL (s1.1 : List Ev)) .none) rfl rfl rfl rfl (by dsimp only [aput, List.set]) ?_
    refine w_mv ?_
    obtain ⟨g4, h⟩ := chk_e h
    refine w_qs (.list (List.length ((sub s1.1 0 j1) : List Ev)) (Enc.cellsL ((sub s1.1 0 j1) : List Ev)) .none) rfl rfl rfl (q_sub_H (α := Ev) (l := s1.1) g4 rfl rfl rfl rfl rfl) (strip_sub _ _ _) (by dsimp only [aput, List.set]) ?_
    obtain ⟨g5, h⟩ := chkP_e h
    refine w_yieldF (row := rowE) (x := (sub s1.1 0 j1)) (σ1 := ⟨[(23, [.list (List.length (s1.1 : List Ev)) (Enc.cellsL (s1.1 : List Ev)) .none])], [], [], (s1.2 + 1), false⟩) (σ2 := ⟨[(23, [.list (List.length (s1.1 : List Ev)) (Enc.cellsL (s1.1 : List Ev)) .none])], [], [], s1.2, true⟩) g5 (stripL_cons (strip_l (Enc.cloL _)) rfl) (okTrimL_cons (okTrim_l (Enc.cloL _)) rfl) (noIter_e rfl) rfl rfl rfl rfl rfl (by dsimp only [aput, List.set]) (by dsimp only [aput, List.set]) rfl rfl ?_ ?_
    ·
     refine w_op (a := .raw (.bool false)) rfl rfl rfl rfl (by dsimp only [aput, List.set]) ?_
     refine w_false rfl ?_
     refine w_region (k0 := 0) (id := 5) ?_
     refine w_op (a := .list (List.length (s1.1 : List Ev)) (Enc.cellsL (s1.1 : List Ev)) .none) rfl rfl rfl rfl (by dsimp only [aput, List.set]) ?_
     refine w_mv ?_
     obtain ⟨g6, h⟩ := chk_e h
     refine w_qs (.list (List.length ((sub s1.1 j1 (List.length s1.1 : Int)) : List Ev)) (Enc.cellsL ((sub s1.1 j1 (List.length s1.1 : Int)) : List Ev)) .none) rfl rfl rfl (q_subL_ (α := Ev) (l := s1.1) g6 rfl rfl rfl rfl rfl) (strip_sub _ _ _) (by dsimp only [aput, List.set]) ?_
     refine w_opm (σ'' := ⟨[(23, [.list (List.length ((sub s1.1 j1 (List.length s1.1 : Int)) : List Ev)) (Enc.cellsL ((sub s1.1 j1 (List.length s1.1 : Int)) : List Ev)) .none])], [], [], (s1.2 + 1), false⟩) rfl rfl rfl (op_storeW (n := 1) rfl rfl rfl rfl rfl rfl rfl rfl (by decide)) (by dsimp only [aput, List.set]) rfl ?_
     refine loop_next (p := p1) ((sub s1.1 j1 (List.length s1.1 : Int)), (s1.2 + 1)) h ?_
     exact wm_of [true, true, false, false, false, false, false, false, false, false, false, false, false, false, false, false, false, false, false, false, false, false, false, false, false, false, false, false, false, false, false, false, false, false] (by kernel_rfl) (by kernel_rfl)
    ·
     refine w_op (a := .raw (.bool true)) rfl rfl rfl rfl (by dsimp only [aput, List.set]) ?_
     refine w_true rfl ?_
     refine .inr ?_
     exact ⟨⟨.tup [], rfl⟩, .inl rfl⟩
  ·
   refine w_condF hc1 rfl ?_
   refine loop_exit h (fun h => ?_)
   exact ⟨⟨.tup [], rfl⟩, .inr (Option.some.inj h)⟩
end Go.Ab

