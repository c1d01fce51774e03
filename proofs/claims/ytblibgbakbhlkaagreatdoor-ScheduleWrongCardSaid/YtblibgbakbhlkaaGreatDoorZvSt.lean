/-
  schedule: stretches: plain, and its contract.
-/
import Derived.Test.YtblibgbakbhlkaaGreatDoorZvW1
import Derived.Test.YtblibgbakbhlkaaGreatDoorZdQp
import Derived.Test.YtblibgbakbhlkaaGreatDoorZvPz
set_option linter.unusedSimpArgs false
set_option linter.unusedVariables false
namespace Go.Ab
open Go Go.RowKit Go.Fwd Go.Proofs
noncomputable def F_strb (fuel : Nat) (ev : (List Ev)) (rows : List (List Ev)) : Option Nat :=
  (loopE (β := (List Ev) × Nat) (fun s1 => (bif (decide ((List.length s1.1 : Int) > 0)) then (cutE (τ := Int) (loopE (β := Int) (fun s2 => (bif (decide (s2 < (List.length s1.1 : Int))) then (chk (0 ≤ s2 ∧ s2 < (List.length s1.1 : Int)) (letE (ix s1.1 s2) (fun x1 => (chk (0 ≤ (0 : Int) ∧ (0 : Int) < (List.length s1.1 : Int)) (letE (ix s1.1 (0 : Int)) (fun x2 => (bif (x1.k == x2.k) then (chk (-9223372036854775808 ≤ (s2 + 1) ∧ (s2 + 1) < 9223372036854775808) (some (Sum.inl ((s2 + 1))))) else (some (Sum.inr (Sum.inl (s2))))))))))) else (some (Sum.inr (Sum.inl (s2)))))) fuel (1)) (fun j1 => (chk (0 ≤ 0 ∧ 0 ≤ j1 ∧ j1 ≤ (List.length s1.1 : Int)) (chkP (rows[s1.2]? = some (sub s1.1 0 j1)) (chk (0 ≤ j1 ∧ j1 ≤ (List.length s1.1 : Int) ∧ (List.length s1.1 : Int) ≤ (List.length s1.1 : Int)) (some (Sum.inl ((sub s1.1 j1 (List.length s1.1 : Int)), (s1.2 + 1))))))))) else (some (Sum.inr s1.2)))) fuel (ev, 0))
theorem ent75 : Ent Tryz.prog 75 := enters_of Tryz.func75 (by kernel_rfl) rfl
set_option maxRecDepth 100000 in
set_option maxHeartbeats 4000000 in
theorem strb_sh (fuel : Nat) (ev : (List Ev)) (rows : List (List Ev)) (h : F_strb fuel ev rows = some rows.length) (c : Code) (hc : Tryz.f75.body = some c) (l : Nat) : awp (ITP Tryz.prog) Tryz.prog (some (l, rows.map rowE)) 1 c (aendG Tryz.prog Tryz.f75 rows.length) (abeginS Tryz.f75 [.yld l, .ptr 0 0]) ⟨[(22, [.list (List.length (ev : List Ev)) (Enc.cellsL (ev : List Ev)) .none])], [], [], 0, false⟩ := by
 cases hc
 unfold F_strb at h
 refine w_start (by dsimp only [abeginS, Tryz.f75, List.length_cons, List.length_nil, Nat.zero_add, Nat.reduceAdd, Nat.reduceSub, List.replicate, List.cons_append, List.nil_append]) rfl ?_
 refine w_block ?_
 refine w_loopF h [2, 3, 4, 5, 6, 7, 8, 9, 10, 11, 12, 13, 14, 15, 16, 17, 18, 19, 20, 21, 22, 23, 24, 25, 26, 27, 28, 29, 30, 31, 32, 33] (fun s1 => []) (fun s1 => ⟨[(22, [.list (List.length (s1.1 : List Ev)) (Enc.cellsL (s1.1 : List Ev)) .none])], [], [], s1.2, false⟩) ?_ ?_
 exact wm_of (bl 34 3) (by kernel_rfl) (by kernel_rfl)
 intro s1 p1 h
 refine w_start (by dsimp only [setAll, topAll, List.foldl, List.set]) rfl ?_
 refine w_seq ?_
 refine w_seq (w_region ?_)
 refine w_o (a := .list (List.length (s1.1 : List Ev)) (Enc.cellsL (s1.1 : List Ev)) .none) ?_
 refine w_o (a := .i (List.length s1.1 : Int)) ?_
 refine w_o (a := .b (decide ((List.length s1.1 : Int) > 0))) ?_
 refine bif_e h (fun hc1 h => ?_) (fun hc1 h => ?_)
 refine w_condT hc1 rfl ?_
 refine w_block ?_
 refine w_seq (w_region ?_)
 refine w_o (a := .i 1) ?_
 refine w_cutF h [3, 4, 5, 6, 7, 8, 9, 10, 11, 12, 13, 14, 15, 16, 17, 18, 19, 20, 21, 22, 23, 24] (fun j1 => [(3, .i j1)]) (fun j1 => ⟨[(22, [.list (List.length (s1.1 : List Ev)) (Enc.cellsL (s1.1 : List Ev)) .none])], [], [], s1.2, false⟩) ?_ ?_
 intro or1 h hr1
 refine w_block ?_
 refine w_loopF h [3, 4, 5, 6, 7, 8, 9, 10, 11, 12, 13, 14, 15, 16, 17, 18, 19, 20, 21, 22, 23, 24] (fun s2 => [(3, .i s2)]) (fun s2 => ⟨[(22, [.list (List.length (s1.1 : List Ev)) (Enc.cellsL (s1.1 : List Ev)) .none])], [], [], s1.2, false⟩) ?_ ?_
 exact wm_of (bl 34 17146314767) (by kernel_rfl) (by kernel_rfl)
 intro s2 p2 h
 refine w_start (by dsimp only [setAll, topAll, List.foldl, List.set]) rfl ?_
 refine w_seq ?_
 refine w_seq ?_
 refine w_draw (k0 := 0) (id := 2) 14 (by kernel_rfl) (by kernel_rfl) ?_
 refine h_mv ?_
 refine h_o (a := .list (List.length (s1.1 : List Ev)) (Enc.cellsL (s1.1 : List Ev)) .none) ?_
 refine h_o (a := .i (List.length s1.1 : Int)) ?_
 refine h_o (a := .b (decide (s2 < (List.length s1.1 : Int)))) ?_
 refine bif_e h (fun hc2 h => ?_) (fun hc2 h => ?_)
 refine h_o (a := .b true) (h := q_bool rfl hc2) ?_
 refine h_met rfl rfl ?_
 refine h_o (a := .list (List.length (s1.1 : List Ev)) (Enc.cellsL (s1.1 : List Ev)) .none) ?_
 refine h_met rfl rfl ?_
 refine h_mv ?_
 refine h_met rfl rfl ?_
 obtain ⟨g1, h⟩ := chk_e h
 obtain ⟨x1, hx1, h⟩ := letE_e h
 refine h_o (a := .iptr (Enc.cells x1 ++ Enc.cellsL (List.drop (Int.toNat s2 + 1) s1.1))) (h := by rw [← hx1]; exact (q_idx (α := Ev) (l := s1.1) g1 rfl rfl rfl rfl rfl)) ?_
 refine h_met rfl rfl ?_
 refine h_o (a := .iptr (List.drop 0 (Enc.cells x1 ++ Enc.cellsL (List.drop (Int.toNat s2 + 1) s1.1)))) ?_
 refine h_met rfl rfl ?_
 refine h_o (a := .u x1.k) ?_
 refine h_met rfl rfl ?_
 refine h_o (a := .list (List.length (s1.1 : List Ev)) (Enc.cellsL (s1.1 : List Ev)) .none) ?_
 refine h_met rfl rfl ?_
 obtain ⟨g2, h⟩ := chk_e h
 obtain ⟨x2, hx2, h⟩ := letE_e h
 refine h_o (a := .iptr (Enc.cells x2 ++ Enc.cellsL (List.drop (Int.toNat (0 : Int) + 1) s1.1))) (h := by rw [← hx2]; exact (q_idx (α := Ev) (l := s1.1) g2 rfl rfl rfl rfl rfl)) ?_
 refine h_met rfl rfl ?_
 refine h_o (a := .iptr (List.drop 0 (Enc.cells x2 ++ Enc.cellsL (List.drop (Int.toNat (0 : Int) + 1) s1.1)))) ?_
 refine h_met rfl rfl ?_
 refine h_o (a := .u x2.k) ?_
 refine h_end ?_
 refine w_met rfl rfl ?_
 refine w_o (a := .b (x1.k == x2.k)) ?_
 refine w_o (a := .b (x1.k == x2.k)) ?_
 refine bif_e h (fun hc3 h => ?_) (fun hc3 h => ?_)
 refine w_condT hc3 rfl ?_
 refine w_block ?_
 refine w_region (k0 := 0) (id := 3) ?_
 refine w_mv ?_
 obtain ⟨g3, h⟩ := chk_e h
 refine w_o (a := .i (s2 + 1)) (h := op_q (q_add rfl rfl rfl rfl g3.1 g3.2)) ?_
 refine w_mv ?_
 refine loop_next (p := p2) ((s2 + 1)) h ?_
 exact wm_of (bl 34 17146314767) (by kernel_rfl) (by kernel_rfl)
 refine w_condF hc3 rfl ?_
 refine loop_exit h (fun h => ?_)
 refine cut_done (o := or1) (s2) h ?_
 exact wm_of (bl 34 17146314767) (by kernel_rfl) (by kernel_rfl)
 refine h_o (a := .b false) (h := q_bool rfl hc2) ?_
 refine h_po ?_
 refine h_po ?_
 refine h_po ?_
 refine h_po ?_
 refine h_po ?_
 refine h_po ?_
 refine h_po ?_
 refine h_po ?_
 refine h_po ?_
 refine h_end ?_
 refine w_po ?_
 refine w_o (a := .b false) ?_
 refine w_false rfl ?_
 refine loop_exit h (fun h => ?_)
 refine cut_done (o := or1) (s2) h ?_
 exact wm_of (bl 34 17146314767) (by kernel_rfl) (by kernel_rfl)
 intro j1 h
 refine w_start (by dsimp only [setAll, topAll, List.foldl, List.set]) rfl ?_
 refine w_seq ?_
 refine w_seq (w_region ?_)
 refine w_mv ?_
 refine w_o (a := .list (List.length (s1.1 : List Ev)) (Enc.cellsL (s1.1 : List Ev)) .none) ?_
 refine w_mv ?_
 obtain ⟨g4, h⟩ := chk_e h
 refine w_qs (.list (List.length ((sub s1.1 0 j1) : List Ev)) (Enc.cellsL ((sub s1.1 0 j1) : List Ev)) .none) rfl rfl rfl (q_sub_H (α := Ev) (l := s1.1) g4 rfl rfl rfl rfl rfl) (strip_sub _ _ _) (by dsimp only [aput, List.set]) ?_
 obtain ⟨g5, h⟩ := chkP_e h
 refine w_yieldF (row := rowE) (x := (sub s1.1 0 j1)) (σ1 := ⟨[(22, [.list (List.length (s1.1 : List Ev)) (Enc.cellsL (s1.1 : List Ev)) .none])], [], [], (s1.2 + 1), false⟩) (σ2 := ⟨[(22, [.list (List.length (s1.1 : List Ev)) (Enc.cellsL (s1.1 : List Ev)) .none])], [], [], s1.2, true⟩) g5 (stripL_cons (strip_l (Enc.cloL _)) rfl) (okTrimL_cons (okTrim_l (Enc.cloL _)) rfl) (noIter_e rfl) rfl rfl rfl rfl rfl (by dsimp only [aput, List.set]) (by dsimp only [aput, List.set]) rfl rfl ?_ ?_
 refine w_o (a := .b false) ?_
 refine w_false rfl ?_
 refine w_region (k0 := 0) (id := 5) ?_
 refine w_o (a := .list (List.length (s1.1 : List Ev)) (Enc.cellsL (s1.1 : List Ev)) .none) ?_
 refine w_mv ?_
 obtain ⟨g6, h⟩ := chk_e h
 refine w_qs (.list (List.length ((sub s1.1 j1 (List.length s1.1 : Int)) : List Ev)) (Enc.cellsL ((sub s1.1 j1 (List.length s1.1 : Int)) : List Ev)) .none) rfl rfl rfl (q_subL_ (α := Ev) (l := s1.1) g6 rfl rfl rfl rfl rfl) (strip_sub _ _ _) (by dsimp only [aput, List.set]) ?_
 refine w_om (σ'' := ⟨[(22, [.list (List.length ((sub s1.1 j1 (List.length s1.1 : Int)) : List Ev)) (Enc.cellsL ((sub s1.1 j1 (List.length s1.1 : Int)) : List Ev)) .none])], [], [], (s1.2 + 1), false⟩) (h := op_storeW (n := 1) rfl rfl rfl rfl rfl rfl rfl rfl (by decide)) ?_
 refine loop_next (p := p1) ((sub s1.1 j1 (List.length s1.1 : Int)), (s1.2 + 1)) h ?_
 exact wm_of (bl 34 3) (by kernel_rfl) (by kernel_rfl)
 refine w_o (a := .b true) ?_
 refine w_true rfl ?_
 refine .inr ?_
 exact ⟨⟨.tup [], rfl⟩, .inl rfl⟩
 refine w_condF hc1 rfl ?_
 refine loop_exit h (fun h => ?_)
 exact ⟨⟨.tup [], rfl⟩, .inr (Option.some.inj h)⟩
end Go.Ab
set_option linter.unusedSimpArgs false
set_option linter.unusedVariables false
namespace Go.Ab
open Go Go.RowKit Go.Fwd Go.Proofs
def runs : List Ev → List (List Ev)
  | [] => []
  | e :: l => match runs l with
    | (x :: s) :: r => if x.k = e.k then (e :: x :: s) :: r else [e] :: (x :: s) :: r
    | r => [e] :: r
theorem runs_head (e : Ev) : ∀ l : List Ev, ∃ s rest, l = s ++ rest ∧ runs (e :: l) = (e :: s) :: runs rest ∧ (∀ x ∈ s, x.k = e.k) ∧ (∀ x ∈ rest.head?, x.k ≠ e.k)
  | [] => ⟨[], [], rfl, rfl, by simp, by simp⟩
  | x :: l => by
    obtain ⟨s, rest, h1, h2, h3, h4⟩ := runs_head x l
    by_cases hk : x.k = e.k
    · exact ⟨x :: s, rest, by rw [h1]; rfl, by rw [runs, h2]; simp only [hk, if_true], fun y hy => (List.mem_cons.1 hy).elim (fun h => h ▸ hk) (fun h => (h3 y h).trans hk), fun y hy => hk ▸ h4 y hy⟩
    · exact ⟨[], x :: l, rfl, by rw [runs, h2]; simp only [hk, if_false], by simp, fun y hy => by simp at hy; subst hy; exact hk⟩
theorem ix_in {e : Ev} {s rest : List Ev} (h : ∀ x ∈ s, x.k = e.k) {n : Int} (h1 : 1 ≤ n) (h2 : n ≤ s.length) : (ix (e :: (s ++ rest)) n).k = e.k := by
  obtain ⟨k, hk⟩ : ∃ k : Nat, n.toNat = k + 1 := ⟨n.toNat - 1, by omega⟩
  have hl : k < s.length := by omega
  have : ix (e :: (s ++ rest)) n = s[k] := by
    unfold ix; rw [hk, List.getD_cons_succ, List.getD_eq_getElem?_getD, List.getElem?_append_left hl, List.getElem?_eq_getElem hl]; rfl
  rw [this]; exact h _ (List.getElem_mem hl)
theorem ix_out {e : Ev} {s rest : List Ev} (h : ∀ x ∈ rest.head?, x.k ≠ e.k) {n : Int} (h1 : n = s.length + 1) (h2 : 0 < rest.length) : (ix (e :: (s ++ rest)) n).k ≠ e.k := by
  cases rest with
  | nil => simp at h2
  | cons x r =>
    have hk : n.toNat = s.length + 1 := by omega
    have : ix (e :: (s ++ x :: r)) n = x := by
      unfold ix; rw [hk, List.getD_cons_succ, List.getD_eq_getElem?_getD, List.getElem?_append_right (Nat.le_refl _)]; simp
    rw [this]; exact h x rfl
theorem strb_eq (ev : List Ev) (fuel : Nat) (hf : ev.length + 1 < fuel) (hb : (ev.length : Int) < 9223372036854775807) : F_strb fuel ev (runs ev) = some (runs ev).length := by
  refine Ok.eq ?_
  unfold F_strb
  refine ok_loop (fun s => (runs ev).drop s.2 = runs s.1 ∧ s.1.length ≤ ev.length ∧ s.2 + (runs s.1).length = (runs ev).length) (fun s => s.1.length) ?_ fuel (ev, 0) (by show ev.length < _; omega) ⟨by simp, Nat.le_refl _, by simp⟩
  rintro ⟨l, i⟩ ⟨h1, h2, h3⟩
  dsimp only at h1 h2 h3 ⊢
  refine ok_bif (fun hc => ?_) (fun hc => ?_)
  rotate_left
  · have : l = [] := by simp at hc; exact hc
    subst this
    exact ok_some (by simpa [runs] using h3)
  cases l with
  | nil => simp at hc
  | cons e l =>
    obtain ⟨s, rest, e1, e2, e3, e4⟩ := runs_head e l
    have hlen : (e :: l).length = s.length + rest.length + 1 := by rw [e1]; simp
    subst e1
    refine ok_cut (fun j => j = (s.length : Int) + 1) (ok_loop (fun n : Int => 1 ≤ n ∧ n ≤ (s.length : Int) + 1) (fun n => (s.length + 2 : Nat) - n.toNat) ?_ fuel 1 (by
      show s.length + 2 - Int.toNat 1 < fuel
      have h9 : s.length + rest.length + 1 ≤ ev.length := by rw [← hlen]; exact h2
      have : Int.toNat 1 = 1 := rfl
      omega) (by omega)) ?_
    · rintro n ⟨k1, k2⟩
      refine ok_bif (fun hn => ?_) (fun hn => ?_)
      · have hn' : n < ((e :: (s ++ rest)).length : Int) := of_decide_eq_true hn
        refine ok_chk ⟨by omega, hn'⟩ (ok_letE fun x1 hx1 => ok_chk ⟨by omega, by simp; omega⟩ (ok_letE fun x2 hx2 => ok_bif (fun hx => ?_) (fun hx => ?_)))
        · refine ok_chk ⟨by omega, by omega⟩ (ok_some ⟨⟨by omega, ?_⟩, by omega⟩)
          rcases Int.lt_or_eq_of_le k2 with h | h
          · omega
          · exfalso
            have hr : 0 < rest.length := by rw [hlen] at hn'; omega
            have hne := ix_out e4 h hr
            rw [hx1] at hne
            have he : x2 = e := by rw [← hx2]; rfl
            rw [he] at hx
            exact hne (by simpa using hx)
        · refine ok_some ?_
          show n = _
          rcases Int.lt_or_eq_of_le k2 with h | h
          · exfalso
            have hin := ix_in (rest := rest) e3 k1 (by omega : n ≤ s.length)
            rw [hx1] at hin
            have he : x2 = e := by rw [← hx2]; rfl
            rw [he, hin] at hx; simp at hx
          · exact h
      · refine ok_some ?_
        show n = _
        have hn' : ¬ n < ((e :: (s ++ rest)).length : Int) := of_decide_eq_false hn
        rw [hlen] at hn'; omega
    · rintro j rfl
      have s1 : sub (e :: (s ++ rest)) 0 ((s.length : Int) + 1) = e :: s := by
        unfold sub
        rw [show ((s.length : Int) + 1).toNat - (0 : Int).toNat = s.length + 1 by omega]
        simp
      have s2 : sub (e :: (s ++ rest)) ((s.length : Int) + 1) ((e :: (s ++ rest)).length : Int) = rest := by
        unfold sub
        rw [show ((s.length : Int) + 1).toNat = s.length + 1 by omega, List.drop_succ_cons, List.drop_left, List.take_of_length_le (by rw [hlen]; omega)]
      have hrow : (runs ev)[i]? = some (e :: s) := by
        have := congrArg (fun z => z[0]?) h1
        simpa [e2] using this
      refine ok_chk ⟨by omega, by omega, by rw [hlen]; omega⟩ ?_
      rw [s1, s2]
      refine ⟨.inl (rest, i + 1), chkP_i hrow (by rw [chk_pos ⟨by omega, by rw [hlen]; omega, Int.le_refl _⟩]), ⟨?_, ?_, ?_⟩, ?_⟩
      · show (runs ev).drop (i + 1) = runs rest
        rw [← List.drop_drop, h1, e2]; rfl
      · show rest.length ≤ _
        omega
      · show i + 1 + (runs rest).length = _
        rw [e2] at h3; simp at h3; omega
      · show rest.length < (e :: (s ++ rest)).length
        rw [hlen]; omega
theorem strb_it (l : List Ev) (g : (List.length l : Int) < 9223372036854775807) : IterB Tryz.prog 75 22 [.list (List.length l) (Enc.cellsL l) .none] ((runs l).map rowE) := by
  obtain ⟨d, hd⟩ : ∃ d, Tryz.f75.body = some d := ⟨_, rfl⟩
  exact iterb_of mix Tryz.func75 hd fun k => by rw [List.length_map]; exact strb_sh (l.length + 2) l (runs l) (strb_eq l _ (by omega) g) d hd k
theorem ent47 : Ent Tryz.prog 47 := enters_of Tryz.func47 (by kernel_rfl) rfl
set_option maxRecDepth 100000 in
theorem stretches0 (l : List Ev) : Snd (ITP Tryz.prog) Tryz.prog 47 [.list l.length (Enc.cellsL l) .none] St.empty (.clos 75 [.ptr 0 0]) ⟨[(22, [.list l.length (Enc.cellsL l) .none])], [], [], 0, false⟩ := by
  obtain ⟨d, hd⟩ : ∃ d, Tryz.f47.body = some d := ⟨_, rfl⟩
  refine snd_of mix Tryz.func47 hd ent47 ?_
  cases hd
  refine w_start (by dsimp only [abeginS, Tryz.f47, List.length_cons, List.length_nil, Nat.zero_add, Nat.reduceAdd, Nat.reduceSub, List.replicate, List.cons_append, List.nil_append]) (by dsimp only [St.empty]) ?_
  refine w_seq (w_region ?_)
  refine w_opm (a := .ptr 0 0) (σ'' := ⟨[(22, [.list l.length (Enc.cellsL l) .none])], [], [], 0, false⟩) rfl rfl rfl rfl (by dsimp only [aput, List.set]) rfl ?_
  refine w_op (a := .raw .nilFunc) rfl rfl rfl rfl (by dsimp only [aput, List.set]) ?_
  refine w_seq (w_region ?_)
  refine w_op (a := .clos 75 [.ptr 0 0]) rfl rfl rfl rfl (by dsimp only [aput, List.set]) ?_
  refine w_op (a := .clos 75 [.ptr 0 0]) rfl rfl rfl rfl (by dsimp only [aput, List.set]) ?_
  refine end_keep (n := 0) (m := 0) [] [0] 0 rfl rfl rfl ?_
  simp [keepSt, keepBoxes, mapKL, mapK, roomK, mapKL_clo _ _ _ (Enc.cloL l), St.empty]
theorem stretches_snd (l : List Ev) (n : Nat) (σ : St) (hσ : σ.boxes.length = n) : Snd (ITP Tryz.prog) Tryz.prog 47 [.list l.length (Enc.cellsL l) .none] σ (.clos 75 [.ptr n 0]) { σ with boxes := σ.boxes ++ [(22, [.list l.length (Enc.cellsL l) .none])] } := by
  subst hσ
  have h := snd_lift (itp_mono _) (stretches0 l) (args := [.list l.length (Enc.cellsL l) .none]) (by rw [stripL, strip, Enc.stripL]; rfl) (by rw [okTrimL, okTrim, okTrimL_clo _ _ (Enc.cloL l)]; rfl) σ
  simpa [mapK, mapKL, roomK, shz, shBoxes, mapKL_clo _ _ _ (Enc.cloL l)] using h
end Go.Ab

