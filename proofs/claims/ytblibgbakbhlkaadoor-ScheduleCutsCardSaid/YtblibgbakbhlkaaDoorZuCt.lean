/-
  schedule: Join, Alike, ScheduleCuts: plain.
-/
import Derived.Test.YtblibgbakbhlkaaDoorZuCt1
set_option linter.unusedSimpArgs false
set_option linter.unusedVariables false
set_option maxRecDepth 100000
namespace Go.Ab
open Go Go.RowKit Go.Fwd Go.Proofs
theorem evP_1 {c : Ck} (h : c.k = 1) : evP c = c.l.map ev1 := by unfold evP; rw [if_pos h]
theorem evP_n {c : Ck} (h : c.k ≠ 1) : evP c = [Ev.mk c.k 0] := by unfold evP; rw [if_neg h]
theorem eofs_map (b : List UInt8) : eofs (b.map ev1) = false := by
  unfold eofs; rw [List.any_eq_false]
  intro x hx
  obtain ⟨y, _, rfl⟩ := List.mem_map.1 hx
  show ¬ ((1 : Int) == 3) = true
  decide
theorem eofs_app (a b : List Ev) : eofs (a ++ b) = (eofs a || eofs b) := by simp [eofs, List.any_append]
set_option maxHeartbeats 4000000 in
theorem join_eq (fuel : Nat) (cs : List Ck) (l : List Ev) (hf : 10000 < fuel) (hc : cs.length ≤ 320) (hl : l.length ≤ 200) (hok : okE false l = true) (hfl : cs.flatMap evP = l) (hk : ∀ c ∈ cs, c.k ≠ 1 → c.l = []) : F_join fuel cs = some (l, -1, 0) := by
  refine Ok.eq ?_
  unfold F_join
  refine ok_bif (fun h => by have := of_decide_eq_true h; omega) (fun _ => ok_cut (fun _ => True) ?_ fun _ _ => ok_cut (fun j => j = l) ?_ fun j hj => ok_some (by rw [hj]))
  · refine ok_loop (fun s : Int × Int => ∃ i t : Nat, s.2 = (i : Int) ∧ s.1 = (t : Int) ∧ i ≤ cs.length ∧ t + ((cs.drop i).flatMap evP).length = l.length) (fun s => cs.length - s.2.toNat) ?_ fuel (0, 0) (by simp; omega) ⟨0, 0, rfl, rfl, Nat.zero_le _, by rw [List.drop_zero, hfl, Nat.zero_add]⟩
    rintro ⟨t0, i0⟩ ⟨i, t, rfl, rfl, hi, ht⟩
    dsimp only
    refine ok_bif (fun h => ?_) (fun h => ok_some trivial)
    have hlt : i < cs.length := by have := of_decide_eq_true h; omega
    obtain ⟨r, e1, e2⟩ := drop_at hlt
    have hmem : ix cs (i : Int) ∈ cs := List.mem_of_mem_drop (by rw [e1]; exact List.mem_cons_self)
    rw [e1, List.flatMap_cons, List.length_append] at ht
    refine ok_chk ⟨by omega, by omega⟩ (ok_letE fun x hx => ?_)
    rw [hx] at ht hmem
    by_cases h1 : x.k = 1
    · rw [evP_1 h1, List.length_map] at ht
      refine ok_chk ⟨by omega, by omega⟩ (ok_cut (fun j => j = ((t + x.l.length : Nat) : Int)) (ok_bif (fun h => by rw [h1] at h; simp at h) (fun _ => ok_some (by show _ = _; omega))) fun j hj => ?_)
      subst hj
      exact ok_bif (fun h => by have := of_decide_eq_true h; omega) (fun _ => ok_chk ⟨by omega, by omega⟩ (ok_some ⟨⟨i + 1, t + x.l.length, by simp, rfl, hlt, by rw [e2]; omega⟩, by simp only; omega⟩))
    · rw [evP_n h1, List.length_singleton] at ht
      have hx0 := hk x hmem h1
      have hx1 : x.l.length = 0 := by rw [hx0]; rfl
      refine ok_chk ⟨by omega, by omega⟩ (ok_cut (fun j => j = ((t + 1 : Nat) : Int)) (ok_bif (fun _ => ok_chk ⟨by omega, by omega⟩ (ok_some (by show _ = _; omega))) (fun h => absurd (by simpa using h) h1)) fun j hj => ?_)
      subst hj
      exact ok_bif (fun h => by have := of_decide_eq_true h; omega) (fun _ => ok_chk ⟨by omega, by omega⟩ (ok_some ⟨⟨i + 1, t + 1, by simp, rfl, hlt, by rw [e2]; omega⟩, by simp only; omega⟩))
  · refine ok_loop (fun s : List Ev × Bool × Int => ∃ i : Nat, s.2.2 = (i : Int) ∧ i ≤ cs.length ∧ s.1 ++ (cs.drop i).flatMap evP = l ∧ s.2.1 = eofs s.1) (fun s => cs.length - s.2.2.toNat) ?_ fuel ([], false, 0) (by simp; omega) ⟨0, rfl, Nat.zero_le _, by simpa using hfl, rfl⟩
    rintro ⟨out, over, i0⟩ ⟨i, rfl, hi, ho, hov⟩
    dsimp only at ho hov ⊢
    refine ok_bif (fun h => ?_) (fun h => ok_some ?_)
    rotate_left
    · have hlt : ¬ i < cs.length := by have := of_decide_eq_false h; omega
      rw [List.drop_of_length_le (by omega)] at ho
      show out = l
      simpa using ho
    have hlt : i < cs.length := by have := of_decide_eq_true h; omega
    obtain ⟨r, e1, e2⟩ := drop_at hlt
    have hmem : ix cs (i : Int) ∈ cs := List.mem_of_mem_drop (by rw [e1]; exact List.mem_cons_self)
    rw [e1, List.flatMap_cons] at ho
    refine ok_cut (fun j : List Ev × Bool => j.1 ++ (cs.drop (i + 1)).flatMap evP = l ∧ j.2 = eofs j.1) (ok_chk ⟨by omega, by omega⟩ (ok_letE fun x hx => ?_)) fun j hj => ok_chk ⟨by omega, by omega⟩ (ok_some ⟨⟨i + 1, by simp, hlt, hj⟩, by simp only; omega⟩)
    rw [hx] at ho hmem
    rw [e2]
    have hoL : out.length ≤ 200 := by
      have := congrArg List.length ho
      rw [List.length_append] at this; omega
    by_cases h1 : x.k = 1
    · rw [evP_1 h1] at ho
      have hxl : x.l.length ≤ 200 := by
        have := congrArg List.length ho
        rw [List.length_append, List.length_append, List.length_map] at this; omega
      have hno : x.l ≠ [] → over = false := by
        intro hne
        obtain ⟨c, u, hcu⟩ := List.exists_cons_of_ne_nil hne
        rw [hcu, List.map_cons, List.cons_append] at ho
        have h3 := hok
        rw [← ho, okE_app, Bool.and_eq_true, Bool.false_or, ← hov, okE, Bool.and_eq_true] at h3
        have h4 : rightP (ev1 c) over = !over := rfl
        have h5 := h3.2.1
        rw [h4] at h5
        cases over
        · rfl
        · cases h5
      refine ok_bif (fun h => by rw [h1] at h; simp at h) (fun _ => ?_)
      refine ok_loop (fun s : List Ev × Int => ∃ n : Nat, s.2 = (n : Int) ∧ n ≤ x.l.length ∧ s.1 = out ++ (x.l.take n).map ev1) (fun s => x.l.length - s.2.toNat) ?_ fuel (out, 0) (by simp; omega) ⟨0, rfl, Nat.zero_le _, by simp⟩
      rintro ⟨o, n0⟩ ⟨n, rfl, hn, rfl⟩
      dsimp only
      refine ok_bif (fun h => ?_) (fun h => ok_some ?_)
      rotate_left
      · have hnl : ¬ n < x.l.length := by have := of_decide_eq_false h; omega
        rw [List.take_of_length_le (by omega)]
        exact ⟨by show out ++ _ ++ _ = _; rw [List.append_assoc]; exact ho, by show over = _; rw [eofs_app, eofs_map, Bool.or_false]; exact hov⟩
      have hnl : n < x.l.length := by have := of_decide_eq_true h; omega
      have hv := hno (fun hh => by rw [hh] at hnl; simp at hnl)
      have hix : ix x.l (n : Int) = x.l[n] := by simp [ix, hnl]
      refine ok_chk ⟨by omega, by omega⟩ (ok_bif (fun h => by rw [hv] at h; cases h) (fun _ => ok_chk (by simp only [List.length_append, List.length_map, List.length_take, List.length_cons, List.length_nil]; omega) (ok_chk ⟨by omega, by omega⟩ (ok_some ⟨⟨n + 1, by simp, hnl, ?_⟩, by simp only; omega⟩))))
      show _ ++ _ = _
      rw [List.take_succ_eq_append_getElem hnl, List.map_append, hix, List.append_assoc]; rfl
    · rw [evP_n h1] at ho
      have hx0 := hk x hmem h1
      have hx1 : x.l.length = 0 := by rw [hx0]; rfl
      have hr : rightP (Ev.mk x.k 0) over = true := by
        have h3 := hok
        rw [← ho, okE_app, Bool.and_eq_true, Bool.false_or, ← hov, List.singleton_append, okE, Bool.and_eq_true] at h3
        exact h3.2.1
      have hnx : ∀ o', o' = (over || x.k == 3) → (out ++ [Ev.mk x.k 0]) ++ r.flatMap evP = l ∧ o' = eofs (out ++ [Ev.mk x.k 0]) := fun o' h => ⟨by rw [List.append_assoc]; exact ho, by rw [h, hov, eofs_snoc]⟩
      refine ok_bif (fun _ => ok_bif (fun h => by have := of_decide_eq_true h; omega) (fun _ => ok_bindE (ok_eq (right_eq _ _)) fun y hy => ok_bif (fun h => by rw [hy, hr] at h; cases h) (fun _ => ok_chk (by simp only [List.length_cons, List.length_nil]; omega) (ok_bif (fun hv => ok_some (hnx true (by rw [hv]; rfl))) (fun hv => ok_some (hnx _ (by rw [hv]; rfl))))))) (fun h => absurd (by simpa using h) h1)
theorem law_nil {z : List Int} {cs : List Ck} (h : lawCs z cs) : ∀ c ∈ cs, c.k ≠ 1 → c.l = [] := by
  intro c hc
  obtain ⟨p, r, rfl⟩ := List.append_of_mem hc
  exact (h p c r rfl).1
set_option maxHeartbeats 4000000 in
theorem cuts_eq (l : List UInt8) (en : Int) (j k : List UInt8) (he : 0 ≤ en ∧ en < 256) : F_cuts 100000 l en j k = some true := by
  obtain ⟨x, hx, hxl, hg⟩ := made_ok 100000 l en (by omega) he
  obtain ⟨z, hz, hzz⟩ := sizes_ok 100000 j (by omega)
  obtain ⟨y, hy, hyy⟩ := sizes_ok 100000 k (by omega)
  obtain ⟨⟨cs, e1⟩, hc, rfl, c2, c3, c4⟩ := cut_ok 100000 x z (by omega) hxl hg hzz
  obtain ⟨⟨ds, e2⟩, hd, rfl, d2, d3, d4⟩ := cut_ok 100000 x y (by omega) hxl hg hyy
  dsimp only at c2 c3 c4 d2 d3 d4
  have hj := join_eq 100000 cs x (by omega) c3 hxl hg.ok c2 (law_nil c4)
  have hj2 := join_eq 100000 ds x (by omega) d3 hxl hg.ok d2 (law_nil d4)
  have he := eqevs_eq 100000 x x (by omega) (by omega)
  rw [decide_eq_true rfl] at he
  have ha : F_alike 100000 cs ds = some (true, 0) := by
    unfold F_alike
    rw [hj, bindE_some]
    simp only
    rw [hj2, bindE_some]
    simp only
    rw [he, bindE_some]
    rfl
  refine Ok.eq ?_
  unfold F_cuts
  rw [hx, bindE_some, hz, bindE_some, hy, bindE_some, hc, bindE_some, hd, bindE_some]
  simp only
  rw [hj, bindE_some, ha, bindE_some]
  refine ok_chk (by simp) (ok_chk (by simp) (ok_chk (by simp) (ok_bif (fun h => by simp at h) (fun _ => ok_bif (fun h => by simp at h) (fun _ => ok_bif (fun h => by simp at h) (fun _ => ?_))))))
  rw [he, bindE_some]
  refine ok_bif (fun h => by simp at h) (fun _ => ok_cut (fun _ => True) ?_ fun _ _ => ok_bindE (ok_eq awake_true) fun a ha => ok_some ha)
  refine ok_loop (fun s : Int × Int => ∃ i : Nat, s.2 = (i : Int) ∧ i ≤ cs.length ∧ s.1 = ((nd (cs.take i) : Nat) : Int)) (fun s => cs.length - s.2.toNat) ?_ 100000 (0, 0) (by simp; omega) ⟨0, rfl, Nat.zero_le _, rfl⟩
  rintro ⟨n0, i0⟩ ⟨i, rfl, hi, rfl⟩
  dsimp only
  refine ok_bif (fun h => ?_) (fun h => ok_some trivial)
  have hlt : i < cs.length := by have := of_decide_eq_true h; omega
  have hix : ix cs (i : Int) = cs[i] := by simp [ix, hlt]
  have hlaw : lawC z (nd (cs.take i)) cs[i] := c4 (cs.take i) cs[i] (cs.drop (i + 1)) (by rw [← List.drop_eq_getElem_cons hlt, List.take_append_drop])
  have hnd : nd (cs.take i) ≤ i := by unfold nd; exact Nat.le_trans (List.length_filter_le _ _) (by rw [List.length_take]; omega)
  have hnx : nd (cs.take (i + 1)) = nd (cs.take i) + if cs[i].k = 1 then 1 else 0 := by rw [List.take_succ_eq_append_getElem hlt, nd_snoc]
  refine ok_cut (fun m => m = ((nd (cs.take (i + 1)) : Nat) : Int)) (ok_chk ⟨by omega, by omega⟩ (ok_letE fun c hcc => ?_)) fun m hm => ok_chk ⟨by omega, by omega⟩ (ok_some ⟨⟨i + 1, by simp, hlt, hm⟩, by simp only; omega⟩)
  rw [hix] at hcc
  rw [hcc] at hlaw hnx
  obtain ⟨l1, l2⟩ := hlaw
  by_cases h1 : c.k = 1
  · rw [if_pos h1] at hnx
    have l2 := l2 h1
    refine ok_bif (fun h => by rw [h1] at h; simp at h) (fun _ => ok_cut (fun _ => True) (ok_bif (fun hn => ?_) (fun hn => ?_)) fun _ _ => ok_chk ⟨by omega, by omega⟩ (ok_some (by show _ = _; rw [hnx]; omega)))
    · have hn := of_decide_eq_true hn
      have hn' : nd (cs.take i) < z.length := by omega
      rw [if_pos hn'] at l2
      refine ok_chk ⟨by omega, hn⟩ (ok_bif (fun h => by have := of_decide_eq_true h; omega) (fun _ => ok_bif (fun h0 => ok_bif (fun h => by have := of_decide_eq_true h; omega) (fun _ => ok_chk ⟨by omega, hn⟩ (ok_bif (fun h => ?_) (fun _ => ok_some trivial)))) (fun _ => ok_some trivial)))
      have hc0 : c.l = [] := List.length_eq_zero_iff.1 (by have : (c.l.length : Int) = 0 := by simpa using h0
                                                           omega)
      rw [l2.2 hc0] at h; simp at h
    · have hn := of_decide_eq_false hn
      have hn' : ¬ nd (cs.take i) < z.length := by omega
      rw [if_neg hn'] at l2
      refine ok_bif (fun h0 => ?_) (fun _ => ok_some trivial)
      exfalso
      exact l2 (List.length_eq_zero_iff.1 (by have : (c.l.length : Int) = 0 := by simpa using h0
                                              omega))
  · rw [if_neg h1, Nat.add_zero] at hnx
    have hc0 : c.l.length = 0 := by rw [l1 h1]; rfl
    refine ok_bif (fun _ => ok_bif (fun h => ?_) (fun _ => ok_some (by show _ = _; rw [hnx]; rfl))) (fun h => absurd (by simpa using h) h1)
    rw [hc0] at h; simp at h
end Go.Ab

