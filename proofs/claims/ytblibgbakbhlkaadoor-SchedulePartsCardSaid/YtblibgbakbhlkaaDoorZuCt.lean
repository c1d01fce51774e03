/-
  schedule: Join, Alike, ScheduleCuts: plain.
-/
import Derived.Test.YtblibgbakbhlkaaDoorZuCt0
set_option linter.unusedSimpArgs false
set_option linter.unusedVariables false
set_option maxRecDepth 100000
namespace Go.Ab
open Go Go.RowKit Go.Fwd Go.Proofs
theorem sub_take {α : Type} (l : List α) (m : Int) : sub l 0 m = l.take m.toNat := by simp [sub]
theorem flat_snoc (cs : List Ck) (c : Ck) : (cs ++ [c]).flatMap evP = cs.flatMap evP ++ evP c := by simp
theorem flatten_snoc {α : Type} (p : List (List α)) (w : List α) : (p ++ [w]).flatten = p.flatten ++ w := by simp
abbrev ev1 (b : UInt8) : Ev := Ev.mk 1 ((b.toNat : Nat) : Int)
set_option maxHeartbeats 4000000 in
theorem cut_ok (fuel : Nat) (l : List Ev) (z : List Int) (hf : 10000 < fuel) (hl : l.length ≤ 200) (hg : GoodS l) (hz : SzZ z) : Ok (fun r => r.2 = 0 ∧ r.1.flatMap evP = l ∧ r.1.length ≤ 320 ∧ lawCs z r.1) (F_cut fuel l z) := by
  have hzl := hz.len
  unfold F_cut
  rw [check_ok fuel l (by omega) (by omega) hg.ok, bindE_some]
  refine ok_bif (fun h => by simp at h) (fun _ => ok_bif (fun h => by have := of_decide_eq_true h; omega) (fun _ => ?_))
  rw [hasneg_no fuel z hz (by omega), bindE_some]
  refine ok_bif (fun h => by cases h) (fun _ => ?_)
  refine ok_cut (fun j : List Int × List Ck => j.2.flatMap evP = l ∧ j.2.length ≤ 320 ∧ lawCs z j.2) (ok_chk (by omega) (ok_cut (fun j : List Int × List Ck => j.2.flatMap evP = l ∧ j.2.length ≤ 320 ∧ lawCs z j.2) ?_ (fun j hj => ok_some hj))) (fun j hj => ok_some ⟨rfl, hj⟩)
  refine Ok.mono (ok_range (fun (pre : List (List Ev)) (s : List Int × List Ck) => s.2.flatMap evP = pre.flatten ∧ lawCs z s.2 ∧ s.1 = z.drop (nd s.2) ∧ s.2.length + s.1.length ≤ pre.flatten.length + z.length) (all := runs l) (Q := cutQ (fun j : List Int × List Ck => j.2.flatMap evP = l ∧ j.2.length ≤ 320 ∧ lawCs z j.2) (fun r : List Ck × Int => r.2 = 0 ∧ r.1.flatMap evP = l ∧ r.1.length ≤ 320 ∧ lawCs z r.1)) ?_ (runs l) [] (z, []) rfl ⟨rfl, fun p c r h => by simp at h, rfl, by simp⟩) ?_
  rotate_left
  · rintro (s | s) hs
    · obtain ⟨h1, h2, h3, h4⟩ := hs
      rw [runs_flat] at h1 h4
      exact ⟨h1, by omega, h2⟩
    · exact hs
  rintro p w r ⟨zs, cs⟩ hall ⟨h1, h2, h3, h4⟩
  dsimp only at h1 h2 h3 h4 ⊢
  have hw : w ∈ runs l := by rw [← hall]; simp
  obtain ⟨q1, q2, q3⟩ := runs_mem l w hw
  have hst := stretch_of hg.ok hg.u8 (by omega) hw
  have hwl := run_len hw
  have hw0 := List.length_pos_iff.2 q1
  have hpl : p.flatten.length + w.length ≤ l.length := by
    have := congrArg List.length (runs_flat l)
    rw [← hall] at this; simp only [List.flatten_append, List.flatten_cons, List.length_append] at this; omega
  refine ok_cut (fun _ => (ix w 0).k = 1) (ok_chk ⟨by omega, by omega⟩ (ok_letE fun x3 g3 => ok_bif (fun hk => ?_) (fun hk => ok_some (by show (ix w 0).k = 1; rw [g3]; simpa using hk)))) fun _ hk1 => ?_
  · have hk : (ix w 0).k ≠ 1 := by rw [g3]; simpa using hk
    refine ok_cut (fun j : List Ck => j.flatMap evP = p.flatten ++ w ∧ lawCs z j ∧ nd j = nd cs ∧ j.length = cs.length + w.length) (ok_loop (fun s : Int × List Ck => ∃ i : Nat, s.1 = (i : Int) ∧ i ≤ w.length ∧ s.2.flatMap evP = p.flatten ++ w.take i ∧ lawCs z s.2 ∧ nd s.2 = nd cs ∧ s.2.length = cs.length + i) (fun s => w.length - s.1.toNat) ?_ fuel (0, cs) (by simp; omega) ⟨0, rfl, Nat.zero_le _, by simpa using h1, h2, rfl, rfl⟩) fun j hj => ok_some ?_
    · rintro ⟨i0, a⟩ ⟨i, rfl, hi, k1, k2, k3, k4⟩
      dsimp only at k1 k2 k3 k4 ⊢
      refine ok_bif (fun hc => ?_) (fun hc => ok_some ?_)
      rotate_left
      · have hlt : ¬ i < w.length := by have := of_decide_eq_false hc; omega
        rw [List.take_of_length_le (by omega)] at k1
        exact ⟨k1, k2, k3, by omega⟩
      have hlt : i < w.length := by have := of_decide_eq_true hc; omega
      refine ok_chk ⟨by omega, by omega⟩ (ok_letE fun x4 g4 => ok_chk (by simp only [List.length_cons, List.length_nil]; omega) (ok_chk ⟨by omega, by omega⟩ (ok_some ⟨⟨i + 1, by simp, hlt, ?_, ?_, ?_, ?_⟩, by simp only; omega⟩)))
      all_goals
        have hx4 : x4 = w[i] := by rw [← g4]; simp [ix, hlt]
        have hmem : x4 ∈ w := by rw [hx4]; exact List.getElem_mem _
        have hxk : x4.k ≠ 1 := by rw [q3 x4 hmem]; exact hk
        have hxb := (okE_mem l false hg.ok x4 (q2 x4 hmem)).2 hxk
      · show (a ++ [Ck.mk x4.k []]).flatMap evP = _
        rw [flat_snoc, k1, List.take_succ_eq_append_getElem hlt, ← hx4, ← List.append_assoc]
        congr 1
        unfold evP
        rw [if_neg hxk]
        obtain ⟨kk, bb⟩ := x4
        simp only at hxb
        rw [hxb]
      · exact lawCs_snoc k2 ⟨fun _ => rfl, fun h => absurd h hxk⟩
      · show nd (a ++ [Ck.mk x4.k []]) = nd cs
        rw [nd_snoc, if_neg hxk, k3, Nat.add_zero]
      · simp only [List.length_append, List.length_cons, List.length_nil]; omega
    · obtain ⟨k1, k2, k3, k4⟩ := hj
      refine ⟨by rw [flatten_snoc]; exact k1, k2, by show zs = _; rw [h3, k3], ?_⟩
      show j.length + zs.length ≤ _
      rw [flatten_snoc, List.length_append]; omega
  obtain ⟨b, hb, rfl⟩ : ∃ b : List UInt8, b ≠ [] ∧ w = b.map ev1 := by
    rcases hst with h | ⟨n, g1, g2, rfl⟩ | rfl
    · exact h
    · cases n with
      | zero => omega
      | succ n => exact absurd hk1 (by rw [List.replicate_succ]; show (2 : Int) ≠ 1; decide)
    · exact absurd hk1 (by show (3 : Int) ≠ 1; decide)
  have hby : F_bytes fuel (b.map ev1) = some b := by
    rw [bytes_eq fuel _ (by omega) (by omega) fun e he _ => (hg.u8 e (q2 e he)).2, bytesP_map]
  rw [hby, bindE_some]
  have hbl : (b.map ev1).length = b.length := List.length_map _
  rw [hbl] at hwl hw0 hpl
  have hzs : zs.length ≤ z.length := by rw [h3, List.length_drop]; omega
  have hmeas : b.length + zs.length < fuel := by omega
  refine ok_loop (fun s : List UInt8 × List Int × List Ck => s.2.2.flatMap evP ++ s.1.map ev1 = p.flatten ++ b.map ev1 ∧ lawCs z s.2.2 ∧ s.2.1 = z.drop (nd s.2.2) ∧ s.2.2.length + s.2.1.length + s.1.length ≤ p.flatten.length + b.length + z.length) (fun s => s.1.length + s.2.1.length) ?_ fuel (b, zs, cs) hmeas ⟨by show cs.flatMap evP ++ _ = _; rw [h1], h2, h3, by show cs.length + zs.length + b.length ≤ _; omega⟩
  rintro ⟨bs, y, a⟩ ⟨k1, k2, k3, k4⟩
  dsimp only at k1 k2 k3 k4 ⊢
  refine ok_bif (fun hc => ?_) (fun hc => ok_some ?_)
  rotate_left
  · have hb0 : bs = [] := List.length_eq_zero_iff.1 (by have := of_decide_eq_false hc; omega)
    subst hb0
    refine ⟨by rw [flatten_snoc]; simpa using k1, k2, k3, ?_⟩
    show a.length + y.length ≤ _
    rw [flatten_snoc, List.length_append, hbl]; simpa using k4
  have hbs : 0 < bs.length := by have := of_decide_eq_true hc; omega
  refine ok_cut (fun j : Int × List Int => (0 ≤ j.1 ∧ j.1 ≤ (bs.length : Int)) ∧ j.2 = z.drop (nd a + 1) ∧ lawC z (nd a) (Ck.mk 1 (sub bs 0 j.1)) ∧ (j.2.length + 1 = y.length ∨ j.2.length = y.length ∧ j.1 = (bs.length : Int))) (ok_bif (fun hy => ?_) (fun hy => ok_some ?_)) fun j hj => ?_
  · have hy := of_decide_eq_true hy
    have hnz : nd a < z.length := by rw [k3, List.length_drop] at hy; omega
    obtain ⟨r', e1, e2⟩ := drop_at hnz
    have hy0 : ix y (0 : Int) = ix z (nd a : Int) := by rw [k3, e1]; rfl
    have hzb : 0 ≤ ix z (nd a : Int) := by
      have : ix z (nd a : Int) = z[nd a] := by simp [ix, hnz]
      rw [this]; exact (hz.bnd _ (List.getElem_mem _)).1
    have hys : sub y 1 (y.length : Int) = z.drop (nd a + 1) := by
      have := sub_drop' y 1 (by omega)
      rw [show ((1 : Int)) = ((1 : Nat) : Int) from rfl, this, k3, List.drop_drop]
    have hyl : (z.drop (nd a + 1)).length + 1 = y.length := by rw [k3, List.length_drop, List.length_drop]; omega
    refine ok_chk ⟨by omega, by omega⟩ (ok_chk ⟨by omega, by omega, Int.le_refl _⟩ (ok_some ⟨⟨?_, ?_⟩, hys, ⟨fun h => absurd rfl h, fun _ => ?_⟩, .inl ?_⟩))
    · show 0 ≤ min _ _; rw [hy0]; omega
    · show min _ _ ≤ _; omega
    · rw [if_pos hnz]
      show ((sub bs 0 (min _ (ix y 0))).length : Int) ≤ _ ∧ (sub bs 0 (min _ (ix y 0)) = [] → _)
      rw [hy0, sub_take]
      refine ⟨by rw [List.length_take]; omega, fun h => ?_⟩
      have := congrArg List.length h
      rw [List.length_take, List.length_nil] at this; omega
    · show (sub y 1 (y.length : Int)).length + 1 = _
      rw [hys]; exact hyl
  · have hy := of_decide_eq_false hy
    have hy0 : y = [] := List.length_eq_zero_iff.1 (by omega)
    have hnz : ¬ nd a < z.length := by
      intro h
      rw [hy0] at k3
      have := congrArg List.length k3
      rw [List.length_drop, List.length_nil] at this; omega
    refine ⟨⟨by show (0 : Int) ≤ bs.length; omega, Int.le_refl _⟩, ?_, ⟨fun h => absurd rfl h, fun _ => ?_⟩, .inr ⟨rfl, rfl⟩⟩
    · show y = _
      rw [hy0, List.drop_of_length_le (by omega)]
    · rw [if_neg hnz]
      show sub bs 0 (bs.length : Int) ≠ []
      rw [sub_take, Int.toNat_natCast, List.take_length]
      exact List.length_pos_iff.1 hbs
  · obtain ⟨⟨m1, m2⟩, m3, m4, m5⟩ := hj
    obtain ⟨m, z'⟩ := j
    dsimp only at m1 m2 m3 m4 m5 ⊢
    obtain ⟨m, rfl⟩ : ∃ n : Nat, m = (n : Int) := ⟨m.toNat, by omega⟩
    have hal : a.length ≤ 1000 := by omega
    refine ok_chk ⟨by omega, m1, m2⟩ (ok_chk (by rw [sub_take, List.length_take]; omega) (ok_letE fun x6 g6 => ok_chk (by simp only [List.length_cons, List.length_nil]; omega) (ok_chk ⟨m1, m2, Int.le_refl _⟩ (ok_some ⟨⟨?_, ?_, ?_, ?_⟩, ?_⟩))))
    all_goals
      subst g6
      have hd : sub bs (m : Int) (bs.length : Int) = bs.drop m := sub_drop' bs m (by omega)
      have ht : sub bs 0 (m : Int) = bs.take m := by rw [sub_take, Int.toNat_natCast]
      simp only [hd]
    · rw [flat_snoc, ht]
      show a.flatMap evP ++ (bs.take m).map ev1 ++ (bs.drop m).map ev1 = _
      rw [List.append_assoc, ← List.map_append, List.take_append_drop]; exact k1
    · exact lawCs_snoc k2 m4
    · rw [nd_snoc, if_pos rfl]; exact m3
    · simp only [List.length_append, List.length_cons, List.length_nil, List.length_drop]; omega
    · simp only [List.length_drop]; omega
end Go.Ab
set_option linter.unusedSimpArgs false
set_option linter.unusedVariables false
set_option maxRecDepth 100000
namespace Go.Ab
open Go Go.RowKit Go.Fwd Go.Proofs
theorem evP_1 {c : Ck} (h : c.k = 1) : evP c = c.l.map ev1 := by unfold evP; rw [if_pos h]
theorem evP_n {c : Ck} (h : c.k ≠ 1) : evP c = [Ev.mk c.k 0] := by unfold evP; rw [if_neg h]
theorem eofs_map (b : List UInt8) : eofs (b.map ev1) = false := by
  unfold eofs; rw [List.any_eq_false]
  intro x hx
  obtain ⟨y, _, rfl⟩ := List.mem_map.1 hx
  show ¬ ((1 : Int) == 3) = true
  decide
theorem eofs_app (a b : List Ev) : eofs (a ++ b) = (eofs a || eofs b) := by simp [eofs, List.any_append]
set_option maxHeartbeats 4000000 in
theorem join_eq (fuel : Nat) (cs : List Ck) (l : List Ev) (hf : 10000 < fuel) (hc : cs.length ≤ 700) (hl : l.length ≤ 200) (hok : okE false l = true) (hfl : cs.flatMap evP = l) (hk : ∀ c ∈ cs, c.k ≠ 1 → c.l = []) : F_join fuel cs = some (l, -1, 0) := by
  refine Ok.eq ?_
  unfold F_join
  refine ok_bif (fun h => by have := of_decide_eq_true h; omega) (fun _ => ok_cut (fun _ => True) ?_ fun _ _ => ok_cut (fun j => j = l) ?_ fun j hj => ok_some (by rw [hj]))
  · refine ok_loop (fun s : Int × Int => ∃ i t : Nat, s.2 = (i : Int) ∧ s.1 = (t : Int) ∧ i ≤ cs.length ∧ t + ((cs.drop i).flatMap evP).length = l.length) (fun s => cs.length - s.2.toNat) ?_ fuel (0, 0) (by simp; omega) ⟨0, 0, rfl, rfl, Nat.zero_le _, by rw [List.drop_zero, hfl, Nat.zero_add]⟩
    rintro ⟨t0, i0⟩ ⟨i, t, rfl, rfl, hi, ht⟩
    dsimp only
    refine ok_bif (fun h => ?_) (fun h => ok_some trivial)
    have hlt : i < cs.length := by have := of_decide_eq_true h; omega
    obtain ⟨r, e1, e2⟩ := drop_at hlt
    have hmem : ix cs (i : Int) ∈ cs := List.mem_of_mem_drop (by rw [e1]; exact List.mem_cons_self)
    rw [e1, List.flatMap_cons, List.length_append] at ht
    refine ok_chk ⟨by omega, by omega⟩ (ok_letE fun x hx => ?_)
    rw [hx] at ht hmem
    by_cases h1 : x.k = 1
    · rw [evP_1 h1, List.length_map] at ht
      refine ok_chk ⟨by omega, by omega⟩ (ok_cut (fun j => j = ((t + x.l.length : Nat) : Int)) (ok_bif (fun h => by rw [h1] at h; simp at h) (fun _ => ok_some (by show _ = _; omega))) fun j hj => ?_)
      subst hj
      exact ok_bif (fun h => by have := of_decide_eq_true h; omega) (fun _ => ok_chk ⟨by omega, by omega⟩ (ok_some ⟨⟨i + 1, t + x.l.length, by simp, rfl, hlt, by rw [e2]; omega⟩, by simp only; omega⟩))
    · rw [evP_n h1, List.length_singleton] at ht
      have hx0 := hk x hmem h1
      have hx1 : x.l.length = 0 := by rw [hx0]; rfl
      refine ok_chk ⟨by omega, by omega⟩ (ok_cut (fun j => j = ((t + 1 : Nat) : Int)) (ok_bif (fun _ => ok_chk ⟨by omega, by omega⟩ (ok_some (by show _ = _; omega))) (fun h => absurd (by simpa using h) h1)) fun j hj => ?_)
      subst hj
      exact ok_bif (fun h => by have := of_decide_eq_true h; omega) (fun _ => ok_chk ⟨by omega, by omega⟩ (ok_some ⟨⟨i + 1, t + 1, by simp, rfl, hlt, by rw [e2]; omega⟩, by simp only; omega⟩))
  · refine ok_loop (fun s : List Ev × Bool × Int => ∃ i : Nat, s.2.2 = (i : Int) ∧ i ≤ cs.length ∧ s.1 ++ (cs.drop i).flatMap evP = l ∧ s.2.1 = eofs s.1) (fun s => cs.length - s.2.2.toNat) ?_ fuel ([], false, 0) (by simp; omega) ⟨0, rfl, Nat.zero_le _, by simpa using hfl, rfl⟩
    rintro ⟨out, over, i0⟩ ⟨i, rfl, hi, ho, hov⟩
    dsimp only at ho hov ⊢
    refine ok_bif (fun h => ?_) (fun h => ok_some ?_)
    rotate_left
    · have hlt : ¬ i < cs.length := by have := of_decide_eq_false h; omega
      rw [List.drop_of_length_le (by omega)] at ho
      show out = l
      simpa using ho
    have hlt : i < cs.length := by have := of_decide_eq_true h; omega
    obtain ⟨r, e1, e2⟩ := drop_at hlt
    have hmem : ix cs (i : Int) ∈ cs := List.mem_of_mem_drop (by rw [e1]; exact List.mem_cons_self)
    rw [e1, List.flatMap_cons] at ho
    refine ok_cut (fun j : List Ev × Bool => j.1 ++ (cs.drop (i + 1)).flatMap evP = l ∧ j.2 = eofs j.1) (ok_chk ⟨by omega, by omega⟩ (ok_letE fun x hx => ?_)) fun j hj => ok_chk ⟨by omega, by omega⟩ (ok_some ⟨⟨i + 1, by simp, hlt, hj⟩, by simp only; omega⟩)
    rw [hx] at ho hmem
    rw [e2]
    have hoL : out.length ≤ 200 := by
      have := congrArg List.length ho
      rw [List.length_append] at this; omega
    by_cases h1 : x.k = 1
    · rw [evP_1 h1] at ho
      have hxl : x.l.length ≤ 200 := by
        have := congrArg List.length ho
        rw [List.length_append, List.length_append, List.length_map] at this; omega
      have hno : x.l ≠ [] → over = false := by
        intro hne
        obtain ⟨c, u, hcu⟩ := List.exists_cons_of_ne_nil hne
        rw [hcu, List.map_cons, List.cons_append] at ho
        have h3 := hok
        rw [← ho, okE_app, Bool.and_eq_true, Bool.false_or, ← hov, okE, Bool.and_eq_true] at h3
        have h4 : rightP (ev1 c) over = !over := rfl
        have h5 := h3.2.1
        rw [h4] at h5
        cases over
        · rfl
        · cases h5
      refine ok_bif (fun h => by rw [h1] at h; simp at h) (fun _ => ?_)
      refine ok_loop (fun s : List Ev × Int => ∃ n : Nat, s.2 = (n : Int) ∧ n ≤ x.l.length ∧ s.1 = out ++ (x.l.take n).map ev1) (fun s => x.l.length - s.2.toNat) ?_ fuel (out, 0) (by simp; omega) ⟨0, rfl, Nat.zero_le _, by simp⟩
      rintro ⟨o, n0⟩ ⟨n, rfl, hn, rfl⟩
      dsimp only
      refine ok_bif (fun h => ?_) (fun h => ok_some ?_)
      rotate_left
      · have hnl : ¬ n < x.l.length := by have := of_decide_eq_false h; omega
        rw [List.take_of_length_le (by omega)]
        exact ⟨by show out ++ _ ++ _ = _; rw [List.append_assoc]; exact ho, by show over = _; rw [eofs_app, eofs_map, Bool.or_false]; exact hov⟩
      have hnl : n < x.l.length := by have := of_decide_eq_true h; omega
      have hv := hno (fun hh => by rw [hh] at hnl; simp at hnl)
      have hix : ix x.l (n : Int) = x.l[n] := by simp [ix, hnl]
      refine ok_chk ⟨by omega, by omega⟩ (ok_bif (fun h => by rw [hv] at h; cases h) (fun _ => ok_chk (by simp only [List.length_append, List.length_map, List.length_take, List.length_cons, List.length_nil]; omega) (ok_chk ⟨by omega, by omega⟩ (ok_some ⟨⟨n + 1, by simp, hnl, ?_⟩, by simp only; omega⟩))))
      show _ ++ _ = _
      rw [List.take_succ_eq_append_getElem hnl, List.map_append, hix, List.append_assoc]; rfl
    · rw [evP_n h1] at ho
      have hx0 := hk x hmem h1
      have hx1 : x.l.length = 0 := by rw [hx0]; rfl
      have hr : rightP (Ev.mk x.k 0) over = true := by
        have h3 := hok
        rw [← ho, okE_app, Bool.and_eq_true, Bool.false_or, ← hov, List.singleton_append, okE, Bool.and_eq_true] at h3
        exact h3.2.1
      have hnx : ∀ o', o' = (over || x.k == 3) → (out ++ [Ev.mk x.k 0]) ++ r.flatMap evP = l ∧ o' = eofs (out ++ [Ev.mk x.k 0]) := fun o' h => ⟨by rw [List.append_assoc]; exact ho, by rw [h, hov, eofs_snoc]⟩
      refine ok_bif (fun _ => ok_bif (fun h => by have := of_decide_eq_true h; omega) (fun _ => ok_bindE (ok_eq (right_eq _ _)) fun y hy => ok_bif (fun h => by rw [hy, hr] at h; cases h) (fun _ => ok_chk (by simp only [List.length_cons, List.length_nil]; omega) (ok_bif (fun hv => ok_some (hnx true (by rw [hv]; rfl))) (fun hv => ok_some (hnx _ (by rw [hv]; rfl))))))) (fun h => absurd (by simpa using h) h1)
theorem law_nil {z : List Int} {cs : List Ck} (h : lawCs z cs) : ∀ c ∈ cs, c.k ≠ 1 → c.l = [] := by
  intro c hc
  obtain ⟨p, r, rfl⟩ := List.append_of_mem hc
  exact (h p c r rfl).1
end Go.Ab

