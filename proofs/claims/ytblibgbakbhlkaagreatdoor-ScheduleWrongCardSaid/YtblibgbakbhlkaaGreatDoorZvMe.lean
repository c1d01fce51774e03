/-
  schedule: what Made makes: no EOF by a 0.
-/
import Derived.Test.YtblibgbakbhlkaaGreatDoorZvCt1
import Derived.Test.YtblibgbakbhlkaaGreatDoorZvIn
set_option linter.unusedSimpArgs false
set_option linter.unusedVariables false
set_option maxRecDepth 100000
namespace Go.Ab
open Go Go.RowKit Go.Fwd Go.Proofs
theorem ok_part {a : List Ev} {e : Ev} {b : List Ev} (h : okE false (a ++ e :: b) = true) : rightP e (eofs a) = true := by
  rw [okE_app, Bool.and_eq_true, Bool.false_or, okE, Bool.and_eq_true] at h
  exact h.2.1
theorem check_at (fuel : Nat) (p : List Ev) (e : Ev) (q : List Ev) (hl : (p ++ e :: q).length ≤ 4096) (hf : (p ++ e :: q).length < fuel) (hp : okE false p = true) (he : rightP e (eofs p) = false) : F_check fuel (p ++ e :: q) = some ((p.length : Int), 320) := by
  refine Ok.eq ?_
  unfold F_check
  obtain ⟨l, hL⟩ : ∃ l, l = p ++ e :: q := ⟨_, rfl⟩
  rw [← hL] at hl hf ⊢
  have hpl : p.length < l.length := by rw [hL]; simp
  refine ok_bif (fun hc => by have := of_decide_eq_true hc; omega) (fun _ => ok_cut (fun _ => False) (ok_loop (fun s : Bool × Int => ∃ i : Nat, s.2 = (i : Int) ∧ i ≤ p.length ∧ s.1 = eofs (p.take i)) (fun s => l.length - s.2.toNat) ?_ fuel (false, 0) (by simpa using hf) ⟨0, rfl, Nat.zero_le _, rfl⟩) fun _ h => h.elim)
  rintro ⟨o, i0⟩ ⟨i, rfl, hi, rfl⟩
  dsimp only
  refine ok_bif (fun hc => ?_) (fun hc => by have := of_decide_eq_false hc; omega)
  have hlt : i < l.length := by omega
  rcases Nat.lt_or_ge i p.length with hip | hip
  · have hx : ix l (i : Int) = p[i] := by
      have : l[i]? = p[i]? := by rw [hL, List.getElem?_append_left hip]
      simp [ix, hlt, hip] at this ⊢
      exact this
    have hr : rightP p[i] (eofs (p.take i)) = true := by
      have h := hp
      rw [← List.take_append_drop i p, List.drop_eq_getElem_cons hip] at h
      exact ok_part h
    refine ok_cut (fun j => j = eofs (p.take (i + 1))) (ok_chk ⟨by omega, by omega⟩ (ok_letE fun x hxx => ok_bindE (ok_eq (right_eq x _)) fun y hy => ?_)) fun j hj => ?_
    · rw [hx] at hxx
      subst hy hxx
      have hs : eofs (p.take (i + 1)) = (eofs (p.take i) || p[i].k == 3) := by rw [List.take_succ_eq_append_getElem hip, eofs_snoc]
      refine ok_bif (fun hn => by rw [hr] at hn; cases hn) (fun _ => ok_bif (fun h => ok_some (by show true = _; rw [hs, h]; rfl)) (fun h => ok_some (by show _ = _; rw [hs, h]; rfl)))
    · subst hj
      refine ok_chk ⟨by omega, by omega⟩ (ok_some ⟨⟨i + 1, by simp, hip, rfl⟩, by simp only; omega⟩)
  · obtain rfl : i = p.length := by omega
    have hx : ix l (p.length : Int) = e := by
      have : l[p.length]? = some e := by rw [hL]; simp
      simp [ix, hlt] at this ⊢
      exact this
    refine ok_cut (fun _ => False) (ok_chk ⟨by omega, by omega⟩ (ok_letE fun x hxx => ok_bindE (ok_eq (right_eq x _)) fun y hy => ?_)) fun j hj => hj.elim
    rw [hx] at hxx
    subst hy hxx
    rw [List.take_of_length_le (Nat.le_refl _)]
    refine ok_bif (fun hn => ok_some rfl) (fun hn => by rw [he] at hn; cases hn)
theorem cut_bad {fuel : Nat} {l : List Ev} {z : List Int} {k : Int} (h : F_check fuel l = some (k, 320)) : F_cut fuel l z = some ([], 320) := by
  unfold F_cut
  rw [h, bindE_some]
  rfl
theorem write_bad {fuel : Nat} {l : List Ev} {k : Int} (h : F_check fuel l = some (k, 320)) : F_write fuel l = some ([], 320) := by
  unfold F_write
  rw [h, bindE_some]
  rfl
theorem neg_two (fuel : Nat) (n : Int) (hf : 10 < fuel) : F_hasneg fuel [1, min n (-1)] = some true := by
  have h : F_ixneg fuel [1, min n (-1)] = some 1 := by
    refine Ok.eq ?_
    unfold F_ixneg
    refine ok_cut (fun _ => False) (ok_loop (fun s : Int => s = 0 ∨ s = 1) (fun s => 2 - s.toNat) ?_ fuel 0 (by simp; omega) (.inl rfl)) fun _ h => h.elim
    rintro s (rfl | rfl)
    · refine ok_bif (fun _ => ok_chk (by simp) ?_) (fun h => by simp at h)
      have hn : F_neg1 (ix [1, min n (-1)] 0) = some false := by unfold F_neg1; simp [ix]
      rw [hn, bindE_some]
      exact ok_bif (fun h => by cases h) (fun _ => ok_chk (by omega) (ok_some ⟨.inr rfl, by simp⟩))
    · refine ok_bif (fun _ => ok_chk (by simp) ?_) (fun h => by simp at h)
      have hn : F_neg1 (ix [1, min n (-1)] 1) = some true := by unfold F_neg1; simp [ix]; omega
      rw [hn, bindE_some]
      exact ok_bif (fun _ => ok_some rfl) (fun h => by cases h)
  unfold F_hasneg
  rw [h, bindE_some]
  rfl
theorem cut_neg (fuel : Nat) (l : List Ev) (n : Int) (hf : 10 < fuel) (h : F_check fuel l = some (-1, 0)) : F_cut fuel l [1, min n (-1)] = some ([], 2) := by
  unfold F_cut
  rw [h, bindE_some]
  simp only
  rw [neg_two fuel n hf, bindE_some]
  rfl
end Go.Ab
set_option linter.unusedSimpArgs false
set_option linter.unusedVariables false
set_option maxRecDepth 100000
namespace Go.Ab
open Go Go.RowKit Go.Fwd Go.Proofs
theorem evP_1 {c : Ck} (h : c.k = 1) : evP c = c.l.map ev1 := by unfold evP; rw [if_pos h]
theorem evP_n {c : Ck} (h : c.k ≠ 1) : evP c = [Ev.mk c.k 0] := by unfold evP; rw [if_neg h]
theorem eofs_map (b : List UInt8) : eofs (b.map ev1) = false := by
  unfold eofs; rw [List.any_eq_false]
  intro x hx
  obtain ⟨y, _, rfl⟩ := List.mem_map.1 hx
  show ¬ ((1 : Int) == 3) = true
  decide
theorem eofs_app (a b : List Ev) : eofs (a ++ b) = (eofs a || eofs b) := by simp [eofs, List.any_append]
def wt (c : Ck) : Nat := c.l.length + if c.k = 1 then 0 else 1
def wts (l : List Ck) : Nat := (l.map wt).sum
theorem wts_app (a b : List Ck) : wts (a ++ b) = wts a + wts b := by simp [wts]
theorem wts_cons (a : Ck) (b : List Ck) : wts (a :: b) = wt a + wts b := by simp [wts]
theorem wts_ev : ∀ l : List Ck, (∀ c ∈ l, c.k ≠ 1 → c.l = []) → wts l = (l.flatMap evP).length
  | [], _ => rfl
  | c :: l, h => by
    rw [wts_cons, List.flatMap_cons, List.length_append, wts_ev l fun x hx => h x (List.mem_cons_of_mem _ hx)]
    congr 1
    unfold wt
    by_cases h1 : c.k = 1
    · rw [if_pos h1, evP_1 h1, List.length_map]; rfl
    · rw [if_neg h1, evP_n h1, h c List.mem_cons_self h1]; rfl
set_option maxHeartbeats 4000000 in
theorem join_bad (fuel : Nat) (cs : List Ck) (c : Ck) (ds : List Ck) (hf : 10000 < fuel) (hn : (cs ++ c :: ds).length ≤ 700) (hw : wts (cs ++ c :: ds) ≤ 1000) (hev : (cs.flatMap evP).length ≤ 1000) (hok : okE false (cs.flatMap evP) = true) (hk : ∀ x ∈ cs, x.k ≠ 1 → x.l = [])
    (hc : c.k ≠ 1) (hbad : c.l ≠ [] ∨ rightP ⟨c.k, 0⟩ (eofs (cs.flatMap evP)) = false) : F_join fuel (cs ++ c :: ds) = some ([], (cs.length : Int), 320) := by
  refine Ok.eq ?_
  unfold F_join
  obtain ⟨L, hL⟩ : ∃ L, L = cs ++ c :: ds := ⟨_, rfl⟩
  rw [← hL] at hn hw ⊢
  have hcl : cs.length < L.length := by rw [hL]; simp
  have hLc : ∀ i : Nat, (h : i < cs.length) → ix L (i : Int) = ix cs (i : Int) := fun i h => by
    have : L[i]? = cs[i]? := by rw [hL, List.getElem?_append_left h]
    simp [ix, h, show i < L.length by omega] at this ⊢
    exact this
  have hLe : ix L (cs.length : Int) = c := by
    have : L[cs.length]? = some c := by rw [hL]; simp
    simp [ix, hcl] at this ⊢
    exact this
  refine ok_bif (fun h => by have := of_decide_eq_true h; omega) (fun _ => ok_cut (fun _ => True) ?_ fun _ _ => ok_cut (fun _ => False) ?_ fun j hj => hj.elim)
  · refine ok_loop (fun s : Int × Int => ∃ i t : Nat, s.2 = (i : Int) ∧ s.1 = (t : Int) ∧ i ≤ L.length ∧ t + wts (L.drop i) = wts L) (fun s => L.length - s.2.toNat) ?_ fuel (0, 0) (by simp; omega) ⟨0, 0, rfl, rfl, Nat.zero_le _, by rw [List.drop_zero, Nat.zero_add]⟩
    rintro ⟨t0, i0⟩ ⟨i, t, rfl, rfl, hi, ht⟩
    dsimp only
    refine ok_bif (fun h => ?_) (fun h => ok_some trivial)
    have hlt : i < L.length := by have := of_decide_eq_true h; omega
    obtain ⟨r, e1, e2⟩ := drop_at hlt
    rw [e1, wts_cons] at ht
    refine ok_chk ⟨by omega, by omega⟩ (ok_letE fun x hx => ?_)
    rw [hx] at ht
    unfold wt at ht
    by_cases h1 : x.k = 1
    · rw [if_pos h1] at ht
      refine ok_chk ⟨by omega, by omega⟩ (ok_cut (fun j => j = ((t + x.l.length : Nat) : Int)) (ok_bif (fun h => by rw [h1] at h; simp at h) (fun _ => ok_some (by show _ = _; omega))) fun j hj => ?_)
      subst hj
      exact ok_bif (fun h => by have := of_decide_eq_true h; omega) (fun _ => ok_chk ⟨by omega, by omega⟩ (ok_some ⟨⟨i + 1, t + x.l.length, by simp, rfl, hlt, by rw [e2]; omega⟩, by simp only; omega⟩))
    · rw [if_neg h1] at ht
      refine ok_chk ⟨by omega, by omega⟩ (ok_cut (fun j => j = ((t + x.l.length + 1 : Nat) : Int)) (ok_bif (fun _ => ok_chk ⟨by omega, by omega⟩ (ok_some (by show _ = _; omega))) (fun h => absurd (by simpa using h) h1)) fun j hj => ?_)
      subst hj
      exact ok_bif (fun h => by have := of_decide_eq_true h; omega) (fun _ => ok_chk ⟨by omega, by omega⟩ (ok_some ⟨⟨i + 1, t + x.l.length + 1, by simp, rfl, hlt, by rw [e2]; omega⟩, by simp only; omega⟩))
  · obtain ⟨l, hl⟩ : ∃ l, l = cs.flatMap evP := ⟨_, rfl⟩
    rw [← hl] at hev hok hbad
    refine ok_loop (fun s : List Ev × Bool × Int => ∃ i : Nat, s.2.2 = (i : Int) ∧ i ≤ cs.length ∧ s.1 ++ (cs.drop i).flatMap evP = l ∧ s.2.1 = eofs s.1) (fun s => L.length - s.2.2.toNat) ?_ fuel ([], false, 0) (by simp; omega) ⟨0, rfl, Nat.zero_le _, by simpa using hl.symm, rfl⟩
    rintro ⟨out, over, i0⟩ ⟨i, rfl, hi, ho, hov⟩
    dsimp only at ho hov ⊢
    refine ok_bif (fun h => ?_) (fun h => by have := of_decide_eq_false h; omega)
    rcases Nat.lt_or_ge i cs.length with hlt | hge
    · obtain ⟨r, e1, e2⟩ := drop_at hlt
      have hmem : ix cs (i : Int) ∈ cs := List.mem_of_mem_drop (by rw [e1]; exact List.mem_cons_self)
      rw [e1, List.flatMap_cons] at ho
      rw [hLc i hlt]
      refine ok_cut (fun j : List Ev × Bool => j.1 ++ (cs.drop (i + 1)).flatMap evP = l ∧ j.2 = eofs j.1) (ok_chk ⟨by omega, by omega⟩ (ok_letE fun x hx => ?_)) fun j hj => ok_chk ⟨by omega, by omega⟩ (ok_some ⟨⟨i + 1, by simp, hlt, hj⟩, by simp only; omega⟩)
      rw [hx] at ho hmem
      rw [e2]
      have hoL : out.length ≤ 1000 := by
        have := congrArg List.length ho
        rw [List.length_append] at this; omega
      by_cases h1 : x.k = 1
      · rw [evP_1 h1] at ho
        have hxl : x.l.length ≤ 1000 := by
          have := congrArg List.length ho
          rw [List.length_append, List.length_append, List.length_map] at this; omega
        have hno : x.l ≠ [] → over = false := by
          intro hne
          obtain ⟨c, u, hcu⟩ := List.exists_cons_of_ne_nil hne
          rw [hcu, List.map_cons, List.cons_append] at ho
          have h3 := hok
          rw [← ho, okE_app, Bool.and_eq_true, Bool.false_or, ← hov, okE, Bool.and_eq_true] at h3
          have h4 : rightP (ev1 c) over = !over := rfl
          have h5 := h3.2.1
          rw [h4] at h5
          cases over
          · rfl
          · cases h5
        refine ok_bif (fun h => by rw [h1] at h; simp at h) (fun _ => ?_)
        refine ok_loop (fun s : List Ev × Int => ∃ n : Nat, s.2 = (n : Int) ∧ n ≤ x.l.length ∧ s.1 = out ++ (x.l.take n).map ev1) (fun s => x.l.length - s.2.toNat) ?_ fuel (out, 0) (by simp; omega) ⟨0, rfl, Nat.zero_le _, by simp⟩
        rintro ⟨o, n0⟩ ⟨n, rfl, hn, rfl⟩
        dsimp only
        refine ok_bif (fun h => ?_) (fun h => ok_some ?_)
        rotate_left
        · have hnl : ¬ n < x.l.length := by have := of_decide_eq_false h; omega
          rw [List.take_of_length_le (by omega)]
          exact ⟨by show out ++ _ ++ _ = _; rw [List.append_assoc]; exact ho, by show over = _; rw [eofs_app, eofs_map, Bool.or_false]; exact hov⟩
        have hnl : n < x.l.length := by have := of_decide_eq_true h; omega
        have hv := hno (fun hh => by rw [hh] at hnl; simp at hnl)
        have hix : ix x.l (n : Int) = x.l[n] := by simp [ix, hnl]
        refine ok_chk ⟨by omega, by omega⟩ (ok_bif (fun h => by rw [hv] at h; cases h) (fun _ => ok_chk (by simp only [List.length_append, List.length_map, List.length_take, List.length_cons, List.length_nil]; omega) (ok_chk ⟨by omega, by omega⟩ (ok_some ⟨⟨n + 1, by simp, hnl, ?_⟩, by simp only; omega⟩))))
        show _ ++ _ = _
        rw [List.take_succ_eq_append_getElem hnl, List.map_append, hix, List.append_assoc]; rfl
      · rw [evP_n h1] at ho
        have hx0 := hk x hmem h1
        have hx1 : x.l.length = 0 := by rw [hx0]; rfl
        have hr : rightP (Ev.mk x.k 0) over = true := by
          have h3 := hok
          rw [← ho, okE_app, Bool.and_eq_true, Bool.false_or, ← hov, List.singleton_append, okE, Bool.and_eq_true] at h3
          exact h3.2.1
        have hnx : ∀ o', o' = (over || x.k == 3) → (out ++ [Ev.mk x.k 0]) ++ r.flatMap evP = l ∧ o' = eofs (out ++ [Ev.mk x.k 0]) := fun o' h => ⟨by rw [List.append_assoc]; exact ho, by rw [h, hov, eofs_snoc]⟩
        refine ok_bif (fun _ => ok_bif (fun h => by have := of_decide_eq_true h; omega) (fun _ => ok_bindE (ok_eq (right_eq _ _)) fun y hy => ok_bif (fun h => by rw [hy, hr] at h; cases h) (fun _ => ok_chk (by simp only [List.length_cons, List.length_nil]; omega) (ok_bif (fun hv => ok_some (hnx true (by rw [hv]; rfl))) (fun hv => ok_some (hnx _ (by rw [hv]; rfl))))))) (fun h => absurd (by simpa using h) h1)
    · obtain rfl : i = cs.length := by omega
      rw [List.drop_of_length_le (Nat.le_refl _), List.flatMap_nil, List.append_nil] at ho
      subst ho
      rw [hLe]
      refine ok_cut (fun _ => False) (ok_chk ⟨by omega, by omega⟩ (ok_letE fun x hx => ?_)) fun j hj => hj.elim
      subst hx
      refine ok_bif (fun _ => ok_bif (fun h => ok_some rfl) (fun h => ok_bindE (ok_eq (right_eq _ _)) fun y hy => ok_bif (fun _ => ok_some rfl) (fun hy2 => ?_))) (fun h => absurd (by simpa using h) hc)
      exfalso
      have h0 : c.l = [] := List.length_eq_zero_iff.1 (by have := of_decide_eq_false h; omega)
      have h2 := hbad.resolve_left (fun hne => hne h0)
      rw [hy, hov, h2] at hy2
      cases hy2
theorem alike_bad {fuel : Nat} {cs ds : List Ck} {k : Int} (h : F_join fuel cs = some ([], k, 320)) : F_alike fuel cs ds = some (false, 320) := by
  unfold F_alike
  rw [h, bindE_some]
  rfl
end Go.Ab
set_option linter.unusedSimpArgs false
set_option linter.unusedVariables false
set_option maxRecDepth 100000
namespace Go.Ab
open Go Go.RowKit Go.Fwd Go.Proofs
theorem made_ok2 (fuel : Nat) (l : List UInt8) (en : Int) (hf : 200 < fuel) (he : 0 ≤ en ∧ en < 256) : Ok (fun r => r.length ≤ 200 ∧ GoodS r ∧ (eofs r = true → 0 < en)) (F_made fuel l en) := by
  unfold F_made
  have hm : (sub l 0 (min (l.length : Int) 100)).length = (min (l.length : Int) 100).toNat := by
    have := sub_lenI l (i := 0) (j := min (l.length : Int) 100) ⟨Int.le_refl _, by omega, by omega⟩
    rw [this]; simp
  refine ok_cut (fun r => r.length ≤ 200 ∧ GoodS r ∧ (eofs r = true → 0 < en)) (ok_chk ⟨by omega, by omega, by omega⟩ (ok_loop (fun s : List Ev × Int => ∃ i : Nat, s.2 = (i : Int) ∧ i ≤ 100 ∧ s.1.length ≤ 2 * i ∧ GoodS s.1 ∧ (eofs s.1 = true → 0 < en ∧ en < i)) (fun s => 101 - s.2.toNat) ?_ fuel ([], 0) (by simp; omega) ⟨0, rfl, by omega, by simp, ⟨rfl, fun e h => by simp at h⟩, fun h => by simp [eofs] at h⟩)) fun j hj => ok_some hj
  rintro ⟨a, i0⟩ ⟨i, rfl, hi, hn, hg, he1⟩
  dsimp only at hn hg he1 ⊢
  refine ok_bif (fun hc => ?_) (fun hc => ok_some ⟨by omega, hg, fun h => (he1 h).1⟩)
  have hlt := of_decide_eq_true hc
  have hi2 : i < 100 := by rw [hm] at hlt; omega
  refine ok_cut (fun j : List Ev => j.length ≤ 2 * (i + 1) ∧ GoodS j ∧ (eofs j = true → 0 < en ∧ en ≤ i)) (ok_chk ⟨by omega, hlt⟩ (ok_letE fun x hx => ok_cut (fun j : List Ev => j.length ≤ 2 * i + 1 ∧ GoodS j ∧ (eofs j = true → 0 < en ∧ en ≤ i)) ?_ fun j hj => ?_)) fun j hj => ok_chk ⟨by omega, by omega⟩ (ok_some ⟨⟨i + 1, by simp, hi2, hj.1, hj.2.1, fun h => by have := hj.2.2 h; omega⟩, by simp only; omega⟩)
  · have keep : Ok (cutQ (fun j : List Ev => j.length ≤ 2 * i + 1 ∧ GoodS j ∧ (eofs j = true → 0 < en ∧ en ≤ i)) (cutQ (fun j : List Ev => j.length ≤ 2 * (i + 1) ∧ GoodS j ∧ (eofs j = true → 0 < en ∧ en ≤ i)) (cutQ (fun s' : List Ev × Int => (∃ k : Nat, s'.2 = (k : Int) ∧ k ≤ 100 ∧ s'.1.length ≤ 2 * k ∧ GoodS s'.1 ∧ (eofs s'.1 = true → 0 < en ∧ en < k)) ∧ 101 - s'.2.toNat < 101 - (i : Int).toNat) (cutQ (fun r => r.length ≤ 200 ∧ GoodS r ∧ (eofs r = true → 0 < en)) (fun r => r.length ≤ 200 ∧ GoodS r ∧ (eofs r = true → 0 < en)))))) (some (Sum.inl a)) := ok_some ⟨by omega, hg, fun h => by have := he1 h; omega⟩
    refine ok_bif (fun h => ok_chk ⟨by omega, by omega⟩ (ok_bif (fun h2 => ok_chk (by simp; omega) (ok_some ⟨by simp; omega, ⟨okE_snoc hg.ok ?_, u8s_snoc hg.u8 ⟨⟨by decide, by decide⟩, by decide, by decide⟩⟩, fun _ => ?_⟩)) (fun _ => keep))) (fun _ => keep)
    · have hne : eofs a = false := by
        cases hh : eofs a with
        | false => rfl
        | true => have := he1 hh; have : (i : Int) = en := by simpa using h2
                  omega
      rw [hne]; rfl
    · have : (i : Int) = en := by simpa using h2
      have := of_decide_eq_true h
      omega
  · have tick : Ok (cutQ (fun j : List Ev => j.length ≤ 2 * (i + 1) ∧ GoodS j ∧ (eofs j = true → 0 < en ∧ en ≤ i)) (cutQ (fun s' : List Ev × Int => (∃ k : Nat, s'.2 = (k : Int) ∧ k ≤ 100 ∧ s'.1.length ≤ 2 * k ∧ GoodS s'.1 ∧ (eofs s'.1 = true → 0 < en ∧ en < k)) ∧ 101 - s'.2.toNat < 101 - (i : Int).toNat) (cutQ (fun r => r.length ≤ 200 ∧ GoodS r ∧ (eofs r = true → 0 < en)) (fun r => r.length ≤ 200 ∧ GoodS r ∧ (eofs r = true → 0 < en))))) (chk ((List.length j + List.length [(Ev.mk 2 0)]) * 2 ≤ 140737488355328) (some (Sum.inl (j ++ [(Ev.mk 2 0)])))) :=
      ok_chk (by simp; omega) (ok_some ⟨by simp; omega, ⟨okE_snoc hj.2.1.ok (by cases eofs j <;> rfl), u8s_snoc hj.2.1.u8 ⟨⟨by decide, by decide⟩, by decide, by decide⟩⟩, fun h => hj.2.2 (by rw [eofs_snoc] at h; simpa using h)⟩)
    have byte : ¬ (0 < en ∧ en ≤ i) → Ok (cutQ (fun j : List Ev => j.length ≤ 2 * (i + 1) ∧ GoodS j ∧ (eofs j = true → 0 < en ∧ en ≤ i)) (cutQ (fun s' : List Ev × Int => (∃ k : Nat, s'.2 = (k : Int) ∧ k ≤ 100 ∧ s'.1.length ≤ 2 * k ∧ GoodS s'.1 ∧ (eofs s'.1 = true → 0 < en ∧ en < k)) ∧ 101 - s'.2.toNat < 101 - (i : Int).toNat) (cutQ (fun r => r.length ≤ 200 ∧ GoodS r ∧ (eofs r = true → 0 < en)) (fun r => r.length ≤ 200 ∧ GoodS r ∧ (eofs r = true → 0 < en))))) (chk ((List.length j + List.length [(Ev.mk 1 ((x.toNat : Nat) : Int))]) * 2 ≤ 140737488355328) (some (Sum.inl (j ++ [(Ev.mk 1 ((x.toNat : Nat) : Int))])))) := fun hno => by
      have hne : eofs j = false := by
        cases hh : eofs j with
        | false => rfl
        | true => exact absurd (hj.2.2 hh) hno
      exact ok_chk (by simp; omega) (ok_some ⟨by simp; omega, ⟨okE_snoc hj.2.1.ok (by rw [hne]; rfl), u8s_snoc hj.2.1.u8 ⟨⟨by show (0 : Int) ≤ 1; decide, by show (1 : Int) < 256; decide⟩, u8n_bnd x⟩⟩, fun h => hj.2.2 (by rw [eofs_snoc] at h; simpa using h)⟩)
    refine ok_bif (fun _ => tick) (fun _ => ok_bif (fun h => ok_chk ⟨by omega, by omega⟩ (ok_bif (fun _ => tick) (fun h2 => byte ?_))) (fun h => byte ?_))
    · have := of_decide_eq_false h2; omega
    · have := of_decide_eq_false h; omega
end Go.Ab

