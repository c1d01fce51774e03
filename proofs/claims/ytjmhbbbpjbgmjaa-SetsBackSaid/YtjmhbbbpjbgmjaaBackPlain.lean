/-
  A set is its bytes and its spans: plain laws.
-/
import Derived.Test.YtjmhbbbpjbgmjaaAlg
import Derived.Test.YtjmhbbbpjbgmjaaFrom
set_option linter.unusedSimpArgs false
set_option linter.unusedVariables false
namespace Go.Proofs.Ytjmhbbbpjbgmjaa
open Go.RowKit Go.Fwd Go.Shelf Go.Proofs

theorem mem_bytesTo {S : BS} {k j : Nat} : j ∈ bytesTo S k ↔ j < k ∧ S.getLsbD j = true := by simp [bytesTo]
theorem back_of (S : BS) : ofS (bytesOf S) = S := by
  refine bsExt fun j hj => ?_
  rw [ofS_get, Bool.eq_iff_iff]
  simp only [hj, decide_true, Bool.true_and, List.contains_iff_mem, bytesOf, mem_bytesTo, true_and]
theorem rangeS_get (lo hi j : Nat) : (rangeS lo hi).getLsbD j = (decide (j < 256) && decide (lo ≤ j ∧ j ≤ hi)) := setOf_get _ _
theorem bytesTo_sorted (S : BS) (k : Nat) : (bytesTo S k).Pairwise (· < ·) := List.Pairwise.filter _ List.pairwise_lt_range
/-- In a strictly rising list: those above the t-th element are those behind it. -/
theorem filter_above : ∀ (l : List Nat) (t c : Nat), l.Pairwise (· < ·) → l[t]? = some c → l.filter (fun x => decide (c < x)) = l.drop (t + 1)
  | [], t, c, _, h => by simp at h
  | x :: l, 0, c, hp, h => by
    obtain rfl : x = c := by simpa using h
    have := List.pairwise_cons.1 hp
    rw [List.filter_cons, if_neg (by simp), List.drop_succ_cons, List.drop_zero]
    exact List.filter_eq_self.2 fun y hy => by simpa using this.1 y hy
  | x :: l, t + 1, c, hp, h => by
    have hp' := List.pairwise_cons.1 hp
    have h' : l[t]? = some c := by simpa using h
    have hx : x < c := hp'.1 c (List.mem_of_getElem? h')
    rw [List.filter_cons, if_neg (by simp; omega), List.drop_succ_cons]
    exact filter_above l t c hp'.2 h'
theorem back_next (S : BS) (t c : Nat) (h : (bytesOf S)[t]? = some c) : (if c = 255 then none else firstOf (S &&& rangeS (c + 1) 255)) = (bytesOf S)[t + 1]? := by
  have hc : c < 256 := (mem_bytesTo.1 (List.mem_of_getElem? h)).1
  have key : bytesOf (S &&& rangeS (c + 1) 255) = (bytesOf S).filter (fun x => decide (c < x)) := by
    unfold bytesOf bytesTo
    rw [List.filter_filter]
    refine List.filter_congr fun j hj => ?_
    have hj' : j < 256 := List.mem_range.1 hj
    rw [BitVec.getLsbD_and, rangeS_get, Bool.eq_iff_iff]
    simp only [hj', decide_true, Bool.true_and, Bool.and_eq_true, decide_eq_true_eq]
    constructor
    · rintro ⟨h1, h2, _⟩; exact ⟨by omega, h1⟩
    · rintro ⟨h1, h2⟩; exact ⟨h2, by omega, by omega⟩
  rw [filter_above (bytesOf S) t c (bytesTo_sorted S 256) h] at key
  by_cases h255 : c = 255
  · rw [if_pos h255]
    symm
    rw [List.getElem?_eq_none_iff]
    rcases Nat.lt_or_ge (t + 1) (bytesOf S).length with hlt | hge
    · exfalso
      have hm := List.getElem_mem hlt
      have h1 := (mem_bytesTo.1 hm).1
      have hp := List.pairwise_iff_getElem.1 (bytesTo_sorted S 256) t (t + 1) (by unfold bytesOf at hlt; omega) hlt (by omega)
      have ht : (bytesTo S 256)[t]'(by unfold bytesOf at hlt; omega) = c := by
        have := List.getElem?_eq_some_iff.1 h; exact this.2
      rw [ht] at hp
      unfold bytesOf at h1
      omega
    · exact hge
  · rw [if_neg h255]; unfold firstOf; rw [key, List.head?_drop]

/-- What the spans of a set are. -/
structure SpansOk (S : BS) (k : Nat) (L : List (Nat × Nat)) : Prop where
  bits : ∀ j, (fromS L).getLsbD j = (decide (j < k) && S.getLsbD j)
  each : ∀ p ∈ L, p.1 ≤ p.2 ∧ p.2 < k
  apart : L.Pairwise fun p q => p.2 + 1 < q.1
  count : (L.map fun p => p.2 - p.1 + 1).sum = (bytesTo S k).length
theorem fromS_one (A : List (Nat × Nat)) (p : Nat × Nat) : fromS (A ++ [p]) = fromS A ||| rangeS p.1 p.2 := fromS_snoc A p
theorem spans_ok (S : BS) : ∀ k, k ≤ 256 → SpansOk S k (spansB (bytesTo S k))
  | 0, _ => ⟨fun j => by simp [bytesTo, spansB, fromS], fun p hp => by simp [bytesTo, spansB] at hp, by simp [bytesTo, spansB], by simp [bytesTo, spansB]⟩
  | k + 1, hk => by
    have ih := spans_ok S k (by omega)
    rw [bytesTo_succ]
    by_cases hb : S.getLsbD k = true
    · rw [if_pos hb, spansB_snoc]
      have hcount : (bytesTo S (k + 1)).length = (bytesTo S k).length + 1 := by rw [bytesTo_succ, if_pos hb]; simp
      generalize spansB (bytesTo S k) = L at *
      rcases List.eq_nil_or_concat L with rfl | ⟨A, ⟨lo, hi⟩, rfl⟩
      · rw [addB_nil]
        refine ⟨fun j => ?_, fun p hp => ?_, by simp, ?_⟩
        · have h0 := ih.bits j
          have : ([(k, k)] : List (Nat × Nat)) = [] ++ [(k, k)] := rfl
          rw [this, fromS_one, BitVec.getLsbD_or, h0, rangeS_get, Bool.eq_iff_iff]
          simp only [Bool.or_eq_true, Bool.and_eq_true, decide_eq_true_eq]
          constructor
          · rintro (⟨h1, h2⟩ | ⟨h1, h2, h3⟩)
            · exact ⟨by omega, h2⟩
            · obtain rfl : j = k := by omega
              exact ⟨by omega, hb⟩
          · rintro ⟨h1, h2⟩
            by_cases hjk : j = k
            · exact .inr ⟨by omega, by omega, by omega⟩
            · exact .inl ⟨by omega, h2⟩
        · simp at hp; subst hp; exact ⟨Nat.le_refl _, by simp⟩
        · rw [hcount, ← ih.count]; simp
      · rw [List.concat_eq_append] at ih ⊢
        have hl := ih.each (lo, hi) (by simp)
        simp only at hl
        by_cases hh : hi = (k + 255) % 256
        · rw [addB_hit _ _ _ _ hh]
          have hhi : hi + 1 = k := by omega
          refine ⟨fun j => ?_, fun p hp => ?_, ?_, ?_⟩
          · have h0 := ih.bits j
            rw [fromS_one, BitVec.getLsbD_or, rangeS_get] at h0
            rw [fromS_one, BitVec.getLsbD_or, rangeS_get]
            rw [Bool.eq_iff_iff] at h0 ⊢
            simp only [Bool.or_eq_true, Bool.and_eq_true, decide_eq_true_eq] at h0 ⊢
            constructor
            · rintro (h1 | ⟨h1, h2, h3⟩)
              · have := h0.1 (.inl h1); exact ⟨by omega, this.2⟩
              · by_cases hjk : j = k
                · subst hjk; exact ⟨by omega, hb⟩
                · have := h0.1 (.inr ⟨h1, h2, by omega⟩); exact ⟨by omega, this.2⟩
            · rintro ⟨h1, h2⟩
              by_cases hjk : j = k
              · exact .inr ⟨by omega, by omega, by omega⟩
              · rcases h0.2 ⟨by omega, h2⟩ with h | ⟨h3, h4, h5⟩
                · exact .inl h
                · exact .inr ⟨h3, h4, by omega⟩
          · rcases List.mem_append.1 hp with hp | hp
            · have := ih.each p (by simp [hp]); exact ⟨this.1, by omega⟩
            · obtain rfl : p = (lo, k) := by simpa using hp
              exact ⟨show lo ≤ k by omega, Nat.lt_succ_self k⟩
          · have := List.pairwise_append.1 ih.apart
            exact List.pairwise_append.2 ⟨this.1, by simp, fun a ha b hb' => by simp at hb'; subst hb'; exact this.2.2 a ha (lo, hi) (by simp)⟩
          · have := ih.count
            rw [hcount]
            simp at this ⊢; omega
        · rw [addB_miss _ _ _ _ hh]
          have hhi : hi + 1 < k := by omega
          refine ⟨fun j => ?_, fun p hp => ?_, ?_, ?_⟩
          · have h0 := ih.bits j
            rw [fromS_one, BitVec.getLsbD_or, h0, rangeS_get, Bool.eq_iff_iff]
            simp only [Bool.or_eq_true, Bool.and_eq_true, decide_eq_true_eq]
            constructor
            · rintro (⟨h1, h2⟩ | ⟨h1, h2, h3⟩)
              · exact ⟨by omega, h2⟩
              · obtain rfl : j = k := by omega
                exact ⟨by omega, hb⟩
            · rintro ⟨h1, h2⟩
              by_cases hjk : j = k
              · exact .inr ⟨by omega, by omega, by omega⟩
              · exact .inl ⟨by omega, h2⟩
          · rcases List.mem_append.1 hp with hp | hp
            · have := ih.each p hp; exact ⟨this.1, by omega⟩
            · simp at hp; subst hp; exact ⟨Nat.le_refl _, by simp⟩
          · refine List.pairwise_append.2 ⟨ih.apart, by simp, fun a ha b hb' => ?_⟩
            simp at hb'; subst hb'
            rcases List.mem_append.1 ha with ha | ha
            · have := (List.pairwise_append.1 ih.apart).2.2 a ha (lo, hi) (by simp)
              simp at this ⊢; omega
            · simp at ha; subst ha; simp; omega
          · have := ih.count
            rw [hcount]
            simp at this ⊢; omega
    · have hbf : S.getLsbD k = false := by simpa using hb
      rw [if_neg hb, List.append_nil]
      refine ⟨fun j => ?_, fun p hp => ?_, ih.apart, ?_⟩
      · rw [ih.bits j, Bool.eq_iff_iff]
        simp only [Bool.and_eq_true, decide_eq_true_eq]
        constructor
        · rintro ⟨h1, h2⟩; exact ⟨by omega, h2⟩
        · rintro ⟨h1, h2⟩
          by_cases hjk : j = k
          · subst hjk; rw [hbf] at h2; cases h2
          · exact ⟨by omega, h2⟩
      · have := ih.each p hp; exact ⟨this.1, by omega⟩
      · rw [ih.count, bytesTo_succ, if_neg hb, List.append_nil]
theorem back_spans (S : BS) : SpansOk S 256 (spansOf S) := spans_ok S 256 (Nat.le_refl _)
theorem back_from (S : BS) : fromS (spansOf S) = S := bsExt fun j hj => by rw [(back_spans S).bits]; simp [hj]
end Go.Proofs.Ytjmhbbbpjbgmjaa
