/-
  The order of sets: plain laws.
-/
import Derived.Test.YtjmhbbbpjbgmjaaCompare
set_option linter.unusedSimpArgs false
set_option linter.unusedVariables false
namespace Go.Proofs.Ytjmhbbbpjbgmjaa

def odif (A B : BS) : BS := (A &&& ~~~B) ||| (B &&& ~~~A)
theorem odif_get (A B : BS) (j : Nat) (hj : j < 256) : (odif A B).getLsbD j = (A.getLsbD j != B.getLsbD j) := by
  simp only [odif, BitVec.getLsbD_or, BitVec.getLsbD_and, BitVec.getLsbD_not, hj, decide_true, Bool.true_and]
  cases A.getLsbD j <;> cases B.getLsbD j <;> rfl
theorem ofirst_none {S : BS} (h : firstOf S = none) : ∀ j, j < 256 → S.getLsbD j = false := by
  intro j hj
  cases hb : S.getLsbD j
  · rfl
  · have : j ∈ bytesOf S := by simp [bytesOf, bytesTo, hj, hb]
    rw [firstOf, List.head?_eq_none_iff] at h
    rw [h] at this; cases this
theorem ofirst_some {S : BS} {c : Nat} (h : firstOf S = some c) : c < 256 ∧ S.getLsbD c = true ∧ ∀ j, j < c → S.getLsbD j = false := by
  have hl := firstOf_lt h
  refine ⟨hl.1, hl.2, fun j hj => ?_⟩
  cases hb : S.getLsbD j
  · rfl
  · exfalso
    have hm : j ∈ bytesOf S := by simp [bytesOf, bytesTo, hb]; omega
    have hs : (bytesOf S).Pairwise (· < ·) := by
      unfold bytesOf bytesTo
      exact List.Pairwise.filter _ List.pairwise_lt_range
    unfold firstOf at h
    cases hq : bytesOf S with
    | nil => rw [hq] at hm; cases hm
    | cons y r =>
      rw [hq] at h hm hs
      simp only [List.head?_cons, Option.some.injEq] at h
      subst h
      rcases List.mem_cons.1 hm with rfl | hm
      · omega
      · have := (List.pairwise_cons.1 hs).1 j hm; omega
/-- The first difference. -/
def OFst (A B : BS) (c : Nat) : Prop := c < 256 ∧ A.getLsbD c = true ∧ B.getLsbD c = false ∧ ∀ j, j < c → A.getLsbD j = B.getLsbD j
theorem ocmp_cases (A B : BS) : (cmpS A B = 0 ∧ A = B) ∨ (cmpS A B = -1 ∧ ∃ c, OFst A B c) ∨ (cmpS A B = 1 ∧ ∃ c, OFst B A c) := by
  have e : cmpS A B = match firstOf (odif A B) with | none => 0 | some c => if A.getLsbD c then -1 else 1 := rfl
  rw [e]
  cases h : firstOf (odif A B) with
  | none =>
    refine .inl ⟨rfl, BitVec.eq_of_getLsbD_eq fun j hj => ?_⟩
    have := ofirst_none h j hj
    rw [odif_get A B j hj] at this
    simpa using this
  | some c =>
    obtain ⟨h1, h2, h3⟩ := ofirst_some h
    rw [odif_get A B c h1] at h2
    have h4 : ∀ j, j < c → A.getLsbD j = B.getLsbD j := fun j hj => by
      have := h3 j hj
      rw [odif_get A B j (by omega)] at this
      simpa using this
    cases ha : A.getLsbD c
    · refine .inr (.inr ⟨by simp [ha], c, h1, ?_, ha, fun j hj => (h4 j hj).symm⟩)
      rw [ha] at h2; simpa using h2
    · refine .inr (.inl ⟨by simp [ha], c, h1, ha, ?_, h4⟩)
      rw [ha] at h2; simpa using h2
theorem ofst_not {A B : BS} {c d : Nat} (h : OFst A B c) (k : OFst B A d) : False := by
  obtain ⟨h1, h2, h3, h4⟩ := h
  obtain ⟨k1, k2, k3, k4⟩ := k
  rcases Nat.lt_trichotomy c d with hl | he | hl
  · have := k4 c hl; rw [h2, h3] at this; cases this
  · subst he; rw [h2] at k3; cases k3
  · have := h4 d hl; rw [k2, k3] at this; cases this
theorem ofst_ne {A : BS} {c : Nat} (h : OFst A A c) : False := by
  obtain ⟨_, h2, h3, _⟩ := h
  rw [h2] at h3; cases h3
theorem ofst_trans {A B C : BS} {c d : Nat} (h : OFst A B c) (k : OFst B C d) : ∃ e, OFst A C e := by
  obtain ⟨h1, h2, h3, h4⟩ := h
  obtain ⟨k1, k2, k3, k4⟩ := k
  rcases Nat.lt_trichotomy c d with hl | he | hl
  · exact ⟨c, h1, h2, by rw [← k4 c hl]; exact h3, fun j hj => (h4 j hj).trans (k4 j (by omega))⟩
  · subst he; rw [k2] at h3; cases h3
  · exact ⟨d, k1, by rw [h4 d hl]; exact k2, k3, fun j hj => (h4 j (by omega)).trans (k4 j hj)⟩
theorem ocmp_self (A : BS) : cmpS A A = 0 := by
  rcases ocmp_cases A A with ⟨h, _⟩ | ⟨_, c, h⟩ | ⟨_, c, h⟩
  · exact h
  · exact (ofst_ne h).elim
  · exact (ofst_ne h).elim
theorem ocmp_neg (A B : BS) : cmpS B A = - cmpS A B := by
  rcases ocmp_cases A B with ⟨h, rfl⟩ | ⟨h, c, hc⟩ | ⟨h, c, hc⟩
  · rw [h]; rfl
  · rcases ocmp_cases B A with ⟨k, rfl⟩ | ⟨k, d, hd⟩ | ⟨k, d, hd⟩
    · exact (ofst_ne hc).elim
    · exact (ofst_not hc hd).elim
    · rw [h, k]; rfl
  · rcases ocmp_cases B A with ⟨k, rfl⟩ | ⟨k, d, hd⟩ | ⟨k, d, hd⟩
    · exact (ofst_ne hc).elim
    · rw [h, k]
    · exact (ofst_not hc hd).elim
theorem ocmp_zero (A B : BS) : (cmpS A B = 0) ↔ A = B := by
  constructor
  · intro h
    rcases ocmp_cases A B with ⟨_, e⟩ | ⟨k, _⟩ | ⟨k, _⟩
    · exact e
    · rw [h] at k; cases k
    · rw [h] at k; cases k
  · rintro rfl; exact ocmp_self A
theorem ocmp_trans (A B C : BS) (h : cmpS A B ≤ 0) (k : cmpS B C ≤ 0) : cmpS A C ≤ 0 := by
  rcases ocmp_cases A B with ⟨_, rfl⟩ | ⟨_, c, hc⟩ | ⟨e, _⟩
  · exact k
  · rcases ocmp_cases B C with ⟨_, rfl⟩ | ⟨_, d, hd⟩ | ⟨e, _⟩
    · exact h
    · obtain ⟨f, hf⟩ := ofst_trans hc hd
      rcases ocmp_cases A C with ⟨e, _⟩ | ⟨e, _⟩ | ⟨_, g, hg⟩
      · rw [e]; decide
      · rw [e]; decide
      · exact (ofst_not hf hg).elim
    · rw [e] at k; exact absurd k (by decide)
  · rw [e] at h; exact absurd h (by decide)
theorem ocmp_less (A : BS) (x : Nat) (hx : x < 256) : cmpS (A &&& ~~~ofS [x]) A = if A.getLsbD x then 1 else 0 := by
  have hg : ∀ j, j < 256 → (A &&& ~~~ofS [x]).getLsbD j = (A.getLsbD j && decide (j ≠ x)) := fun j hj => by
    simp only [BitVec.getLsbD_and, BitVec.getLsbD_not, hj, decide_true, Bool.true_and]
    rw [show (ofS [x]).getLsbD j = (decide (j < 256) && [x].contains j) from setOf_get _ _]
    by_cases e : j = x <;> simp [e, hj, hx]
  cases h : A.getLsbD x
  · have : A &&& ~~~ofS [x] = A := BitVec.eq_of_getLsbD_eq fun j hj => by
      rw [hg j hj]
      by_cases e : j = x
      · subst e; rw [h]; rfl
      · simp [e]
    rw [this, ocmp_self]; rfl
  · have hc : OFst A (A &&& ~~~ofS [x]) x := ⟨hx, h, by rw [hg x hx]; simp, fun j hj => by rw [hg j (by omega)]; simp [Nat.ne_of_lt hj]⟩
    rcases ocmp_cases (A &&& ~~~ofS [x]) A with ⟨_, e⟩ | ⟨_, c, hd⟩ | ⟨e, _⟩
    · rw [e] at hc; exact (ofst_ne hc).elim
    · exact (ofst_not hc hd).elim
    · rw [e]; rfl
theorem ocmp_bounds (A B : BS) : -1 ≤ cmpS A B ∧ cmpS A B ≤ 1 := by
  rcases ocmp_cases A B with ⟨e, _⟩ | ⟨e, _⟩ | ⟨e, _⟩ <;> rw [e] <;> decide
end Go.Proofs.Ytjmhbbbpjbgmjaa
