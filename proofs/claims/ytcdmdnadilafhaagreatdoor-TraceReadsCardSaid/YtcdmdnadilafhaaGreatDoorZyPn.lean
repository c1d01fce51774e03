/-
  TracePairs: plain.
-/
import Derived.Test.YtcdmdnadilafhaaGreatDoorZyW4
import Derived.Test.YtcdmdnadilafhaaGreatDoorZyPc
set_option linter.unusedSimpArgs false
set_option linter.unusedVariables false
namespace Go.Ab
open Go Go.RowKit Go.Fwd Go.Proofs
theorem theirs_eq (fuel : Nat) (t : Trc) (hf : t.l.length < fuel) (hm : t.l.length ≤ 1000000000) : F_theirs fuel t = some t := by
  unfold F_theirs
  refine cutE_i t (loopE_i t.l.length (fun i => ((i : Int), Trc.mk (t.l.take i) (Ed.mk t.e.k t.e.c))) ?_ ?_ ?_ hf) rfl
  · simp
  · intro i hi
    refine bif_t (decide_eq_true (by simp only; omega)) (chk_i (by simp only; omega) (letE_s (chk_i ?_ (chk_i (by simp only; omega) ?_))))
    · simp; omega
    · simp only [ix, Int.toNat_natCast]
      have : t.l.take (i + 1) = t.l.take i ++ [t.l.getD i Enc.inh] := by
        rw [List.take_add_one]; simp [hi]
      rw [this]
      rfl
  · refine (bif_f (decide_eq_false (by simp only; omega)) ?_)
    simp
theorem dif_same (a b : Trc) : (difP a b).2 = decide (a ≠ b) := by
  have hl := lcp_le a.l b.l
  have h1 := lcp_pre a.l b.l
  unfold difP
  obtain ⟨al, ae⟩ := a
  obtain ⟨bl, be⟩ := b
  simp only at hl h1 ⊢
  by_cases h : lcp al bl = al.length ∧ lcp al bl = bl.length ∧ ae = be
  · rw [if_pos h]
    obtain ⟨h2, h3, rfl⟩ := h
    have : al = bl := (h1.1 h2).eq_of_length (by omega)
    subst this
    simp
  · rw [if_neg h]
    have hne : Trc.mk al ae ≠ Trc.mk bl be := fun e => by
      cases e
      have := (lcp_pre al al).2 (List.prefix_refl _)
      exact h ⟨this, this, rfl⟩
    simp only [hne, decide_true, ne_eq, not_false_eq_true]
theorem rdiffer_eq (fuel : Nat) (a b : Trc) (h : a.l.length < fuel) (hm : fuel < 2 ^ 60) : F_rdiffer fuel a b = some (difP a b) := by
  have hl := lcp_le a.l b.l
  unfold F_rdiffer
  have hsame : ∀ i : Nat, i < lcp a.l b.l → decide (a.l.getD i Enc.inh ≠ b.l.getD i Enc.inh) = false := fun i hi => decide_eq_false (fun h => h (lcp_same _ _ i hi))
  by_cases hx : lcp a.l b.l = a.l.length ∧ lcp a.l b.l = b.l.length
  · refine cutE_i () (loopE_i (lcp a.l b.l) (fun i => (i : Int)) rfl (fun i hi => cutE_i () (bif_t (decide_eq_true (by omega)) rfl) (bif_f (decide_eq_false (by omega)) (bif_f (decide_eq_false (by omega)) (chk_i (by omega) (letE_s (chk_i (by omega) (letE_s (bif_f (by simp only [ix, Int.toNat_natCast]; exact hsame i hi) (chk_i (by omega) rfl))))))))) ?_ (by omega)) ?_
    · refine cutE_r (Sum.inr (Sum.inl ())) (bif_f (decide_eq_false (by omega)) (bif_f (decide_eq_false (by omega)) rfl)) rfl
    · unfold difP
      by_cases he : a.e = b.e
      · rw [if_pos ⟨hx.1, hx.2, he⟩]
        exact bif_f (decide_eq_false (fun h => h he)) rfl
      · rw [if_neg (fun h => he h.2.2)]
        refine (bif_t (decide_eq_true he) ?_)
        rw [hx.1]
  · have hd : difP a b = ((lcp a.l b.l : Int), true) := by unfold difP; rw [if_neg (fun h => hx ⟨h.1, h.2.1⟩)]
    rw [hd]
    refine cutE_r ((lcp a.l b.l : Int), true) (loopE_i (lcp a.l b.l) (fun i => (i : Int)) rfl (fun i hi => cutE_i () (bif_t (decide_eq_true (by omega)) rfl) (bif_f (decide_eq_false (by omega)) (bif_f (decide_eq_false (by omega)) (chk_i (by omega) (letE_s (chk_i (by omega) (letE_s (bif_f (by simp only [ix, Int.toNat_natCast]; exact hsame i hi) (chk_i (by omega) rfl))))))))) ?_ (by omega)) rfl
    refine cutE_i () ?_ ?_
    · by_cases h1 : lcp a.l b.l < a.l.length
      · exact bif_t (decide_eq_true (by omega)) rfl
      · exact bif_f (decide_eq_false (by omega)) (bif_t (decide_eq_true (by omega)) rfl)
    · by_cases h1 : lcp a.l b.l < a.l.length
      · by_cases h2 : lcp a.l b.l < b.l.length
        · refine bif_f (decide_eq_false (by omega)) (bif_f (decide_eq_false (by omega)) (chk_i (by omega) (letE_s (chk_i (by omega) (letE_s (bif_t ?_ rfl))))))
          simp only [ix, Int.toNat_natCast]
          exact decide_eq_true (lcp_diff _ _ h1 h2)
        · exact bif_f (decide_eq_false (by omega)) (bif_t (decide_eq_true (by omega)) rfl)
      · exact bif_t (decide_eq_true (by omega)) rfl
theorem rsame_eq (fuel : Nat) (a b : Trc) (h : a.l.length < fuel) (hm : fuel < 2 ^ 60) : F_rsame fuel a b = some (decide (a = b)) := by
  unfold F_rsame
  refine bindE_i _ (rdiffer_eq fuel a b h hm) ?_
  rw [dif_same]
  by_cases e : a = b <;> simp [e]
end Go.Ab

