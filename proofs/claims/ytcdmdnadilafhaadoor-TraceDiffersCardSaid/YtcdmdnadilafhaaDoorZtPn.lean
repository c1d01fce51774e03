/-
  TracePairs: plain.
-/
import Derived.Test.YtcdmdnadilafhaaDoorZtW4
import Derived.Test.YtcdmdnadilafhaaDoorZtPm
set_option linter.unusedSimpArgs false
set_option linter.unusedVariables false
namespace Go.Ab
open Go Go.RowKit Go.Fwd Go.Proofs

theorem few_eq (fuel : Nat) (t : Trc) (hf : 101 < fuel) (hm : t.l.length < 2 ^ 63) : ∃ v, F_few fuel t = some v ∧ (v = true → t.l.length ≤ 100) := by
  unfold F_few
  have hlS : (List.length (sub t.l 0 (min (List.length t.l : Int) 101)) : Int) = ((min t.l.length 101 : Nat) : Int) := by
    rw [sub_take]; simp; omega
  refine ex_cutloop (R := fun _ : Int => True) (by omega) (loop_ex (fun i (s : Int × Int) => s.2 = (i : Int)) _ (min t.l.length 101) (fun i s hi hT => ?_) (fun s hT => ?_) (by omega) rfl) (fun n _ => ?_)
  · obtain ⟨n, i'⟩ := s
    simp only at hT
    subst hT
    refine ⟨_, bif_t (by simp only [hlS]; exact decide_eq_true (by omega)) (chk_i (by simp only [hlS]; omega) (letE_s (chk_i (by simp only; omega) rfl))), by simp⟩
  · obtain ⟨n, i'⟩ := s
    simp only at hT
    subst hT
    exact ⟨_, bif_f (by simp only [hlS]; exact decide_eq_false (by omega)) rfl, _, rfl, trivial⟩
  · by_cases h : t.l.length ≤ 100
    · exact ⟨_, bif_t (decide_eq_true (by omega)) rfl, fun _ => h⟩
    · exact ⟨_, bif_f (decide_eq_false (by omega)) rfl, fun h => by cases h⟩
theorem theirs_eq (fuel : Nat) (t : Trc) (hf : t.l.length < fuel) (hm : t.l.length ≤ 1000000000) : F_theirs fuel t = some t := by
  unfold F_theirs
  refine cutE_i t (loopE_i t.l.length (fun i => ((i : Int), Trc.mk (t.l.take i) (Ed.mk t.e.k t.e.c))) ?_ ?_ ?_ hf) rfl
  · simp
  · intro i hi
    refine bif_t (decide_eq_true (by simp only; omega)) (chk_i (by simp only; omega) (letE_s (chk_i ?_ (chk_i (by simp only; omega) ?_))))
    · simp; omega
    · simp only [ix, Int.toNat_natCast]
      have : t.l.take (i + 1) = t.l.take i ++ [t.l.getD i Enc.inh] := by
        rw [List.take_add_one]; simp [hi]
      rw [this]
      rfl
  · refine (bif_f (decide_eq_false (by simp only; omega)) ?_)
    simp
theorem dif_same (a b : Trc) : (difP a b).2 = decide (a ≠ b) := by
  have hl := lcp_le a.l b.l
  have h1 := lcp_pre a.l b.l
  unfold difP
  obtain ⟨al, ae⟩ := a
  obtain ⟨bl, be⟩ := b
  simp only at hl h1 ⊢
  by_cases h : lcp al bl = al.length ∧ lcp al bl = bl.length ∧ ae = be
  · rw [if_pos h]
    obtain ⟨h2, h3, rfl⟩ := h
    have : al = bl := (h1.1 h2).eq_of_length (by omega)
    subst this
    simp
  · rw [if_neg h]
    have hne : Trc.mk al ae ≠ Trc.mk bl be := fun e => by
      cases e
      have := (lcp_pre al al).2 (List.prefix_refl _)
      exact h ⟨this, this, rfl⟩
    simp only [hne, decide_true, ne_eq, not_false_eq_true]
theorem rdiffer_eq (fuel : Nat) (a b : Trc) (h : a.l.length < fuel) (hm : fuel < 2 ^ 60) : F_rdiffer fuel a b = some (difP a b) := by
  have hl := lcp_le a.l b.l
  unfold F_rdiffer
  have hsame : ∀ i : Nat, i < lcp a.l b.l → decide (a.l.getD i Enc.inh ≠ b.l.getD i Enc.inh) = false := fun i hi => decide_eq_false (fun h => h (lcp_same _ _ i hi))
  by_cases hx : lcp a.l b.l = a.l.length ∧ lcp a.l b.l = b.l.length
  · refine cutE_i () (loopE_i (lcp a.l b.l) (fun i => (i : Int)) rfl (fun i hi => cutE_i () (bif_t (decide_eq_true (by omega)) rfl) (bif_f (decide_eq_false (by omega)) (bif_f (decide_eq_false (by omega)) (chk_i (by omega) (letE_s (chk_i (by omega) (letE_s (bif_f (by simp only [ix, Int.toNat_natCast]; exact hsame i hi) (chk_i (by omega) rfl))))))))) ?_ (by omega)) ?_
    · refine cutE_r (Sum.inr (Sum.inl ())) (bif_f (decide_eq_false (by omega)) (bif_f (decide_eq_false (by omega)) rfl)) rfl
    · unfold difP
      by_cases he : a.e = b.e
      · rw [if_pos ⟨hx.1, hx.2, he⟩]
        exact bif_f (decide_eq_false (fun h => h he)) rfl
      · rw [if_neg (fun h => he h.2.2)]
        refine (bif_t (decide_eq_true he) ?_)
        rw [hx.1]
  · have hd : difP a b = ((lcp a.l b.l : Int), true) := by unfold difP; rw [if_neg (fun h => hx ⟨h.1, h.2.1⟩)]
    rw [hd]
    refine cutE_r ((lcp a.l b.l : Int), true) (loopE_i (lcp a.l b.l) (fun i => (i : Int)) rfl (fun i hi => cutE_i () (bif_t (decide_eq_true (by omega)) rfl) (bif_f (decide_eq_false (by omega)) (bif_f (decide_eq_false (by omega)) (chk_i (by omega) (letE_s (chk_i (by omega) (letE_s (bif_f (by simp only [ix, Int.toNat_natCast]; exact hsame i hi) (chk_i (by omega) rfl))))))))) ?_ (by omega)) rfl
    refine cutE_i () ?_ ?_
    · by_cases h1 : lcp a.l b.l < a.l.length
      · exact bif_t (decide_eq_true (by omega)) rfl
      · exact bif_f (decide_eq_false (by omega)) (bif_t (decide_eq_true (by omega)) rfl)
    · by_cases h1 : lcp a.l b.l < a.l.length
      · by_cases h2 : lcp a.l b.l < b.l.length
        · refine bif_f (decide_eq_false (by omega)) (bif_f (decide_eq_false (by omega)) (chk_i (by omega) (letE_s (chk_i (by omega) (letE_s (bif_t ?_ rfl))))))
          simp only [ix, Int.toNat_natCast]
          exact decide_eq_true (lcp_diff _ _ h1 h2)
        · exact bif_f (decide_eq_false (by omega)) (bif_t (decide_eq_true (by omega)) rfl)
      · exact bif_t (decide_eq_true (by omega)) rfl
theorem rsame_eq (fuel : Nat) (a b : Trc) (h : a.l.length < fuel) (hm : fuel < 2 ^ 60) : F_rsame fuel a b = some (decide (a = b)) := by
  unfold F_rsame
  refine bindE_i _ (rdiffer_eq fuel a b h hm) ?_
  rw [dif_same]
  by_cases e : a = b <;> simp [e]
theorem rgoes_eq (fuel : Nat) (a b : Trc) (h : a.l.length < fuel) (hm : fuel < 2 ^ 60) : F_rgoes fuel a b = some (goesP a b) := by
  have hl := lcp_le a.l b.l
  have hp := lcp_pre a.l b.l
  unfold F_rgoes
  refine bindE_i _ (rsame_eq fuel a b h hm) ?_
  unfold goesP
  by_cases e : a = b
  · rw [decide_eq_true e]; rfl
  · rw [decide_eq_false e]
    refine bif_f rfl ?_
    obtain ⟨al, ak, ac⟩ := a
    simp only at *
    by_cases hk : ak = 1
    · subst hk
      refine bif_f rfl ?_
      by_cases hc : ac = 0
      · subst hc
        refine bif_f rfl ?_
        by_cases hlen : al.length > b.l.length
        · refine (bif_t (decide_eq_true (by omega)) ?_)
          have : ¬ al <+: b.l := fun hpre => by have := hpre.length_le; omega
          simp [this]
        · refine bif_f (decide_eq_false (by omega)) ?_
          by_cases hpre : lcp al b.l = al.length
          · have : al <+: b.l := hp.1 hpre
            simp only [this, decide_true, Bool.false_or, Bool.and_self]
            refine cutE_i () (loopE_i (lcp al b.l) (fun i => (i : Int)) rfl ?_ (bif_f (decide_eq_false (by omega)) rfl) (by omega)) rfl
            intro i hi
            refine bif_t (decide_eq_true (by omega)) (chk_i (by omega) (letE_s (chk_i (by omega) (letE_s (bif_f ?_ (chk_i (by omega) rfl))))))
            simp only [ix, Int.toNat_natCast]
            exact decide_eq_false (fun h => h (lcp_same _ _ i hi))
          · have : ¬ al <+: b.l := fun h => hpre (hp.2 h)
            simp only [this, decide_false, Bool.and_false, Bool.or_self]
            refine cutE_r false (loopE_i (lcp al b.l) (fun i => (i : Int)) rfl ?_ ?_ (by omega)) rfl
            · intro i hi
              refine bif_t (decide_eq_true (by omega)) (chk_i (by omega) (letE_s (chk_i (by omega) (letE_s (bif_f ?_ (chk_i (by omega) rfl))))))
              simp only [ix, Int.toNat_natCast]
              exact decide_eq_false (fun h => h (lcp_same _ _ i hi))
            · refine bif_t (decide_eq_true (by omega)) (chk_i (by omega) (letE_s (chk_i (by omega) (letE_s (bif_t ?_ rfl)))))
              simp only [ix, Int.toNat_natCast]
              exact decide_eq_true (lcp_diff _ _ (by omega) (by omega))
      · refine (bif_t (by simpa using hc) ?_)
        have : ¬ (Ed.mk 1 ac = ⟨1, 0⟩) := fun e => hc (Ed.mk.inj e).2
        simp [this]
    · refine (bif_t (by simpa using hk) ?_)
      have : ¬ (Ed.mk ak ac = ⟨1, 0⟩) := fun e => hk (Ed.mk.inj e).1
      simp [this]
theorem pair_eq (fuel : Nat) (a b : Trc) (h1 : a.l.length < fuel) (h2 : b.l.length < fuel) (hm : fuel < 1000000) : F_pair fuel a b = some true := by
  have hm' : fuel < 2 ^ 60 := by omega
  unfold F_pair
  refine bindE_i _ (theirs_eq fuel a h1 (by omega)) (bindE_i _ (theirs_eq fuel b h2 (by omega)) (bindE_i _ (differ_eq fuel a b h1 hm') (bindE_i _ (rdiffer_eq fuel a b h1 hm') (bif_t (beq_self_eq_true _) (bif_t (beq_self_eq_true _) ?_)))))
  refine bindE_i _ (same_eq fuel a b h1 hm') (bindE_i _ (rsame_eq fuel a b h1 hm') (bif_t (beq_self_eq_true _) ?_))
  refine bindE_i _ (goes_eq fuel a b h1 hm') (bindE_i _ (rgoes_eq fuel a b h1 hm') ?_)
  simp
theorem tracepairs_eq (a b : Trc) (k : Int) (ha : a.l.length < 2 ^ 63) (hb : b.l.length < 2 ^ 63) (hk : 0 ≤ k ∧ k < 256) : F_tracepairs 200 a b k = some true := by
  have fin : (chk (0 ≤ k ∧ k < 256) (letE (nameE k) (fun x2 => (chk (0 ≤ k ∧ k < 256) (letE (nameE k) (fun x3 => (bif (x2 == x3) then (some true) else (some false))))))) : Option Bool) = some true :=
    chk_i hk (letE_s (chk_i hk (letE_s (bif_t (beq_self_eq_true _) rfl))))
  unfold F_tracepairs
  obtain ⟨u, hu, hu'⟩ := few_eq 200 a (by omega) ha
  obtain ⟨v, hv, hv'⟩ := few_eq 200 b (by omega) hb
  refine bindE_i _ hu ?_
  cases u with
  | false => exact fin
  | true =>
    refine bif_f rfl (bindE_i _ hv ?_)
    cases v with
    | false => exact fin
    | true =>
      have h1 := hu' rfl
      have h2 := hv' rfl
      refine bif_f rfl (bindE_i _ (pair_eq 200 a b (by omega) (by omega) (by omega)) (bif_t rfl (bindE_i _ (pair_eq 200 b a (by omega) (by omega) (by omega)) (bif_t rfl fin))))
end Go.Ab
