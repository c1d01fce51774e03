/-
  SetsTells: the plain law.
-/
import Derived.Test.YtjmhbbbpjbgmjaaZseTq
import Derived.Test.YtjmhbbbpjbgmjaaZseTy
set_option linter.unusedSimpArgs false
set_option linter.unusedVariables false
namespace Go.Ab
open Go Go.RowKit Go.Fwd Go.Proofs Go.Proofs.Ytjmhbbbpjbgmjaa
theorem letE_s {α β : Type} {e : α} {k : α → Option β} {r : Option β} (h : k e = r) : letE e k = r := h
theorem u8of_nat {x : Int} (h : 0 ≤ x ∧ x < 256) : (u8of x).toNat = x.toNat := by have := u8c h; omega
theorem ofS_same {l m : List Nat} (h : ∀ j, l.contains j = m.contains j) : ofS l = ofS m := by unfold ofS; congr 1; funext j; rw [h]
theorem bytes_pos (s : BS) : ((bytesOf s).length = 0) ↔ s = 0#256 := by
  rw [List.length_eq_zero_iff]
  constructor
  · intro h
    rcases first_spec s with ⟨c, h1, _⟩ | ⟨_, h4⟩
    · rw [firstOf, h] at h1; cases h1
    · exact BitVec.eq_of_getLsbD_eq fun i _ => by rw [h4]; simp
  · rintro rfl; simp [bytesOf, bytesTo]
theorem nx_first (a : BS) (o : Option Nat) : (o.isSome == decide (nx o ≥ 0)) = true ∧ (o.isSome = true → optC o = nx o) ∧ (o.isSome = false → optC o = 0) ∧ (∀ k, o = some k → k < 256 → -9223372036854775808 ≤ optC o ∧ optC o < 9223372036854775808) := by
  cases o with
  | none => simp [nx, optC]
  | some k => simp [nx, optC]; omega
theorem spanLen (a : BS) : (spansOf a).length ≤ 256 := by
  have h1 := spansB_len (bytesOf a)
  have h2 := bytesTo_len a 256
  unfold spansOf bytesOf at *; omega
theorem flat_get : ∀ (L : List (Nat × Nat)) (i : Nat) (h : i < L.length), (flat L)[2 * i]? = some (L[i].1 : Int) ∧ (flat L)[2 * i + 1]? = some (L[i].2 : Int)
  | [], i, h => by simp at h
  | p :: L, 0, h => by simp [flat]
  | p :: L, i + 1, h => by
    have := flat_get L i (by simpa using h)
    simp only [flat, List.flatMap_cons] at this ⊢
    rw [show 2 * (i + 1) = 2 * i + 2 by omega, show 2 * i + 2 + 1 = 2 * i + 1 + 2 by omega]
    simpa using this
theorem next_spec (a : BS) (c : Nat) (hc : c < 256) : (∃ k, nextO a c = some k ∧ c + 1 ≤ k ∧ k < 256 ∧ a.getLsbD k = true ∧ ∀ j, c + 1 ≤ j → j < k → a.getLsbD j = false) ∨ (nextO a c = none ∧ ∀ j, c + 1 ≤ j → a.getLsbD j = false) := by
  unfold nextO
  by_cases h : c = 255
  · rw [if_pos h]
    exact .inr ⟨rfl, fun j hj => BitVec.getLsbD_of_ge a j (by omega)⟩
  · rw [if_neg h]
    have hg : ∀ j, (a &&& rangeS (c + 1) 255).getLsbD j = (a.getLsbD j && decide (c + 1 ≤ j ∧ j ≤ 255)) := fun j => by
      by_cases hj : j < 256
      · rw [BitVec.getLsbD_and, rangeS, setOf_get]; simp [hj]
      · rw [BitVec.getLsbD_of_ge _ j (by omega), BitVec.getLsbD_of_ge a j (by omega)]; rfl
    rcases first_spec (a &&& rangeS (c + 1) 255) with ⟨k, h1, h2, h3, h4⟩ | ⟨h1, h4⟩
    · rw [hg] at h3
      simp only [Bool.and_eq_true, decide_eq_true_eq] at h3
      refine .inl ⟨k, h1, h3.2.1, h2, h3.1, fun j hj hjk => ?_⟩
      have := h4 j hjk
      rw [hg, Bool.and_eq_false_iff] at this
      rcases this with h | h
      · exact h
      · simp at h; omega
    · refine .inr ⟨h1, fun j hj => ?_⟩
      have := h4 j
      rw [hg, Bool.and_eq_false_iff] at this
      rcases this with h | h
      · exact h
      · simp only [decide_eq_false_iff_not] at h; exact BitVec.getLsbD_of_ge a j (by omega)
theorem ones_get (i : Nat) (h : i < 256) : (BitVec.allOnes 256).getLsbD i = true := by rw [BitVec.getLsbD_allOnes]; simp [h]
set_option maxHeartbeats 2000000 in
theorem tells_eq (fuel : Nat) (hf : 300 < fuel) (a b : BS) (c d : Int) (hc : 0 ≤ c ∧ c < 256) (hd : 0 ≤ d ∧ d < 256) : F_tells fuel a b c d = some true := by
  have hf1 : 256 < fuel := by omega
  have hf2 : 257 < fuel := by omega
  unfold F_tells
  refine bindE_i _ (words_eq fuel hf1 a) (bindE_i _ (words_eq fuel hf1 b) ?_)
  refine cutE_i (arS (BitVec.allOnes 256)) (loopE_i 256 (fun i => ((i : Int), arP (BitVec.allOnes 256) i)) (by simp [arP_0]) (fun i hi => ?_) ?_ hf1) ?_
  · refine bif_t (by simp; omega) (chk_i (by omega) (chk_i (by simp only; omega) ?_))
    simp only [arP_hit _ i (ones_get i hi)]
    rfl
  · refine bif_f (by simp) ?_
    simp only [arP_256]
  refine chk_i hc (chk_i hd (chk_i hc (chk_i (by simp) (letE_s (chk_i hc (chk_i hd (bindE_i _ (rof_eq fuel _ (by simp; omega) (by simp)) (bindE_i _ (is_eq fuel hf1 _ _) ?_))))))))
  refine bif_f ?_ ?_
  · have : ofS (List.map UInt8.toNat [u8of c, u8of d, u8of c]) = ofS (List.map UInt8.toNat [u8of c, u8of d]) := ofS_same fun j => by
      simp only [List.map_cons, List.map_nil, List.contains_cons, List.contains_nil]
      cases (j == (u8of c).toNat) <;> simp
    rw [this]; simp
  refine chk_i ⟨hc, hd⟩ (letE_s (bindE_i _ (rrange_eq fuel hf1 c d ⟨hc, hd⟩) (bindE_i _ (is_eq fuel hf1 _ _) (bif_f (by simp) ?_))))
  refine letE_s (bindE_i _ (is_eq fuel hf1 _ _) (bif_f (by simp) ?_))
  refine chk_i hc (letE_s (chk_i hc (bif_f ?_ ?_)))
  · rw [arS_rdI _ _ hc.1]; cases a.getLsbD c.toNat <;> rfl
  refine letE_s (bindE_i _ (rsize_eq fuel hf1 a) (bif_f (by simp) ?_))
  have b0 := rboth_eq fuel hf1 a b (a ||| b) 0 (fun i hi => by simp)
  have b1 := rboth_eq fuel hf1 a b (a &&& b) 1 (fun i hi => by simp)
  have b2 := rboth_eq fuel hf1 a b (a &&& ~~~b) 2 (fun i hi => by simp [hi])
  have b3 := rboth_eq fuel hf1 (BitVec.allOnes 256) a (~~~a) 2 (fun i hi => by rw [ones_get i hi, BitVec.getLsbD_not]; simp [hi])
  refine letE_s (bindE_i _ b0 (bindE_i _ (is_eq fuel hf1 _ _) (bif_f (by simp) ?_)))
  refine letE_s (bindE_i _ b1 (bindE_i _ (is_eq fuel hf1 _ _) (bif_f (by simp) ?_)))
  refine letE_s (bindE_i _ b2 (bindE_i _ (is_eq fuel hf1 _ _) (bif_f (by simp) ?_)))
  refine letE_s (bindE_i _ b3 (bindE_i _ (is_eq fuel hf1 _ _) (bif_f (by simp) ?_)))
  have hz : ∀ s : BS, ((s == 0#256) == (((bytesOf s).length : Int) == 0)) = true := fun s => by
    have := bytes_pos s
    by_cases e : s = 0#256
    · simp [e, (bytes_pos _).2 rfl]
    · have : (bytesOf s).length ≠ 0 := fun h => e ((bytes_pos s).1 h)
      have e1 : (s == 0#256) = false := by simp [e]
      have e2 : (((bytesOf s).length : Int) == 0) = false := by simp; simpa using this
      rw [e1, e2]; rfl
  refine letE_s (bindE_i _ b2 (bindE_i _ (rsize_eq fuel hf1 _) (bif_f (by rw [hz]; rfl) ?_)))
  refine letE_s (bindE_i _ b1 (bindE_i _ (rsize_eq fuel hf1 _) (bif_f ?_ ?_)))
  · have h1 := hz (a &&& b)
    have h2 : decide (((bytesOf (a &&& b)).length : Int) > 0) = !(((bytesOf (a &&& b)).length : Int) == 0) := by
      generalize (bytesOf (a &&& b)).length = n
      rcases Nat.eq_zero_or_pos n with rfl | h
      · rfl
      · have : ((n : Int) == 0) = false := by simp; omega
        rw [this]; simp; omega
    rw [h2]
    generalize (a &&& b == 0#256) = x at *
    generalize (((bytesOf (a &&& b)).length : Int) == 0) = y at *
    cases x <;> cases y <;> first | rfl | cases h1
  refine letE_s (bindE_i _ (rcompare_eq fuel hf2 a b) (bif_f (by simp) ?_))
  have hbl : (u8L (bytesOf a)).length ≤ 256 := by have := bytesTo_len a 256; unfold bytesOf; simp [u8L]; omega
  refine letE_s (bindE_i _ (rbytes_eq fuel hf2 a) (bindE_i _ (same_eq fuel _ (by omega) (by omega)) (bif_f rfl ?_)))
  have hfs := first_spec a
  have hns := next_spec a c.toNat (by omega)
  have hn0 := rnext_eq fuel hf2 a 0 (by omega) (firstOf a) (by
    rcases hfs with ⟨k, h1, h2, h3, h4⟩ | ⟨h1, h4⟩
    · exact .inl ⟨k, h1, Nat.zero_le _, h2, h3, fun j _ => h4 j⟩
    · exact .inr ⟨h1, fun j _ => h4 j⟩)
  have hn1 := rnext_eq fuel hf2 a (c.toNat + 1) (by omega) (nextO a c.toNat) hns
  rw [show ((c.toNat + 1 : Nat) : Int) = c + 1 by omega] at hn1
  refine letE_s (chk_i hc (letE_s (bindE_i _ hn0 (chk_i (by omega) (chk_i (by omega) (bindE_i _ hn1 ?_))))))
  refine cutE_i () ?_ ?_
  · obtain ⟨o1, ho1⟩ : ∃ o, o = firstOf a := ⟨_, rfl⟩
    obtain ⟨o2, ho2⟩ : ∃ o, o = nextO a c.toNat := ⟨_, rfl⟩
    have hb1 : ∀ k, o1 = some k → k < 256 := fun k hk => by
      rcases hfs with ⟨k', h1, h2, _⟩ | ⟨h1, _⟩
      · rw [ho1, h1] at hk; cases hk; exact h2
      · rw [ho1, h1] at hk; cases hk
    have hb2 : ∀ k, o2 = some k → k < 256 := fun k hk => by
      rcases hns with ⟨k', h1, _, h2, _⟩ | ⟨h1, _⟩
      · rw [ho2, h1] at hk; cases hk; exact h2
      · rw [ho2, h1] at hk; cases hk
    have hl1 : leastS a = optC o1 := by rw [ho1]; rfl
    have hl2 : someS a = o1.isSome := by rw [ho1]; rfl
    simp only [hl1, hl2, ← ho1, ← ho2]
    clear hns hfs hn0 hn1 ho1 ho2
    cases o1 with
    | none =>
      cases o2 with
      | none => rfl
      | some k2 =>
        have := hb2 k2 rfl
        have h1 : -9223372036854775808 ≤ (k2 : Int) := by omega
        have h2 : (k2 : Int) < 9223372036854775808 := by omega
        simp [nx, optC, chk, h1, h2]
    | some k1 =>
      have := hb1 k1 rfl
      have h3 : -9223372036854775808 ≤ (k1 : Int) := by omega
      have h4 : (k1 : Int) < 9223372036854775808 := by omega
      cases o2 with
      | none => simp [nx, optC, chk, h3, h4]
      | some k2 =>
        have := hb2 k2 rfl
        have h1 : -9223372036854775808 ≤ (k2 : Int) := by omega
        have h2 : (k2 : Int) < 9223372036854775808 := by omega
        simp [nx, optC, chk, h1, h2, h3, h4]
  have hsl : (spL (spansOf a)).length = (spansOf a).length := List.length_map ..
  have hs2 := spanLen a
  have hlt := spansB_lt (bytesOf a) (fun x hx => bytesOf_lt hx)
  refine letE_s (bindE_i _ (rspans_eq fuel hf2 a) (chk_i (by omega) (bif_f (by rw [flat_len, hsl]; simp) ?_)))
  refine cutE_i () (loopE_i (spansOf a).length (fun i => (i : Int)) rfl (fun i hi => ?_) ?_ (by omega)) rfl
  · obtain ⟨f1, f2⟩ := flat_get (spansOf a) i hi
    have hp : (spansOf a)[i].1 < 256 ∧ (spansOf a)[i].2 < 256 := hlt _ (List.getElem_mem hi)
    have hfl := flat_len (spansOf a)
    have e1 : ix (spL (spansOf a)) (i : Int) = (UInt8.ofNat (spansOf a)[i].1, UInt8.ofNat (spansOf a)[i].2) := by
      rw [ix_get _ i (by omega)]; simp [spL]
    have e2 : ix (flat (spansOf a)) (2 * (i : Int)) = ((spansOf a)[i].1 : Int) := by
      rw [show 2 * (i : Int) = ((2 * i : Nat) : Int) by omega, ix, Int.toNat_natCast, List.getD_eq_getElem?_getD, f1]; rfl
    have e3 : ix (flat (spansOf a)) (2 * (i : Int) + 1) = ((spansOf a)[i].2 : Int) := by
      rw [show 2 * (i : Int) + 1 = ((2 * i + 1 : Nat) : Int) by omega, ix, Int.toNat_natCast, List.getD_eq_getElem?_getD, f2]; rfl
    have e4 : (((UInt8.ofNat (spansOf a)[i].1).toNat : Nat) : Int) = ((spansOf a)[i].1 : Int) := by rw [UInt8.toNat_ofNat']; omega
    have e5 : (((UInt8.ofNat (spansOf a)[i].2).toNat : Nat) : Int) = ((spansOf a)[i].2 : Int) := by rw [UInt8.toNat_ofNat']; omega
    simp only [e1, e2, e3]
    refine bif_t (by simp [hsl]; omega) (chk_i (by omega) (letE_s ?_))
    simp only [e4, e5]
    refine chk_i (by omega) (chk_i (by omega) (chk_i (by omega) (bif_f (by simp) (chk_i (by omega) (chk_i (by omega) (chk_i (by omega) (chk_i (by omega) (letE_s (bif_f (by simp) (chk_i (by omega) rfl))))))))))
  · exact bif_f (by simp [hsl]) rfl
end Go.Ab
