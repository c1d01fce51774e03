/-
  The reference for sets: what its functions come to; lists.
-/
import Derived.Test.YtjmhbbbpjbgmjaaZseTx
set_option linter.unusedSimpArgs false
set_option linter.unusedVariables false
namespace Go.Ab
open Go Go.RowKit Go.Fwd Go.Proofs Go.Proofs.Ytjmhbbbpjbgmjaa
def arP (s : BS) (i : Nat) : Ar := ⟨fun k => if k < i ∧ s.getLsbD k = true then 1 else 0⟩
def arS (s : BS) : Ar := ⟨fun k => if s.getLsbD k = true then 1 else 0⟩
theorem arP_0 (s : BS) : arP s 0 = zeroA := by simp [arP, zeroA]
theorem lt_of_bit {s : BS} {k : Nat} (h : s.getLsbD k = true) : k < 256 := by
  rcases Nat.lt_or_ge k 256 with h1 | h1
  · exact h1
  · rw [BitVec.getLsbD_of_ge s k h1] at h; cases h
theorem arP_256 (s : BS) : arP s 256 = arS s := by
  unfold arP arS
  refine congrArg Ar.mk (funext fun k => ?_)
  by_cases h : s.getLsbD k = true
  · simp [h, lt_of_bit h]
  · simp [h]
theorem arP_hit (s : BS) (i : Nat) (h : s.getLsbD i = true) : wrA (arP s i) (i : Int) 1 = arP s (i + 1) := by
  unfold arP wrA
  refine congrArg Ar.mk (funext fun k => ?_)
  rw [Int.toNat_natCast]
  by_cases e : k = i
  · subst e; simp [h]
  · simp only [e, if_false]
    by_cases e2 : k < i
    · simp [e2, show k < i + 1 by omega]
    · simp [e2, show ¬ k < i + 1 by omega]
theorem arP_miss (s : BS) (i : Nat) (h : s.getLsbD i = false) : arP s i = arP s (i + 1) := by
  unfold arP
  refine congrArg Ar.mk (funext fun k => ?_)
  by_cases e : k = i
  · subst e; simp [h]
  · by_cases e2 : k < i
    · simp [e2, show k < i + 1 by omega]
    · simp [e2, show ¬ k < i + 1 by omega]
theorem arP_miss' (s : BS) (i : Nat) (h : s.getLsbD i = false) : wrA (arP s i) (i : Int) 0 = arP s (i + 1) := by
  rw [← arP_miss s i h]
  unfold arP wrA
  refine congrArg Ar.mk (funext fun k => ?_)
  rw [Int.toNat_natCast]
  by_cases e : k = i
  · subst e; simp
  · simp [e]
theorem arS_rd (s : BS) (i : Nat) : rdA (arS s) (i : Int) = if s.getLsbD i = true then 1 else 0 := by simp [rdA, arS]
theorem arS_rdI (s : BS) (i : Int) (h : 0 ≤ i) : rdA (arS s) i = if s.getLsbD i.toNat = true then 1 else 0 := rfl
theorem eqA_arS (s t : BS) : eqA (arS s) (arS t) = decide (s = t) := by
  unfold eqA
  by_cases h : s = t
  · subst h; simp
  · have : ¬ arL (arS s) = arL (arS t) := fun e => h (BitVec.eq_of_getLsbD_eq fun i hi => by
      have h1 := congrArg (fun l : List Int => l[i]?) e
      simp only [arL_get _ _ hi, Option.some.injEq] at h1
      simp only [arS] at h1
      cases hs : s.getLsbD i <;> cases ht : t.getLsbD i <;> simp [hs, ht] at h1 ⊢)
    simp [h, this]
theorem i64_wrap {x : Int} (h : -9223372036854775808 ≤ x ∧ x < 9223372036854775808) : IntKind.i64.wrap x = x := wrap_i64 h.1 h.2
theorem u64_wrap {n : Nat} (h : n < 2 ^ 64) : IntKind.u64.wrap (n : Int) = (n : Int) := by
  simp only [IntKind.wrap, IntKind.bits, IntKind.signed]
  simp; omega
theorem u8_wrap {n : Nat} (h : n < 256) : IntKind.u8.wrap (n : Int) = (n : Int) := by
  simp only [IntKind.wrap, IntKind.bits, IntKind.signed]
  simp; omega
theorem tdiv_nat (a b : Nat) : Int.tdiv (a : Int) (b : Int) = ((a / b : Nat) : Int) := rfl
theorem tmod_nat (a b : Nat) : Int.tmod (a : Int) (b : Int) = ((a % b : Nat) : Int) := rfl
theorem words_eq (fuel : Nat) (hf : 256 < fuel) (s : BS) : F_words fuel s = some (arS s) := by
  unfold F_words
  refine cutE_i (arS s) (loopE_i 256 (fun i => ((i : Int), arP s i)) (by simp [arP_0]) (fun i hi => ?_) ?_ hf) rfl
  · refine bif_t (by simp; omega) ?_
    have e1 : IntKind.i64.wrap (Int.tdiv (i : Int) 64) = ((i / 64 : Nat) : Int) := by
      rw [show Int.tdiv (i : Int) 64 = ((i / 64 : Nat) : Int) from rfl]; exact i64_wrap (by omega)
    have e2 : Int.tmod (i : Int) 64 = ((i % 64 : Nat) : Int) := rfl
    simp only [e1, e2, Int.toNat_natCast]
    obtain ⟨w, hw⟩ : ∃ w, w = W s (i / 64) := ⟨_, rfl⟩
    have hw1 : wd s (i / 64) = ((w.toNat : Nat) : Int) := by rw [hw]; rfl
    have hwl := w.isLt
    refine cutE_i (arP s (i + 1)) (chk_i (by omega) ?_) (chk_i (by omega) rfl)
    refine cutE_i (((w.toNat / 2 ^ (i % 64) : Nat) : Nat) : Int) (loopE_i (i % 64) (fun j => (((w.toNat / 2 ^ j : Nat) : Int), (j : Int))) (by simp [hw1]) (fun j hj => ?_) ?_ (by omega)) ?_
    · refine bif_t (by simp; omega) (chk_i (by simp only; omega) ?_)
      have e3 : IntKind.u64.wrap (Int.tdiv ((w.toNat / 2 ^ j : Nat) : Int) 2) = ((w.toNat / 2 ^ (j + 1) : Nat) : Int) := by
        rw [show Int.tdiv ((w.toNat / 2 ^ j : Nat) : Int) 2 = ((w.toNat / 2 ^ j / 2 : Nat) : Int) from rfl, Nat.div_div_eq_div_mul, ← Nat.pow_succ]
        exact u64_wrap (Nat.lt_of_le_of_lt (Nat.div_le_self _ _) hwl)
      simp only [e3, Int.natCast_add, Int.cast_ofNat_Int]
    · refine bif_f (by simp) rfl
    · have e4 : Int.tmod ((w.toNat / 2 ^ (i % 64) : Nat) : Int) 2 = ((w.toNat / 2 ^ (i % 64) % 2 : Nat) : Int) := rfl
      have hb : s.getLsbD i = decide (w.toNat / 2 ^ (i % 64) % 2 = 1) := by
        have h := W_get s (i / 64) (i % 64) (Nat.mod_lt _ (by decide))
        rw [show 64 * (i / 64) + i % 64 = i by omega, ← hw] at h
        rw [← h, BitVec.getLsbD, Nat.testBit_eq_decide_div_mod_eq]
      simp only [e4]
      generalize hm : w.toNat / 2 ^ (i % 64) % 2 = m at *
      have hm2 : m < 2 := by rw [← hm]; exact Nat.mod_lt _ (by decide)
      refine chk_i (by omega) (chk_i (by omega) ?_)
      rcases (by omega : m = 0 ∨ m = 1) with rfl | rfl
      · rw [Int.natCast_zero, arP_miss' s i (by simpa using hb)]
      · rw [show ((1 : Nat) : Int) = 1 from rfl, arP_hit s i (by simpa using hb)]
  · refine bif_f (by simp) ?_
    simp only [arP_256]
theorem is_eq (fuel : Nat) (hf : 256 < fuel) (s t : BS) : F_is fuel s (arS t) = some (decide (s = t)) := by
  unfold F_is
  refine bindE_i _ (words_eq fuel hf s) ?_
  rw [eqA_arS]
theorem rrange_eq (fuel : Nat) (hf : 256 < fuel) (lo hi : Int) (h : (0 ≤ lo ∧ lo < 256) ∧ 0 ≤ hi ∧ hi < 256) : F_rrange fuel lo hi = some (arS (rangeS lo.toNat hi.toNat)) := by
  unfold F_rrange
  have hg : ∀ i, i < 256 → (rangeS lo.toNat hi.toNat).getLsbD i = decide (lo ≤ (i : Int) ∧ (i : Int) ≤ hi) := fun i hi => by
    rw [rangeS, setOf_get]
    simp only [hi, decide_true, Bool.true_and]
    congr 1
    rw [eq_iff_iff]; omega
  generalize rangeS lo.toNat hi.toNat = s at *
  refine cutE_i (arS s) (loopE_i 256 (fun i => ((i : Int), arP s i)) (by simp [arP_0]) (fun i hi => ?_) ?_ hf) rfl
  · refine bif_t (by simp; omega) (cutE_i (arP s (i + 1)) (chk_i (by omega) ?_) (chk_i (by simp only; omega) rfl))
    have hs := hg i hi
    refine bif_i (fun h1 => chk_i (by omega) (bif_i (fun h2 => chk_i (by simp only; omega) ?_) fun h2 => ?_)) fun h1 => ?_ <;> simp only [ge_iff_le, decide_eq_true_eq, decide_eq_false_iff_not] at h1 <;> try simp only [decide_eq_true_eq, decide_eq_false_iff_not] at h2
    · simp only [arP_hit s i (by rw [hs]; simp; omega)]
    · simp only [← arP_miss s i (by rw [hs]; simp; omega)]
    · simp only [← arP_miss s i (by rw [hs]; simp; omega)]
  · refine bif_f (by simp) ?_
    simp only [arP_256]
def sumP (s : BS) (i : Nat) : Nat := (bytesTo s i).length
theorem rsize_eq (fuel : Nat) (hf : 256 < fuel) (s : BS) : F_rsize fuel (arS s) = some ((bytesOf s).length : Int) := by
  unfold F_rsize
  refine cutE_i ((bytesOf s).length : Int) (loopE_i 256 (fun i => (((bytesTo s i).length : Int), (i : Int))) (by simp [bytesTo]) (fun i hi => ?_) ?_ hf) rfl
  · have hl : (bytesTo s i).length ≤ i := by have := bytesTo_len s i; omega
    have hs : (((bytesTo s (i + 1)).length : Nat) : Int) = ((bytesTo s i).length : Int) + rdA (arS s) (i : Int) := by
      rw [bytesTo_succ, arS_rd]
      by_cases e : s.getLsbD i = true
      · simp [e]
      · simp [e]
    have hr : rdA (arS s) (i : Int) = 0 ∨ rdA (arS s) (i : Int) = 1 := by rw [arS_rd]; split <;> simp
    refine bif_t (by simp; omega) (chk_i (by simp only; omega) (chk_i (by simp only; omega) (chk_i (by simp only; omega) ?_)))
    simp only [← hs]
    rfl
  · refine bif_f (by simp) ?_
    rfl
theorem rboth_eq (fuel : Nat) (hf : 256 < fuel) (a b r : BS) (how : Int) (hr : ∀ i, i < 256 → r.getLsbD i = if how = 2 then a.getLsbD i && !b.getLsbD i else if how = 1 then a.getLsbD i && b.getLsbD i else a.getLsbD i || b.getLsbD i) : F_rboth fuel (arS a) (arS b) how = some (arS r) := by
  unfold F_rboth
  refine cutE_i (arS r) (loopE_i 256 (fun i => ((i : Int), arP r i)) (by simp [arP_0]) (fun i hi => ?_) ?_ hf) rfl
  · refine bif_t (by simp; omega) (cutE_i (arP r (i + 1)) (chk_i (by omega) (chk_i (by omega) ?_)) (chk_i (by simp only; omega) rfl))
    have hb := hr i hi
    have key : ∀ t : Bool, t = r.getLsbD i → (bif t then chk (0 ≤ (i : Int) ∧ (i : Int) < 256) (some (Sum.inl (wrA (arP r i) (i : Int) 1))) else some (Sum.inl (arP r i)) : Option (Ar ⊕ ((Int × Ar) ⊕ (Ar ⊕ Ar)))) = some (Sum.inl (arP r (i + 1))) := by
      intro t ht
      refine bif_i (fun h => chk_i (by omega) ?_) (fun h => ?_)
      · rw [arP_hit r i (by rw [← ht, h])]
      · rw [arP_miss r i (by rw [← ht, h])]
    obtain ⟨x, hx⟩ : ∃ x, x = rdA (arS a) (i : Int) := ⟨_, rfl⟩
    obtain ⟨y, hy⟩ : ∃ y, y = rdA (arS b) (i : Int) := ⟨_, rfl⟩
    simp only [← hx, ← hy]
    rw [arS_rd] at hx hy
    have hx1 : (x = 1 ∧ a.getLsbD i = true) ∨ (x = 0 ∧ a.getLsbD i = false) := by cases h : a.getLsbD i <;> simp [h] at hx <;> simp [hx]
    have hy1 : (y = 1 ∧ b.getLsbD i = true) ∨ (y = 0 ∧ b.getLsbD i = false) := by cases h : b.getLsbD i <;> simp [h] at hy <;> simp [hy]
    clear hx hy
    refine chk_i (by omega) ?_
    by_cases h1 : how = 1
    · refine cutE_i (x + y == 2) (bif_t (by simp [h1]) (chk_i (by omega) (chk_i (by omega) (chk_i (by omega) rfl)))) ?_
      refine cutE_i (x + y == 2) (bif_f (by simp [h1]) rfl) ?_
      refine key _ ?_
      rw [hb, if_neg (by omega), if_pos h1]
      rcases hx1 with ⟨rfl, e1⟩ | ⟨rfl, e1⟩ <;> rcases hy1 with ⟨rfl, e2⟩ | ⟨rfl, e2⟩ <;> rw [e1, e2] <;> decide
    · refine cutE_i (decide (x + y > 0)) (bif_f (by simp [h1]) rfl) ?_
      by_cases h2 : how = 2
      · refine cutE_i (decide (x > y)) (bif_t (by simp [h2]) (chk_i (by omega) (chk_i (by omega) rfl))) ?_
        refine key _ ?_
        rw [hb, if_pos h2]
        rcases hx1 with ⟨rfl, e1⟩ | ⟨rfl, e1⟩ <;> rcases hy1 with ⟨rfl, e2⟩ | ⟨rfl, e2⟩ <;> rw [e1, e2] <;> decide
      · refine cutE_i (decide (x + y > 0)) (bif_f (by simp [h2]) rfl) ?_
        refine key _ ?_
        rw [hb, if_neg h2, if_neg h1]
        rcases hx1 with ⟨rfl, e1⟩ | ⟨rfl, e1⟩ <;> rcases hy1 with ⟨rfl, e2⟩ | ⟨rfl, e2⟩ <;> rw [e1, e2] <;> decide
  · refine bif_f (by simp) ?_
    simp only [arP_256]
end Go.Ab
set_option linter.unusedSimpArgs false
set_option linter.unusedVariables false
namespace Go.Ab
open Go Go.RowKit Go.Fwd Go.Proofs Go.Proofs.Ytjmhbbbpjbgmjaa
theorem ofS_get (l : List Nat) (j : Nat) : (ofS l).getLsbD j = (decide (j < 256) && l.contains j) := by rw [ofS, setOf_get]
theorem wr_ofS (l : List Nat) (k : Nat) (h : k < 256) : wrA (arS (ofS l)) (k : Int) 1 = arS (ofS (l ++ [k])) := by
  unfold arS wrA
  refine congrArg Ar.mk (funext fun j => ?_)
  rw [Int.toNat_natCast]
  simp only [ofS_get, List.contains_append]
  by_cases e : j = k
  · subst e; simp [h]
  · have : [k].contains j = false := by simp [e]
    simp [e, this]
theorem arS_0 : arS 0#256 = zeroA := by simp [arS, zeroA]
theorem ix_get {α : Type} [Enc α] (l : List α) (i : Nat) (h : i < l.length) : ix l (i : Int) = l[i] := by simp [ix, h]
theorem rof_eq (fuel : Nat) (b : List UInt8) (hf : b.length < fuel) (hl : b.length < 2 ^ 62) : F_rof fuel b = some (arS (ofS (b.map UInt8.toNat))) := by
  unfold F_rof
  refine cutE_i (arS (ofS (b.map UInt8.toNat))) (loopE_i b.length (fun i => ((i : Int), arS (ofS ((b.take i).map UInt8.toNat)))) ?_ (fun i hi => ?_) ?_ hf) rfl
  · simp only [List.take_zero, List.map_nil, Int.natCast_zero]
    rw [show ofS [] = 0#256 from setOf_nil ▸ by rw [ofS]; simp, arS_0]
  · have hx : ix b (i : Int) = b[i] := ix_get b i hi
    have h8 := b[i].toNat_lt
    simp only [hx]
    refine bif_t (by simp; omega) (chk_i (by omega) (chk_i (by omega) (chk_i (by omega) ?_)))
    rw [wr_ofS _ _ h8, List.take_succ_eq_append_getElem hi, List.map_append]
    rfl
  · refine bif_f (by simp) ?_
    simp
theorem same_eq (fuel : Nat) (l : List UInt8) (hf : l.length < fuel) (hl : l.length < 2 ^ 62) : F_same fuel l l = some true := by
  unfold F_same
  refine bif_f (by simp) (cutE_i () (loopE_i l.length (fun i => (i : Int)) rfl (fun i hi => ?_) ?_ hf) rfl)
  · exact bif_t (by simp; omega) (chk_i (by omega) (chk_i (by omega) (bif_f (by simp) (chk_i (by omega) rfl))))
  · exact bif_f (by simp) rfl
theorem first_spec (S : BS) : (∃ c, firstOf S = some c ∧ c < 256 ∧ S.getLsbD c = true ∧ ∀ j, j < c → S.getLsbD j = false) ∨ (firstOf S = none ∧ ∀ j, S.getLsbD j = false) := by
  unfold firstOf bytesOf bytesTo
  rw [List.head?_filter]
  cases h : List.find? (fun c => S.getLsbD c) (List.range 256) with
  | none =>
    refine .inr ⟨rfl, fun j => ?_⟩
    rw [List.find?_eq_none] at h
    by_cases hj : j < 256
    · have := h j (by simp [hj]); simpa using this
    · exact BitVec.getLsbD_of_ge S j (by omega)
  | some c =>
    rw [List.find?_range_eq_some] at h
    obtain ⟨h1, h2, h3⟩ := h
    exact .inl ⟨c, rfl, by simpa using h2, h1, fun j hj => by simpa using h3 j hj⟩
def nx (o : Option Nat) : Int := match o with | some k => (k : Int) | none => -1
theorem rnext_eq (fuel : Nat) (hf : 257 < fuel) (s : BS) (fr : Nat) (hfr : fr ≤ 256) (o : Option Nat) (h : (∃ k, o = some k ∧ fr ≤ k ∧ k < 256 ∧ s.getLsbD k = true ∧ ∀ j, fr ≤ j → j < k → s.getLsbD j = false) ∨ (o = none ∧ ∀ j, fr ≤ j → s.getLsbD j = false)) : F_rnext fuel (arS s) (fr : Int) = some (nx o) := by
  unfold F_rnext
  have step : ∀ i : Nat, i < 256 → s.getLsbD i = false → (bif decide ((i : Int) < 256) then chk (0 ≤ (i : Int) ∧ (i : Int) < 256) (bif rdA (arS s) (i : Int) == 1 then some (Sum.inr (Sum.inr (i : Int))) else chk (-9223372036854775808 ≤ (i : Int) + 1 ∧ (i : Int) + 1 < 9223372036854775808) (some (Sum.inl ((i : Int) + 1)))) else some (Sum.inr (Sum.inl ())) : Option (Int ⊕ (Unit ⊕ Int))) = some (.inl ((i : Int) + 1)) := fun i hi hb =>
    bif_t (by simp; omega) (chk_i (by omega) (bif_f (by rw [arS_rd, hb]; rfl) (chk_i (by omega) rfl)))
  rcases h with ⟨k, rfl, h1, h2, h3, h4⟩ | ⟨rfl, h4⟩
  · refine cutE_r (k : Int) (loopE_i (k - fr) (fun i => ((fr + i : Nat) : Int)) rfl (fun i hi => ?_) ?_ (by omega)) rfl
    · exact step (fr + i) (by omega) (h4 _ (by omega) (by omega))
    · rw [show fr + (k - fr) = k by omega]
      exact bif_t (by simp; omega) (chk_i (by omega) (bif_t (by rw [arS_rd, h3]; rfl) rfl))
  · refine cutE_i () (loopE_i (256 - fr) (fun i => ((fr + i : Nat) : Int)) rfl (fun i hi => ?_) ?_ (by omega)) rfl
    · exact step (fr + i) (by omega) (h4 _ (by omega))
    · rw [show fr + (256 - fr) = 256 by omega]
      exact bif_f (by simp) rfl
theorem rcompare_eq (fuel : Nat) (hf : 257 < fuel) (a b : BS) : F_rcompare fuel (arS a) (arS b) = some (cmpS a b) := by
  unfold F_rcompare cmpS
  have hd : ∀ j, ((a &&& ~~~b) ||| (b &&& ~~~a)).getLsbD j = (a.getLsbD j != b.getLsbD j) := by
    intro j
    by_cases hj : j < 256
    · simp only [BitVec.getLsbD_or, BitVec.getLsbD_and, BitVec.getLsbD_not, hj, decide_true, Bool.true_and]
      cases a.getLsbD j <;> cases b.getLsbD j <;> rfl
    · simp [BitVec.getLsbD_of_ge _ j (show 256 ≤ j by omega)]
  have eqn : ∀ i : Nat, (a.getLsbD i != b.getLsbD i) = false → (rdA (arS a) (i : Int) != rdA (arS b) (i : Int)) = false := fun i hb => by
    have : a.getLsbD i = b.getLsbD i := by simpa using hb
    rw [arS_rd, arS_rd, this]; simp
  have step : ∀ i : Nat, i < 256 → (a.getLsbD i != b.getLsbD i) = false → (bif decide ((i : Int) < 256) then chk (0 ≤ (i : Int) ∧ (i : Int) < 256) (chk (0 ≤ (i : Int) ∧ (i : Int) < 256) (bif rdA (arS a) (i : Int) != rdA (arS b) (i : Int) then chk (0 ≤ (i : Int) ∧ (i : Int) < 256) (chk (0 ≤ (i : Int) ∧ (i : Int) < 256) (chk (-9223372036854775808 ≤ rdA (arS b) (i : Int) - rdA (arS a) (i : Int) ∧ rdA (arS b) (i : Int) - rdA (arS a) (i : Int) < 9223372036854775808) (some (Sum.inr (Sum.inr (rdA (arS b) (i : Int) - rdA (arS a) (i : Int))))))) else chk (-9223372036854775808 ≤ (i : Int) + 1 ∧ (i : Int) + 1 < 9223372036854775808) (some (Sum.inl ((i : Int) + 1))))) else some (Sum.inr (Sum.inl ())) : Option (Int ⊕ (Unit ⊕ Int))) = some (.inl ((i : Int) + 1)) := fun i hi hb =>
    bif_t (by simp; omega) (chk_i (by omega) (chk_i (by omega) (bif_f (eqn i hb) (chk_i (by omega) rfl))))
  rcases first_spec ((a &&& ~~~b) ||| (b &&& ~~~a)) with ⟨c, h1, h2, h3, h4⟩ | ⟨h1, h4⟩
  · rw [h1]
    rw [hd] at h3
    refine cutE_r (if a.getLsbD c = true then -1 else 1) (loopE_i c (fun i => ((i : Nat) : Int)) rfl (fun i hi => step i (by omega) (by rw [← hd]; exact h4 i hi)) ?_ (by omega)) rfl
    have e1 := arS_rd a c
    have e2 := arS_rd b c
    refine bif_t (by simp; omega) (chk_i (by omega) (chk_i (by omega) (bif_t ?_ (chk_i (by omega) (chk_i (by omega) (chk_i ?_ ?_))))))
    · rw [e1, e2]; cases ha : a.getLsbD c <;> cases hb : b.getLsbD c <;> simp [ha, hb] at h3 ⊢
    · rw [e1, e2]; cases ha : a.getLsbD c <;> cases hb : b.getLsbD c <;> simp [ha, hb] at h3 ⊢
    · rw [e1, e2]; cases ha : a.getLsbD c <;> cases hb : b.getLsbD c <;> simp [ha, hb] at h3 ⊢
  · rw [h1]
    refine cutE_i () (loopE_i 256 (fun i => ((i : Nat) : Int)) rfl (fun i hi => step i hi (by rw [← hd]; exact h4 i)) ?_ (by omega)) rfl
    exact bif_f (by simp) rfl
theorem rbytes_eq (fuel : Nat) (hf : 257 < fuel) (s : BS) : F_rbytes fuel (arS s) = some (u8L (bytesOf s)) := by
  unfold F_rbytes
  refine cutE_i (u8L (bytesOf s)) (loopE_i 256 (fun i => (u8L (bytesTo s i), (i : Int))) (by simp [bytesTo, u8L]) (fun i hi => ?_) ?_ (by omega)) rfl
  · have hw := u8_wrap hi
    have hl : (bytesTo s i).length ≤ i := by have := bytesTo_len s i; omega
    have hl2 : (u8L (bytesTo s i)).length = (bytesTo s i).length := List.length_map ..
    refine bif_t (by simp; omega) (cutE_i (u8L (bytesTo s (i + 1))) (chk_i (by omega) ?_) (chk_i (by simp only; omega) rfl))
    rw [bytesTo_succ]
    simp only [hw]
    cases hb : s.getLsbD i with
    | true =>
      refine bif_t (by rw [arS_rd, hb]; rfl) (chk_i (by omega) (chk_i (by simp [hl2]; omega) ?_))
      simp [u8L, u8of]
    | false =>
      refine bif_f (by rw [arS_rd, hb]; rfl) ?_
      simp [u8L]
  · refine bif_f (by simp) ?_
    rfl
/-! ### spans -/
def flat (L : List (Nat × Nat)) : List Int := L.flatMap fun p => [(p.1 : Int), (p.2 : Int)]
theorem flat_app (A B : List (Nat × Nat)) : flat (A ++ B) = flat A ++ flat B := by simp [flat]
def SI (s : BS) (i : Nat) (l : List Int) : Prop :=
  (0 < i ∧ i ≤ 255 ∧ s.getLsbD (i - 1) = true ∧ s.getLsbD i = true ∧ ∃ (A : List (Nat × Nat)) (lo : Nat), spansB (bytesTo s i) = A ++ [(lo, i - 1)] ∧ l = flat A ++ [(lo : Int)]) ∨
  ((i = 0 ∨ i = 256 ∨ s.getLsbD (i - 1) = false ∨ s.getLsbD i = false) ∧ l = flat (spansB (bytesTo s i)) ∧ ∀ A p, spansB (bytesTo s i) = A ++ [p] → 0 < i ∧ p.2 < i ∧ (s.getLsbD (i - 1) = false → p.2 + 1 < i))
theorem flat_len (L : List (Nat × Nat)) : (flat L).length = 2 * L.length := by
  induction L with
  | nil => rfl
  | cons p L ih => simp only [flat, List.flatMap_cons, List.length_append, List.length_cons, List.length_nil] at ih ⊢; omega
theorem SI_len {s : BS} {i : Nat} {l : List Int} (h : SI s i l) (hi : i ≤ 256) : l.length ≤ 512 := by
  have h1 := bytesTo_len s i
  have h2 := spansB_len (bytesTo s i)
  rcases h with ⟨_, _, _, _, A, lo, h3, rfl⟩ | ⟨_, rfl, _⟩
  · rw [h3] at h2; simp only [List.length_append, List.length_singleton] at h2 ⊢; rw [flat_len]; omega
  · rw [flat_len]; omega
theorem SI_step {s : BS} {i : Nat} {l : List Int} (h : SI s i l) (hi : i < 256) :
    SI s (i + 1) ((l ++ (if s.getLsbD i = true ∧ (i = 0 ∨ s.getLsbD (i - 1) = false) then [(i : Int)] else [])) ++ (if s.getLsbD i = true ∧ (i = 255 ∨ s.getLsbD (i + 1) = false) then [(i : Int)] else [])) := by
  cases hb : s.getLsbD i with
  | false =>
    simp only [Bool.false_eq_true, false_and, if_false, List.append_nil]
    have hs : bytesTo s (i + 1) = bytesTo s i := by rw [bytesTo_succ, hb]; simp
    rcases h with ⟨_, _, _, h4, _⟩ | ⟨_, h2, h3⟩
    · rw [hb] at h4; cases h4
    · refine .inr ⟨.inr (.inr (.inl (by simpa using hb))), by rw [hs]; exact h2, fun A p hp => ?_⟩
      rw [hs] at hp
      have := h3 A p hp
      exact ⟨by omega, by omega, fun _ => by omega⟩
  | true =>
    have hs : bytesTo s (i + 1) = bytesTo s i ++ [i] := by rw [bytesTo_succ, hb]; simp
    have hsp : spansB (bytesTo s (i + 1)) = addB (spansB (bytesTo s i)) i := by rw [hs, spansB_snoc]
    simp only [true_and]
    rcases h with ⟨h0, h1, h2, _, A, lo, h3, rfl⟩ | ⟨h1, h2, h3⟩
    · rw [if_neg (by rw [h2]; simp; omega), List.append_nil]
      have hsp2 : spansB (bytesTo s (i + 1)) = A ++ [(lo, i)] := by rw [hsp, h3, addB_hit _ _ _ _ (by omega)]
      by_cases e : i = 255 ∨ s.getLsbD (i + 1) = false
      · rw [if_pos e]
        refine .inr ⟨?_, by rw [hsp2, flat_app]; simp [flat], fun B p hp => ?_⟩
        · rcases e with e | e
          · exact .inr (.inl (by omega))
          · exact .inr (.inr (.inr e))
        · rw [hsp2] at hp
          obtain ⟨_, rfl⟩ := List.append_inj' hp rfl |>.imp id (fun h => by simpa using h)
          exact ⟨by omega, by simp, fun h => by simp [hb] at h⟩
      · rw [if_neg e, List.append_nil]
        have e2 : s.getLsbD (i + 1) = true := by cases h : s.getLsbD (i + 1) with | true => rfl | false => exact absurd (.inr h) e
        have e3 := lt_of_bit e2
        exact .inl ⟨by omega, by omega, by simpa using hb, e2, A, lo, by rw [hsp2]; simp, rfl⟩
    · have h1' : i = 0 ∨ s.getLsbD (i - 1) = false := by
        rcases h1 with h | h | h | h
        · exact .inl h
        · omega
        · exact .inr h
        · rw [hb] at h; cases h
      rw [if_pos h1']
      have hsp2 : spansB (bytesTo s (i + 1)) = spansB (bytesTo s i) ++ [(i, i)] := by
        rw [hsp]
        rcases List.eq_nil_or_concat (spansB (bytesTo s i)) with e | ⟨A, p, e⟩
        · rw [e, addB_nil]; rfl
        · rw [List.concat_eq_append] at e
          have h4 := h3 A p e
          obtain ⟨lo, hi'⟩ := p
          rw [e, addB_miss _ _ _ _ ?_]
          rcases h1' with h | h
          · omega
          · have := h4.2.2 h; simp only at this; omega
      by_cases e : i = 255 ∨ s.getLsbD (i + 1) = false
      · rw [if_pos e]
        refine .inr ⟨?_, by rw [hsp2, flat_app, h2]; simp [flat], fun B p hp => ?_⟩
        · rcases e with e | e
          · exact .inr (.inl (by omega))
          · exact .inr (.inr (.inr e))
        · rw [hsp2] at hp
          obtain ⟨_, rfl⟩ := List.append_inj' hp rfl |>.imp id (fun h => by simpa using h)
          exact ⟨by omega, by simp, fun h => by simp [hb] at h⟩
      · rw [if_neg e, List.append_nil]
        have e2 : s.getLsbD (i + 1) = true := by cases h : s.getLsbD (i + 1) with | true => rfl | false => exact absurd (.inr h) e
        have e3 := lt_of_bit e2
        exact .inl ⟨by omega, by omega, by simpa using hb, e2, spansB (bytesTo s i), i, by rw [hsp2]; simp, by rw [h2]⟩
def spI (s : BS) : Nat → List Int
  | 0 => []
  | i + 1 => (spI s i ++ (if s.getLsbD i = true ∧ (i = 0 ∨ s.getLsbD (i - 1) = false) then [(i : Int)] else [])) ++ (if s.getLsbD i = true ∧ (i = 255 ∨ s.getLsbD (i + 1) = false) then [(i : Int)] else [])
theorem spI_SI (s : BS) : ∀ i, i ≤ 256 → SI s i (spI s i)
  | 0, _ => .inr ⟨.inl rfl, by simp [spI, bytesTo, spansB, flat], fun A p hp => by simp [bytesTo, spansB] at hp⟩
  | i + 1, h => SI_step (spI_SI s i (by omega)) (by omega)
theorem spI_end (s : BS) : spI s 256 = flat (spansOf s) := by
  rcases spI_SI s 256 (Nat.le_refl _) with ⟨_, h, _⟩ | ⟨_, h, _⟩
  · omega
  · exact h
theorem rspans_eq (fuel : Nat) (hf : 257 < fuel) (s : BS) : F_rspans fuel (arS s) = some (flat (spansOf s)) := by
  unfold F_rspans
  refine cutE_i (flat (spansOf s)) (loopE_i 256 (fun i => (spI s i, (i : Int))) rfl (fun i hi => ?_) ?_ (by omega)) rfl
  · have hl := SI_len (spI_SI s i (by omega)) (by omega)
    have hr := arS_rd s i
    refine bif_t (by simp; omega) (cutE_i (spI s (i + 1)) ?_ (chk_i (by simp only; omega) rfl))
    rw [spI]
    generalize spI s i = l at *
    refine cutE_i (l ++ (if s.getLsbD i = true ∧ (i = 0 ∨ s.getLsbD (i - 1) = false) then [(i : Int)] else [])) (chk_i (by omega) ?_) (chk_i (by omega) ?_)
    · cases hb : s.getLsbD i with
      | false => refine bif_f (by simp only [hr, hb]; rfl) ?_; simp
      | true =>
        refine bif_t (by simp only [hr, hb]; rfl) ?_
        by_cases h0 : i = 0
        · refine bif_t (by simp [h0]) (chk_i (by simp; omega) ?_); simp [h0]
        · have hr1 := arS_rd s (i - 1)
          rw [show ((i - 1 : Nat) : Int) = (i : Int) - 1 by omega] at hr1
          refine bif_f (by simp [h0]) (chk_i (by simp only; omega) (chk_i (by simp only; omega) ?_))
          cases hb1 : s.getLsbD (i - 1) with
          | false => refine bif_t (by simp only [hr1, hb1]; rfl) (chk_i (by simp; omega) ?_); simp
          | true => refine bif_f (by simp only [hr1, hb1]; rfl) ?_; simp [h0]
    · have hl2 : (l ++ (if s.getLsbD i = true ∧ (i = 0 ∨ s.getLsbD (i - 1) = false) then [(i : Int)] else [])).length ≤ 513 := by
        rw [List.length_append]; split <;> simp <;> omega
      generalize (l ++ (if s.getLsbD i = true ∧ (i = 0 ∨ s.getLsbD (i - 1) = false) then [(i : Int)] else [])) = m at *
      cases hb : s.getLsbD i with
      | false => refine bif_f (by simp only [hr, hb]; rfl) ?_; simp
      | true =>
        refine bif_t (by simp only [hr, hb]; rfl) ?_
        by_cases h0 : i = 255
        · refine bif_t (by simp [h0]) (chk_i (by simp; omega) ?_); simp [h0]
        · have hr1 := arS_rd s (i + 1)
          rw [show ((i + 1 : Nat) : Int) = (i : Int) + 1 by omega] at hr1
          refine bif_f (by simp; omega) (chk_i (by simp only; omega) (chk_i (by simp only; omega) ?_))
          cases hb1 : s.getLsbD (i + 1) with
          | false => refine bif_t (by simp only [hr1, hb1]; rfl) (chk_i (by simp; omega) ?_); simp
          | true => refine bif_f (by simp only [hr1, hb1]; rfl) ?_; simp [h0]
  · refine bif_f (by simp) ?_
    simp only [spI_end]
end Go.Ab
