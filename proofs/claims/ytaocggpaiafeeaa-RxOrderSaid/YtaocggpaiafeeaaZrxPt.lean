/-
  Plain: what Made makes, and Times of it.
-/
import Derived.Test.YtaocggpaiafeeaaZrxTm
import Derived.Test.YtaocggpaiafeeaaZrxPl
set_option linter.unusedSimpArgs false
set_option linter.unusedVariables false
namespace Go.Ab
open Go Go.RowKit Go.Fwd Go.Proofs

def goodL (lo hi : Int) : Bool := (decide (lo ≥ 0) && decide (lo ≤ 16)) && (hi == -1 || (decide (hi ≥ lo) && decide (hi ≤ 16)))
theorem goodL_iff (lo hi : Int) : goodL lo hi = true ↔ 0 ≤ lo ∧ lo ≤ 16 ∧ (hi = -1 ∨ (lo ≤ hi ∧ hi ≤ 16)) := by simp [goodL]; omega
theorem bounds_iff (lo hi : Int) : boundsT lo hi = true ↔ (0 ≤ lo ∧ lo ≤ 16 ∧ ¬ (lo = 1 ∧ hi = 1)) ∧ (hi = -1 ∨ (1 ≤ hi ∧ hi ≤ 16 ∧ lo ≤ hi)) := by simp [boundsT]; omega
/-- A tree that Made makes. -/
structure MT (t : Tr) : Prop where
  cr : CR t
  pos : posT t ≤ 400
  gr : grT t ≤ 9
  len : (pre t).length ≤ 50
theorem MT.clean {t : Tr} (h : MT t) : cleanT t = true := clean_of h.cr (by have := h.len; omega)
theorem MT.light {t : Tr} (h : MT t) : lightT t = true := by have := h.len; simp [lightT]; omega
theorem MT.good {t : Tr} (h : MT t) : goodT t = true := by rw [goodT, h.clean, Bool.or_true]
theorem MT.k0 {t : Tr} (h : MT t) : t.k ≠ 0 := by have := right_k ((CR_iff t).1 h.cr).1; omega
theorem made_mt (l : List Sm) : MT (madeT l) := by obtain ⟨h1, h2, h3, h4⟩ := made_ok l; exact ⟨h1, h2, h3, h4⟩
theorem same_refl {t : Tr} (h : lightT t = true) : sameB t t = true := by rw [sameB, h, (sameT_iff t t).2 rfl]; rfl
theorem times_bad {t : Tr} {lo hi : Int} (h : goodL lo hi = false) : timesT t lo hi = noneT := by
  have hb : boundsT lo hi = false := by
    rw [← Bool.not_eq_true, bounds_iff]; rw [← Bool.not_eq_true, goodL_iff] at h; omega
  have h0 : (lo == 0 && hi == 0) = false := by
    rw [← Bool.not_eq_true]; rw [← Bool.not_eq_true, goodL_iff] at h; simp; omega
  have h1 : (lo == 1 && hi == 1) = false := by
    rw [← Bool.not_eq_true]; rw [← Bool.not_eq_true, goodL_iff] at h; simp; omega
  simp [timesT, hb, h0, h1]
theorem times_ok {t : Tr} {lo hi : Int} (ht : MT t) (h : goodL lo hi = true) : timesT t lo hi = bif (lo == 0 && hi == 0) || (t.k : Int) == 1 then emptyT else bif lo == 1 && hi == 1 then t else checkedT (.mk 5 0#256 lo hi [t]) := by
  have hk := ht.k0
  have e0 : ((t.k : Int) == 0) = false := by simp; omega
  have hb : (!goodT t || (!(lo == 0 && hi == 0) && !(lo == 1 && hi == 1) && !boundsT lo hi)) = false := by
    rw [ht.good, Bool.not_true, Bool.false_or]
    by_cases h0 : lo = 0 ∧ hi = 0
    · simp [h0.1, h0.2]
    · by_cases h1 : lo = 1 ∧ hi = 1
      · simp [h1.1, h1.2]
      · have : boundsT lo hi = true := by rw [bounds_iff]; rw [goodL_iff] at h; omega
        rw [this]; simp
  unfold timesT
  rw [hb, e0]
  simp
theorem times_11 {t : Tr} (ht : MT t) : timesT t 1 1 = (bif (t.k : Int) == 1 then emptyT else t) := by rw [times_ok ht (by decide)]; simp
theorem times_00 {t : Tr} (ht : MT t) : timesT t 0 0 = emptyT := by rw [times_ok ht (by decide)]; simp
theorem empty_of {t : Tr} (ht : MT t) (h : t.k = 1) : t = emptyT := by
  have hr := ((CR_iff t).1 ht.cr).1
  cases t with
  | mk k s mn mx l =>
    simp only [Tr.k] at h; subst h
    rw [rightT_mk, oddT_mk] at hr
    simp only [Bool.and_eq_true, Bool.not_eq_true', Bool.or_eq_false_iff] at hr
    obtain ⟨⟨⟨h1, h2⟩, h3⟩, _⟩ := hr
    simp at h1 h2 h3
    have hl : l = [] := by cases l with | nil => rfl | cons x l => simp at h3
    rw [h1, h2.1, h2.2, hl]; rfl
theorem times_11' {t : Tr} (ht : MT t) : timesT t 1 1 = t := by
  rw [times_11 ht]
  by_cases h : t.k = 1
  · rw [empty_of ht h]; rfl
  · have : ((t.k : Int) == 1) = false := by simp; omega
    rw [this]; rfl
theorem times_zero {t : Tr} {lo hi : Int} (ht : MT t) (h : goodL lo hi = true) (h0 : hi = 0) : timesT t lo hi = emptyT := by
  rw [times_ok ht h]
  rw [goodL_iff] at h
  have : lo = 0 := by omega
  simp [this, h0]
theorem times_emp {t : Tr} {lo hi : Int} (ht : MT t) (h : goodL lo hi = true) (hk : t.k = 1) : timesT t lo hi = emptyT := by
  rw [times_ok ht h]; simp [hk]
theorem rep_clean {t : Tr} {lo hi : Int} (ht : MT t) (hk : t.k ≠ 1) (hb : boundsT lo hi = true) : cleanT (.mk 5 0#256 lo hi [t]) = true :=
  clean_of ((CR_iff _).2 ⟨right_rep hk hb, (CRL_cons _ _).2 ⟨ht.cr, CRL_nil⟩⟩) (by have := ht.len; rw [pre_one]; omega)
theorem times_rep {t : Tr} {lo hi : Int} (ht : MT t) (h : goodL lo hi = true) (hk : t.k ≠ 1) (h0 : hi ≠ 0) (h1 : ¬ (lo = 1 ∧ hi = 1)) : timesT t lo hi = .mk 5 0#256 lo hi [t] := by
  rw [times_ok ht h]
  have e1 : ((lo == 0 && hi == 0) || (t.k : Int) == 1) = false := by simp; omega
  have e2 : (lo == 1 && hi == 1) = false := by simp; omega
  have hb : boundsT lo hi = true := by rw [bounds_iff]; rw [goodL_iff] at h; omega
  rw [e1, e2]; simp only [cond_false]
  rw [checkedT, if_pos (rep_clean ht hk hb)]
theorem posn_of {t : Tr} (h : lightT t = true) : positionsT t = posT t := by rw [positionsT, if_pos h]
theorem size_of {t : Tr} (h : lightT t = true) : sizeT' t = (pre t).length := by rw [sizeT', if_pos h]
theorem rep_light {t : Tr} {lo hi : Int} (ht : MT t) : lightT (.mk 5 0#256 lo hi [t]) = true := by have := ht.len; simp only [lightT, pre_one, decide_eq_true_eq]; omega
theorem rep_pos {t : Tr} {lo hi : Int} (ht : MT t) (h : goodL lo hi = true) (h0 : hi ≠ 0) : posT (.mk 5 0#256 lo hi [t]) = max (max lo hi) 1 * posT t := by
  rw [goodL_iff] at h
  have hp := ht.pos
  have hn := posT_nonneg t
  have e : min (if hi = -1 then max (max lo 0) 1 else max (max lo 0) hi) 10001 = max (max lo hi) 1 := by split <;> omega
  have hm : max (max lo hi) 1 ≤ 16 := by omega
  have h1 := Int.mul_le_mul hp hm (by omega) (by omega)
  simp only [posT, posL, if_true, if_neg (show ¬ (5 = 2) by decide), Int.add_zero, Int.zero_add]
  rw [e, Int.mul_comm (max (max lo hi) 1)]; omega

end Go.Ab
