/-
  Made: what it makes, in plain words.
-/
import Derived.Test.YtaocggpaiafeeaaZrxLd
set_option linter.unusedSimpArgs false
set_option linter.unusedVariables false
namespace Go.Ab
open Go Go.RowKit Go.Fwd Go.Proofs

abbrev Sm := Nat × Nat × Nat
abbrev MSt := List Tr × Int × Int
def kI (x : Sm) : Int := ((x.1 % 12 : Nat) : Int)
def lastT (p : List Tr) (i : Nat) : Tr := p[p.length - i]?.getD emptyT
def cA (p : List Tr) (x : Sm) : Bool := decide (kI x < 7) && decide ((p.length : Int) > 1)
def cB (p : List Tr) (x : Sm) : Bool := decide (kI x < 9) && decide ((p.length : Int) > 1)
def cC (p : List Tr) (g : Int) (x : Sm) : Bool := kI x == 9 && decide ((p.length : Int) > 0) && decide (g < 9)
def cD (p : List Tr) (x : Sm) : Bool := decide (kI x > 9) && decide ((p.length : Int) > 0) && ((lastT p 1).k : Int) != 1
def loM (x : Sm) : Int := ((x.2.1 % 3 : Nat) : Int)
def m4 (x : Sm) : Int := ((x.2.2 % 4 : Nat) : Int)
def badM (x : Sm) : Bool := decide (m4 x < loM x) || m4 x == 0 || loM x == 1 && m4 x == 1
def moM (x : Sm) : Int := bif badM x then -1 else m4 x
def tmM (x : Sm) : Int := max (max (loM x) (moM x)) 1
def stepM (st : MSt) (x : Sm) : MSt :=
  bif decide (kI x < 4) then (st.1 ++ [clsT (lbytes (x.2.1 % 12))], st.2.1, st.2.2)
  else bif kI x == 4 then (st.1 ++ [emptyT], st.2.1, st.2.2)
  else bif cA st.1 x then (st.1.take (st.1.length - 2) ++ [joinsT 3 (lastT st.1 2) (lastT st.1 1)], st.2.1, st.2.2)
  else bif cB st.1 x then (st.1.take (st.1.length - 2) ++ [joinsT 4 (lastT st.1 2) (lastT st.1 1)], st.2.1, st.2.2)
  else bif cC st.1 st.2.2 x then (st.1.set (st.1.length - 1) (.mk 6 0#256 0 0 [lastT st.1 1]), st.2.1, st.2.2 + 1)
  else bif cD st.1 x then (bif decide (st.2.1 * tmM x ≤ 16) then (st.1.set (st.1.length - 1) (.mk 5 0#256 (loM x) (moM x) [lastT st.1 1]), st.2.1 * tmM x, st.2.2) else st)
  else st
def MM (l : List Sm) (i : Nat) : MSt := (l.take i).foldl stepM ([], 1, 0)
def endM (p : List Tr) : Tr := match p with
  | [] => clsT [97]
  | x :: r => r.foldl (joinsT 4) x
def madeT (l : List Sm) : Tr := endM (MM (l.take 25) 25).1
theorem MM_succ (l : List Sm) (i : Nat) (hi : i < l.length) : MM l (i + 1) = stepM (MM l i) l[i] := by
  rw [MM, List.take_succ_eq_append_getElem hi, List.foldl_append]; rfl
theorem flatJ_pre2 (kind : Nat) (a b : Tr) : (pre (joinsT kind a b)).length ≤ (pre a).length + (pre b).length + 1 := by
  have h := flatJ_preL kind [a, b]
  simp only [preL, List.append_nil, List.length_append] at h
  rw [joinsT, endJ]
  obtain ⟨l, hl⟩ : ∃ l, flatJ kind [a, b] = l := ⟨_, rfl⟩
  rw [hl] at h ⊢
  match l, h with
  | [], _ => simp [emptyT, pre, preL]
  | [x], h => simp [preL] at h ⊢; omega
  | x :: y :: l, h =>
    have e1 : (((x :: y :: l).length : Int) == 0) = false := by simp; omega
    have e2 : (((x :: y :: l).length : Int) == 1) = false := by simp; omega
    rw [e1, e2]
    simp only [cond_false, pre, List.length_cons]
    omega
theorem lastT_lt {p : List Tr} {i : Nat} (h0 : 0 < i) (h : i ≤ p.length) : lastT p i = p[p.length - i]'(by omega) := by
  rw [lastT, List.getElem?_eq_getElem (by omega)]; rfl
theorem preL_take_two {p : List Tr} (h : 2 ≤ p.length) : (preL (p.take (p.length - 2))).length + (pre (lastT p 2)).length + (pre (lastT p 1)).length = (preL p).length := by
  rw [lastT_lt (by omega) h, lastT_lt (by omega) (by omega)]
  conv => rhs; rw [← List.take_append_drop (p.length - 2) p]
  rw [preL_append, List.length_append, List.drop_eq_getElem_cons (by omega), show p.length - 2 + 1 = p.length - 1 by omega, List.drop_eq_getElem_cons (by omega), show p.length - 1 + 1 = p.length by omega, List.drop_length]
  simp [preL]; omega
theorem preL_set {p : List Tr} {y : Tr} (h : 0 < p.length) : (preL (p.set (p.length - 1) y)).length + (pre (lastT p 1)).length = (preL p).length + (pre y).length := by
  rw [lastT_lt (by omega) h]
  rw [List.set_eq_take_append_cons_drop, if_pos (by omega), show p.length - 1 + 1 = p.length by omega, List.drop_length, preL_append, List.length_append]
  conv => rhs; rw [← List.take_append_drop (p.length - 1) p]
  rw [preL_append, List.length_append, List.drop_eq_getElem_cons (by omega), show p.length - 1 + 1 = p.length by omega, List.drop_length]
  simp [preL]; omega
theorem tmM_le (x : Sm) : 1 ≤ tmM x ∧ tmM x ≤ 3 := by
  have h1 : x.2.1 % 3 < 3 := Nat.mod_lt _ (by decide)
  have h2 : x.2.2 % 4 < 4 := Nat.mod_lt _ (by decide)
  unfold tmM moM
  have h3 : loM x ≤ 2 := by unfold loM; omega
  have h4 : m4 x ≤ 3 := by unfold m4; omega
  cases badM x <;> simp only [cond_true, cond_false] <;> omega
theorem stepM_inv (st : MSt) (x : Sm) (i : Nat) (h : (preL st.1).length ≤ i ∧ 0 ≤ st.2.2 ∧ st.2.2 ≤ 9 ∧ 1 ≤ st.2.1 ∧ st.2.1 ≤ 16) :
    (preL (stepM st x).1).length ≤ i + 1 ∧ 0 ≤ (stepM st x).2.2 ∧ (stepM st x).2.2 ≤ 9 ∧ 1 ≤ (stepM st x).2.1 ∧ (stepM st x).2.1 ≤ 16 := by
  obtain ⟨h1, h2, h3, h4, h5⟩ := h
  unfold stepM
  cases decide (kI x < 4)
  · cases kI x == 4
    · cases hA : cA st.1 x
      · cases hB : cB st.1 x
        · cases hC : cC st.1 st.2.2 x
          · cases hD : cD st.1 x
            · simp only [cond_false]; omega
            · simp only [cond_false, cond_true]
              cases hT : decide (st.2.1 * tmM x ≤ 16)
              · simp only [cond_false]; omega
              · simp only [cond_true]
                have hp : 0 < st.1.length := by
                  unfold cD at hD
                  simp only [Bool.and_eq_true, decide_eq_true_eq] at hD; omega
                have e := preL_set (p := st.1) (y := .mk 5 0#256 (loM x) (moM x) [lastT st.1 1]) hp
                rw [pre_one] at e
                have := (tmM_le x).1
                have h6 : 1 ≤ st.2.1 * tmM x := by
                  have := Int.mul_le_mul h4 this (by omega) (by omega); omega
                simp only [decide_eq_true_eq] at hT
                exact ⟨by omega, by omega, by omega, h6, hT⟩
          · simp only [cond_false, cond_true]
            unfold cC at hC
            simp only [Bool.and_eq_true, decide_eq_true_eq] at hC
            have e := preL_set (p := st.1) (y := .mk 6 0#256 0 0 [lastT st.1 1]) (by omega)
            rw [pre_one] at e
            omega
        · simp only [cond_false, cond_true]
          unfold cB at hB
          simp only [Bool.and_eq_true, decide_eq_true_eq] at hB
          have e := preL_take_two (p := st.1) (by omega)
          have e2 := flatJ_pre2 4 (lastT st.1 2) (lastT st.1 1)
          rw [preL_append, List.length_append]
          simp only [preL, List.append_nil]; omega
      · simp only [cond_false, cond_true]
        unfold cA at hA
        simp only [Bool.and_eq_true, decide_eq_true_eq] at hA
        have e := preL_take_two (p := st.1) (by omega)
        have e2 := flatJ_pre2 3 (lastT st.1 2) (lastT st.1 1)
        rw [preL_append, List.length_append]
        simp only [preL, List.append_nil]; omega
    · simp only [cond_false, cond_true]
      rw [preL_append, List.length_append]
      simp [preL, emptyT, pre]; omega
  · simp only [cond_true]
    rw [preL_append, List.length_append]
    simp [preL, clsT, pre]; omega
theorem invM (l : List Sm) : ∀ i, i ≤ l.length → (preL (MM l i).1).length ≤ i ∧ 0 ≤ (MM l i).2.2 ∧ (MM l i).2.2 ≤ 9 ∧ 1 ≤ (MM l i).2.1 ∧ (MM l i).2.1 ≤ 16
  | 0, _ => by simp [MM, preL]
  | i + 1, h => by
    rw [MM_succ l i (by omega)]
    exact stepM_inv _ _ i (invM l i (by omega))
end Go.Ab
