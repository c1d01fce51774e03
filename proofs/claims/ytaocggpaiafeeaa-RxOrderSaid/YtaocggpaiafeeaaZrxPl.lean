/-
  Plain: what Made makes is clean, small, has few positions and groups.
-/
import Derived.Test.YtaocggpaiafeeaaZrxMp
set_option linter.unusedSimpArgs false
set_option linter.unusedVariables false
namespace Go.Ab
open Go Go.RowKit Go.Fwd Go.Proofs

def CR (t : Tr) : Prop := (pre t).all rightT = true
def CRL (l : List Tr) : Prop := (preL l).all rightT = true
theorem CRL_nil : CRL [] := by simp [CRL, preL]
theorem CRL_cons (t : Tr) (l : List Tr) : CRL (t :: l) ↔ CR t ∧ CRL l := by simp [CRL, CR, preL]
theorem CRL_append (a b : List Tr) : CRL (a ++ b) ↔ CRL a ∧ CRL b := by simp [CRL, preL_append]
theorem CRL_iff : ∀ l : List Tr, CRL l ↔ ∀ t ∈ l, CR t
  | [] => by simp [CRL_nil]
  | t :: l => by rw [CRL_cons, CRL_iff l]; simp
theorem CR_iff (t : Tr) : CR t ↔ rightT t = true ∧ CRL t.l := by rw [CR, pre_eq, List.all_cons, Bool.and_eq_true]; rfl
theorem hasT_false {t : Tr} {k : Nat} : hasT t k = false ↔ ∀ y ∈ t.l, y.k ≠ k := by simp [hasT]
theorem right_cat {l : List Tr} (h : 1 < l.length) (h1 : ∀ t ∈ l, t.k ≠ 1 ∧ t.k ≠ 3) : rightT (.mk 3 0#256 0 0 l) = true := by
  have e1 : hasT (.mk 3 0#256 0 0 l) 1 = false := hasT_false.2 fun y hy => (h1 y hy).1
  have e3 : hasT (.mk 3 0#256 0 0 l) 3 = false := hasT_false.2 fun y hy => (h1 y hy).2
  simp [rightT_mk, oddT_mk, e1, e3]; omega
theorem right_alt {l : List Tr} (h : 1 < l.length) (h1 : ∀ t ∈ l, t.k ≠ 4) : rightT (.mk 4 0#256 0 0 l) = true := by
  have e1 : hasT (.mk 4 0#256 0 0 l) 4 = false := hasT_false.2 fun y hy => h1 y hy
  simp [rightT_mk, oddT_mk, e1]; omega
theorem right_rep {t : Tr} {lo hi : Int} (h : t.k ≠ 1) (hb : boundsT lo hi = true) : rightT (.mk 5 0#256 lo hi [t]) = true := by
  have e1 : hasT (.mk 5 0#256 lo hi [t]) 1 = false := hasT_false.2 fun y hy => by simp [Tr.l] at hy; subst hy; exact h
  simp [rightT_mk, oddT_mk, e1, hb]
theorem right_grp (t : Tr) : rightT (.mk 6 0#256 0 0 [t]) = true := by simp [rightT_mk, oddT_mk]
theorem right_empty : rightT emptyT = true := by simp [emptyT, rightT_mk, oddT_mk]
theorem right_k {t : Tr} (h : rightT t = true) : t.k = 1 ∨ t.k = 2 ∨ t.k = 3 ∨ t.k = 4 ∨ t.k = 5 ∨ t.k = 6 := by
  cases t with
  | mk k s mn mx l =>
    rw [rightT_mk] at h
    simp only [Tr.k]
    by_cases h1 : k = 1; · exact .inl h1
    by_cases h2 : k = 2; · exact .inr (.inl h2)
    by_cases h3 : k = 3; · exact .inr (.inr (.inl h3))
    by_cases h4 : k = 4; · exact .inr (.inr (.inr (.inl h4)))
    by_cases h5 : k = 5; · exact .inr (.inr (.inr (.inr (.inl h5))))
    by_cases h6 : k = 6; · exact .inr (.inr (.inr (.inr (.inr h6))))
    exfalso
    have e : ∀ n : Nat, k ≠ n → ((k : Int) == n) = false := fun n hn => by simp; omega
    rw [show ((k : Int) == 1) = false from e 1 h1, show ((k : Int) == 2) = false from e 2 h2, show ((k : Int) == 3) = false from e 3 h3, show ((k : Int) == 4) = false from e 4 h4, show ((k : Int) == 5) = false from e 5 h5, show ((k : Int) == 6) = false from e 6 h6] at h
    simp at h
theorem right_cat_inv {t : Tr} (h : rightT t = true) (hk : t.k = 3) : 1 < t.l.length ∧ ∀ y ∈ t.l, y.k ≠ 1 ∧ y.k ≠ 3 := by
  cases t with
  | mk k s mn mx l =>
    simp only [Tr.k] at hk; subst hk
    rw [rightT_mk] at h
    simp only [Bool.and_eq_true, Bool.not_eq_true'] at h
    have h2 := h.2
    simp only [show ((((3 : Nat) : Int)) == 1) = false from rfl, show ((((3 : Nat) : Int)) == 2) = false from rfl, show ((((3 : Nat) : Int)) == 3) = true from rfl, cond_false, cond_true, Bool.and_eq_true, Bool.not_eq_true', decide_eq_true_eq] at h2
    exact ⟨by simp only [Tr.l]; omega, fun y hy => ⟨hasT_false.1 h2.1.2 y hy, hasT_false.1 h2.2 y hy⟩⟩
theorem right_alt_inv {t : Tr} (h : rightT t = true) (hk : t.k = 4) : 1 < t.l.length ∧ ∀ y ∈ t.l, y.k ≠ 4 := by
  cases t with
  | mk k s mn mx l =>
    simp only [Tr.k] at hk; subst hk
    rw [rightT_mk] at h
    simp only [Bool.and_eq_true, Bool.not_eq_true'] at h
    have h2 := h.2
    simp only [show ((((4 : Nat) : Int)) == 1) = false from rfl, show ((((4 : Nat) : Int)) == 2) = false from rfl, show ((((4 : Nat) : Int)) == 3) = false from rfl, show ((((4 : Nat) : Int)) == 4) = true from rfl, cond_false, cond_true, Bool.and_eq_true, Bool.not_eq_true', decide_eq_true_eq] at h2
    exact ⟨by simp only [Tr.l]; omega, fun y hy => hasT_false.1 h2.2 y hy⟩
/-! ### positions -/
theorem posT_eq (t : Tr) (h5 : t.k ≠ 5) (h2 : t.k ≠ 2) : posT t = min (posL t.l) 10001 := by
  cases t with
  | mk k s mn mx l => simp only [Tr.k] at h5 h2; simp [posT, h5, h2, Tr.l]
theorem posL_append : ∀ a b, posL (a ++ b) = posL a + posL b
  | [], b => by simp [posL]
  | x :: a, b => by rw [List.cons_append, posL, posL, posL_append a b]; omega
theorem posL_mem {l : List Tr} {x : Tr} (h : x ∈ l) : posT x ≤ posL l := by
  induction l with
  | nil => cases h
  | cons y l ih =>
    rw [posL]
    have h1 := posT_nonneg y
    have h2 := posL_nonneg l
    rcases List.mem_cons.1 h with rfl | h
    · omega
    · have := ih h; omega
theorem posT_empty : posT emptyT = 0 := by simp [emptyT, posT, posL]; rfl
theorem posT_cls (l : List Nat) : posT (clsT l) = 1 := by simp [clsT, posT, posL]; rfl
/-! ### groups -/
def grT (t : Tr) : Nat := (pre t).countP fun x => decide (x.k = 6)
def grL (l : List Tr) : Nat := (preL l).countP fun x => decide (x.k = 6)
theorem grL_nil : grL [] = 0 := by simp [grL, preL]
theorem grL_cons (t : Tr) (l : List Tr) : grL (t :: l) = grT t + grL l := by simp [grL, grT, preL]
theorem grL_append (a b : List Tr) : grL (a ++ b) = grL a + grL b := by simp [grL, preL_append]
theorem grT_eq (t : Tr) : grT t = grL t.l + (if t.k = 6 then 1 else 0) := by rw [grT, pre_eq, List.countP_cons]; simp [grL]
theorem grT_mk (k : Nat) (s : BS) (mn mx : Int) (l : List Tr) : grT (.mk k s mn mx l) = grL l + (if k = 6 then 1 else 0) := grT_eq _
theorem grT_empty : grT emptyT = 0 := by simp [emptyT, grT, pre, preL, Tr.k]
theorem grT_cls (l : List Nat) : grT (clsT l) = 0 := by simp [clsT, grT, pre, preL, Tr.k]

/-! ### flat lists -/
theorem flatJ_nil (kind : Nat) : flatJ kind [] = [] := rfl
theorem flatJ_cons (kind : Nat) (x : Tr) (l : List Tr) : flatJ kind (x :: l) = (bif (x.k : Int) == kind then x.l else bif (kind : Int) == 3 && (x.k : Int) == 1 then [] else [x]) ++ flatJ kind l := by simp [flatJ]
theorem flatJ_append (kind : Nat) (a b : List Tr) : flatJ kind (a ++ b) = flatJ kind a ++ flatJ kind b := by simp [flatJ]
/-- What is good for the flat list of a Cat. -/
def G3 (l : List Tr) : Prop := CRL l ∧ ∀ y ∈ l, y.k ≠ 1 ∧ y.k ≠ 3
def G4 (l : List Tr) : Prop := CRL l ∧ ∀ y ∈ l, y.k ≠ 4
theorem flat3_good : ∀ {l : List Tr}, CRL l → G3 (flatJ 3 l)
  | [], _ => ⟨CRL_nil, by simp [flatJ]⟩
  | x :: l, h => by
    rw [CRL_cons] at h
    obtain ⟨g1, g2⟩ := flat3_good h.2
    have hx := (CR_iff x).1 h.1
    rw [flatJ_cons]
    by_cases h3 : x.k = 3
    · have e : ((x.k : Int) == ((3 : Nat) : Int)) = true := by simp [h3]
      rw [e, cond_true]
      refine ⟨(CRL_append _ _).2 ⟨hx.2, g1⟩, fun y hy => ?_⟩
      rcases List.mem_append.1 hy with hy | hy
      · exact (right_cat_inv hx.1 h3).2 y hy
      · exact g2 y hy
    · have e : ((x.k : Int) == ((3 : Nat) : Int)) = false := by simp; omega
      rw [e, cond_false]
      by_cases h1 : x.k = 1
      · have e1 : ((((3 : Nat) : Int) == 3) && ((x.k : Int) == 1)) = true := by simp [h1]
        rw [e1, cond_true, List.nil_append]; exact ⟨g1, g2⟩
      · have e1 : ((((3 : Nat) : Int) == 3) && ((x.k : Int) == 1)) = false := by simp; omega
        rw [e1, cond_false, List.singleton_append]
        refine ⟨(CRL_cons _ _).2 ⟨h.1, g1⟩, fun y hy => ?_⟩
        rcases List.mem_cons.1 hy with rfl | hy
        · exact ⟨h1, h3⟩
        · exact g2 y hy
theorem flat4_good : ∀ {l : List Tr}, CRL l → G4 (flatJ 4 l)
  | [], _ => ⟨CRL_nil, by simp [flatJ]⟩
  | x :: l, h => by
    rw [CRL_cons] at h
    obtain ⟨g1, g2⟩ := flat4_good h.2
    have hx := (CR_iff x).1 h.1
    rw [flatJ_cons]
    by_cases h3 : x.k = 4
    · have e : ((x.k : Int) == ((4 : Nat) : Int)) = true := by simp [h3]
      rw [e, cond_true]
      refine ⟨(CRL_append _ _).2 ⟨hx.2, g1⟩, fun y hy => ?_⟩
      rcases List.mem_append.1 hy with hy | hy
      · exact (right_alt_inv hx.1 h3).2 y hy
      · exact g2 y hy
    · have e : ((x.k : Int) == ((4 : Nat) : Int)) = false := by simp; omega
      have e1 : ((((4 : Nat) : Int) == 3) && ((x.k : Int) == 1)) = false := by simp
      rw [e, cond_false, e1, cond_false, List.singleton_append]
      refine ⟨(CRL_cons _ _).2 ⟨h.1, g1⟩, fun y hy => ?_⟩
      rcases List.mem_cons.1 hy with rfl | hy
      · exact h3
      · exact g2 y hy
theorem endJ_one (kind : Nat) (x : Tr) : endJ kind [x] = x := rfl
theorem endJ_two (kind : Nat) (x y : Tr) (l : List Tr) : endJ kind (x :: y :: l) = .mk kind 0#256 0 0 (x :: y :: l) := by
  have e1 : (((x :: y :: l).length : Int) == 0) = false := by simp; omega
  have e2 : (((x :: y :: l).length : Int) == 1) = false := by simp; omega
  rw [endJ, e1, e2]; rfl
theorem endJ3_CR : ∀ {l : List Tr}, G3 l → CR (endJ 3 l)
  | [], _ => (CR_iff _).2 ⟨right_empty, CRL_nil⟩
  | [x], h => (CRL_iff _).1 h.1 x (by simp)
  | x :: y :: l, h => by rw [endJ_two]; exact (CR_iff _).2 ⟨right_cat (by simp) h.2, h.1⟩
theorem endJ4_CR : ∀ {l : List Tr}, G4 l → CR (endJ 4 l)
  | [], _ => (CR_iff _).2 ⟨right_empty, CRL_nil⟩
  | [x], h => (CRL_iff _).1 h.1 x (by simp)
  | x :: y :: l, h => by rw [endJ_two]; exact (CR_iff _).2 ⟨right_alt (by simp) h.2, h.1⟩
theorem joins3_CR {a b : Tr} (ha : CR a) (hb : CR b) : CR (joinsT 3 a b) := endJ3_CR (flat3_good ((CRL_iff _).2 (by simp [ha, hb])))
theorem joins4_CR {a b : Tr} (ha : CR a) (hb : CR b) : CR (joinsT 4 a b) := endJ4_CR (flat4_good ((CRL_iff _).2 (by simp [ha, hb])))
/-- Positions of a flat list, where there are few. -/
theorem flatJ_pos (kind : Nat) (hk : kind = 3 ∨ kind = 4) : ∀ l : List Tr, posL l ≤ 10000 → posL (flatJ kind l) ≤ posL l
  | [], _ => by simp [flatJ, posL]
  | x :: l, h => by
    rw [posL] at h
    have h1 := posT_nonneg x
    have h2 := posL_nonneg l
    have ih := flatJ_pos kind hk l (by omega)
    rw [flatJ_cons, posL_append, posL]
    have : posL (bif (x.k : Int) == kind then x.l else bif (kind : Int) == 3 && (x.k : Int) == 1 then [] else [x]) ≤ posT x := by
      cases e : (x.k : Int) == kind
      · rw [cond_false]
        cases (kind : Int) == 3 && (x.k : Int) == 1
        · simp [posL]
        · simp [posL]; omega
      · rw [cond_true]
        have e' : x.k = kind := by simp at e; omega
        have := posT_eq x (by omega) (by omega)
        omega
    omega
theorem endJ_pos (kind : Nat) (hk : kind = 3 ∨ kind = 4) : ∀ l : List Tr, posT (endJ kind l) ≤ posL l
  | [] => by rw [show endJ kind [] = emptyT from rfl, posT_empty]; simp [posL]
  | [x] => by rw [endJ_one]; simp [posL]
  | x :: y :: l => by
    rw [endJ_two, posT_eq _ (by simp only [Tr.k]; omega) (by simp only [Tr.k]; omega)]
    simp only [Tr.l]; omega
theorem joins_pos (kind : Nat) (hk : kind = 3 ∨ kind = 4) {a b : Tr} (h : posT a + posT b ≤ 10000) : posT (joinsT kind a b) ≤ posT a + posT b := by
  have h0 : posL [a, b] = posT a + posT b := by simp [posL]
  have h1 := flatJ_pos kind hk [a, b] (by omega)
  have h2 := endJ_pos kind hk (flatJ kind [a, b])
  rw [joinsT]; omega
theorem flatJ_gr (kind : Nat) (hk : kind = 3 ∨ kind = 4) : ∀ l : List Tr, CRL l → grL (flatJ kind l) ≤ grL l
  | [], _ => by simp [flatJ]
  | x :: l, h => by
    rw [CRL_cons] at h
    have ih := flatJ_gr kind hk l h.2
    rw [flatJ_cons, grL_append, grL_cons]
    have : grL (bif (x.k : Int) == kind then x.l else bif (kind : Int) == 3 && (x.k : Int) == 1 then [] else [x]) ≤ grT x := by
      cases e : (x.k : Int) == kind
      · rw [cond_false]
        cases (kind : Int) == 3 && (x.k : Int) == 1
        · rw [cond_false, grL_cons, grL_nil]; omega
        · rw [cond_true, grL_nil]; omega
      · rw [cond_true]
        have := grT_eq x; omega
    omega
theorem endJ_gr (kind : Nat) (hk : kind = 3 ∨ kind = 4) : ∀ l : List Tr, grT (endJ kind l) ≤ grL l
  | [] => by rw [show endJ kind [] = emptyT from rfl, grT_empty]; omega
  | [x] => by rw [endJ_one, grL_cons]; omega
  | x :: y :: l => by
    rw [endJ_two, grT_mk, if_neg (by omega)]; omega
theorem joins_gr (kind : Nat) (hk : kind = 3 ∨ kind = 4) {a b : Tr} (ha : CR a) (hb : CR b) : grT (joinsT kind a b) ≤ grT a + grT b := by
  have h1 := flatJ_gr kind hk [a, b] ((CRL_iff _).2 (by simp [ha, hb]))
  have h2 := endJ_gr kind hk (flatJ kind [a, b])
  simp only [grL_cons, grL_nil] at h1
  rw [joinsT]; omega
/-! ### Made -/
structure OkM (st : MSt) (i : Nat) : Prop where
  cr : CRL st.1
  pos : posL st.1 ≤ (i : Int) * st.2.1
  gr : (grL st.1 : Int) ≤ st.2.2
theorem split_last {p : List Tr} (h : 0 < p.length) : p = p.take (p.length - 1) ++ [lastT p 1] := by
  rw [lastT_lt (by omega) (by omega)]
  conv => lhs; rw [← List.take_append_drop (p.length - 1) p]
  rw [List.drop_eq_getElem_cons (by omega), List.drop_of_length_le (by omega)]
theorem split_two {p : List Tr} (h : 2 ≤ p.length) : p = p.take (p.length - 2) ++ [lastT p 2, lastT p 1] := by
  rw [lastT_lt (i := 2) (by omega) (by omega), lastT_lt (i := 1) (by omega) (by omega)]
  conv => lhs; rw [← List.take_append_drop (p.length - 2) p]
  rw [List.drop_eq_getElem_cons (by omega), List.drop_eq_getElem_cons (by omega), List.drop_of_length_le (by omega)]
  simp only [show p.length - 2 + 1 = p.length - 1 by omega]
theorem set_last {p : List Tr} (h : 0 < p.length) (y : Tr) : p.set (p.length - 1) y = p.take (p.length - 1) ++ [y] := by
  rw [List.set_eq_take_append_cons_drop, if_pos (by omega), List.drop_of_length_le (by omega)]
theorem cls_right : ∀ j, j < 12 → rightT (clsT (lbytes j)) = true := by decide +kernel
theorem cls_CR {j : Nat} (h : j < 12) : CR (clsT (lbytes j)) := (CR_iff _).2 ⟨cls_right j h, CRL_nil⟩
theorem bounds_lm (x : Sm) : boundsT (loM x) (moM x) = true := by
  have h1 : x.2.1 % 3 < 3 := Nat.mod_lt _ (by decide)
  have h2 : x.2.2 % 4 < 4 := Nat.mod_lt _ (by decide)
  unfold moM badM loM m4
  generalize x.2.1 % 3 = a at *
  generalize x.2.2 % 4 = b at *
  have key : ∀ a, a < 3 → ∀ b, b < 4 → boundsT ((a : Nat) : Int) (bif decide (((b : Nat) : Int) < (a : Int)) || (b : Int) == 0 || (a : Int) == 1 && (b : Int) == 1 then -1 else (b : Int)) = true := by decide
  exact key a h1 b h2
theorem posT_rep_le (x : Sm) (t : Tr) : posT (.mk 5 0#256 (loM x) (moM x) [t]) ≤ posT t * tmM x := by
  have h1 : x.2.1 % 3 < 3 := Nat.mod_lt _ (by decide)
  have h2 : x.2.2 % 4 < 4 := Nat.mod_lt _ (by decide)
  have h0 := posT_nonneg t
  have hlo : 0 ≤ loM x := by unfold loM; omega
  have hf : min (if moM x = -1 then max (max (loM x) 0) 1 else max (max (loM x) 0) (moM x)) 10001 ≤ tmM x := by
    unfold tmM
    split
    · rename_i e; rw [e]; omega
    · omega
  have hm := Int.mul_le_mul_of_nonneg_left hf h0
  simp only [posT, posL, if_true, if_neg (show ¬ (5 = 2) by decide), Int.add_zero, Int.zero_add]
  omega
theorem okM_step {st : MSt} {i : Nat} (x : Sm) (h : OkM st i) (hi : i ≤ 25) (hv : 0 ≤ st.2.2 ∧ st.2.2 ≤ 9 ∧ 1 ≤ st.2.1 ∧ st.2.1 ≤ 16) : OkM (stepM st x) (i + 1) := by
  obtain ⟨c, p, g⟩ := h
  obtain ⟨v1, v2, v3, v4⟩ := hv
  have e0 : ((i + 1 : Nat) : Int) * st.2.1 = (i : Int) * st.2.1 + st.2.1 := by rw [Int.natCast_add, Int.add_mul]; simp
  have e400 : (i : Int) * st.2.1 ≤ 400 := by
    have := Int.mul_le_mul (show (i : Int) ≤ 25 by omega) v4 (by omega) (by omega)
    omega
  have c0 := (CRL_iff _).1 c
  unfold stepM
  cases decide (kI x < 4)
  · cases kI x == 4
    · cases hA : cA st.1 x
      · cases hB : cB st.1 x
        · cases hC : cC st.1 st.2.2 x
          · cases hD : cD st.1 x
            · simp only [cond_false]; exact ⟨c, by omega, g⟩
            · simp only [cond_false, cond_true]
              cases hT : decide (st.2.1 * tmM x ≤ 16)
              · simp only [cond_false]; exact ⟨c, by omega, g⟩
              · simp only [cond_true]
                unfold cD at hD
                simp only [Bool.and_eq_true, decide_eq_true_eq, bne_iff_ne, ne_eq] at hD
                have hp : 0 < st.1.length := by omega
                have es := split_last hp
                rw [set_last hp]
                rw [es, CRL_append, CRL_cons] at c
                rw [es, posL_append] at p
                rw [es, grL_append, grL_cons, grL_nil] at g
                simp only [posL, Int.add_zero] at p
                refine ⟨(CRL_append _ _).2 ⟨c.1, (CRL_cons _ _).2 ⟨(CR_iff _).2 ⟨right_rep (by omega) (bounds_lm x), (CRL_cons _ _).2 ⟨c.2.1, CRL_nil⟩⟩, CRL_nil⟩⟩, ?_, ?_⟩
                · have h1 := posT_rep_le x (lastT st.1 1)
                  have h2 := posL_nonneg (st.1.take (st.1.length - 1))
                  have h3 := (tmM_le x).1
                  rw [posL_append]
                  simp only [posL, Int.add_zero]
                  have h4 := Int.mul_le_mul_of_nonneg_right p (show 0 ≤ tmM x by omega)
                  have h5 := Int.mul_le_mul_of_nonneg_left h3 h2
                  rw [Int.add_mul] at h4
                  have e1 : ((i + 1 : Nat) : Int) * (st.2.1 * tmM x) = (i : Int) * st.2.1 * tmM x + st.2.1 * tmM x := by
                    rw [Int.natCast_add, Int.add_mul, Int.mul_assoc]; simp
                  have h6 : 0 ≤ st.2.1 * tmM x := Int.mul_nonneg (by omega) (by omega)
                  rw [e1]; omega
                · dsimp only; rw [grL_append, grL_cons, grL_nil, grT_mk, grL_cons, grL_nil, if_neg (by decide)]; omega
          · simp only [cond_false, cond_true]
            unfold cC at hC
            simp only [Bool.and_eq_true, decide_eq_true_eq] at hC
            have hp : 0 < st.1.length := by omega
            have es := split_last hp
            rw [set_last hp]
            rw [es, CRL_append, CRL_cons] at c
            rw [es, posL_append] at p
            rw [es, grL_append, grL_cons, grL_nil] at g
            simp only [posL, Int.add_zero] at p
            refine ⟨(CRL_append _ _).2 ⟨c.1, (CRL_cons _ _).2 ⟨(CR_iff _).2 ⟨right_grp _, (CRL_cons _ _).2 ⟨c.2.1, CRL_nil⟩⟩, CRL_nil⟩⟩, ?_, ?_⟩
            · rw [posL_append, posL, posT_eq _ (by simp only [Tr.k]; omega) (by simp only [Tr.k]; omega)]
              simp only [Tr.l, posL, Int.add_zero]; omega
            · dsimp only; rw [grL_append, grL_cons, grL_nil, grT_mk, grL_cons, grL_nil, if_pos rfl]; omega
        · simp only [cond_false, cond_true]
          unfold cB at hB
          simp only [Bool.and_eq_true, decide_eq_true_eq] at hB
          have hp : 2 ≤ st.1.length := by omega
          have es := split_two hp
          rw [es, CRL_append, CRL_cons, CRL_cons] at c
          rw [es, posL_append] at p
          rw [es, grL_append, grL_cons, grL_cons, grL_nil] at g
          simp only [posL, Int.add_zero] at p
          have n0 := posL_nonneg (st.1.take (st.1.length - 2))
          refine ⟨(CRL_append _ _).2 ⟨c.1, (CRL_cons _ _).2 ⟨joins4_CR c.2.1 c.2.2.1, CRL_nil⟩⟩, ?_, ?_⟩
          · have := joins_pos 4 (.inr rfl) (a := lastT st.1 2) (b := lastT st.1 1) (by omega)
            rw [posL_append]; simp only [posL, Int.add_zero]; omega
          · dsimp only; have := joins_gr 4 (.inr rfl) c.2.1 c.2.2.1
            rw [grL_append, grL_cons, grL_nil]; omega
      · simp only [cond_false, cond_true]
        unfold cA at hA
        simp only [Bool.and_eq_true, decide_eq_true_eq] at hA
        have hp : 2 ≤ st.1.length := by omega
        have es := split_two hp
        rw [es, CRL_append, CRL_cons, CRL_cons] at c
        rw [es, posL_append] at p
        rw [es, grL_append, grL_cons, grL_cons, grL_nil] at g
        simp only [posL, Int.add_zero] at p
        have n0 := posL_nonneg (st.1.take (st.1.length - 2))
        refine ⟨(CRL_append _ _).2 ⟨c.1, (CRL_cons _ _).2 ⟨joins3_CR c.2.1 c.2.2.1, CRL_nil⟩⟩, ?_, ?_⟩
        · have := joins_pos 3 (.inl rfl) (a := lastT st.1 2) (b := lastT st.1 1) (by omega)
          rw [posL_append]; simp only [posL, Int.add_zero]; omega
        · dsimp only; have := joins_gr 3 (.inl rfl) c.2.1 c.2.2.1
          rw [grL_append, grL_cons, grL_nil]; omega
    · simp only [cond_false, cond_true]
      refine ⟨(CRL_append _ _).2 ⟨c, (CRL_cons _ _).2 ⟨(CR_iff _).2 ⟨right_empty, CRL_nil⟩, CRL_nil⟩⟩, ?_, ?_⟩
      · rw [posL_append]; simp only [posL, posT_empty]; omega
      · dsimp only; rw [grL_append, grL_cons, grL_nil, grT_empty]; omega
  · simp only [cond_true]
    refine ⟨(CRL_append _ _).2 ⟨c, (CRL_cons _ _).2 ⟨cls_CR (Nat.mod_lt _ (by decide)), CRL_nil⟩⟩, ?_, ?_⟩
    · rw [posL_append]; simp only [posL, posT_cls]; omega
    · dsimp only; rw [grL_append, grL_cons, grL_nil, grT_cls]; omega
theorem okM (l : List Sm) (hl : l.length ≤ 25) : ∀ i, i ≤ l.length → OkM (MM l i) i
  | 0, _ => ⟨by simp [MM]; exact CRL_nil, by simp [MM, posL], by simp [MM, grL_nil]⟩
  | i + 1, h => by
    rw [MM_succ l i (by omega)]
    have := invM l i (by omega)
    exact okM_step _ (okM l hl i (by omega)) (by omega) ⟨this.2.1, this.2.2.1, this.2.2.2.1, this.2.2.2.2⟩
theorem fold_ok : ∀ (r : List Tr) (x : Tr), CR x → CRL r → posT x + posL r ≤ 400 →
    CR (r.foldl (joinsT 4) x) ∧ posT (r.foldl (joinsT 4) x) ≤ posT x + posL r ∧ grT (r.foldl (joinsT 4) x) ≤ grT x + grL r ∧ (pre (r.foldl (joinsT 4) x)).length ≤ (pre x).length + (preL r).length + r.length
  | [], x, h, _, _ => by simp [posL, grL_nil, preL, h]
  | y :: r, x, h, hr, hp => by
    rw [CRL_cons] at hr
    rw [posL] at hp
    have n1 := posL_nonneg r
    have j1 := joins_pos 4 (.inr rfl) (a := x) (b := y) (by omega)
    have j2 := joins_gr 4 (.inr rfl) h hr.1
    have j3 := flatJ_pre2 4 x y
    obtain ⟨k1, k2, k3, k4⟩ := fold_ok r (joinsT 4 x y) (joins4_CR h hr.1) hr.2 (by omega)
    rw [List.foldl_cons, posL, grL_cons, preL, List.length_append, List.length_cons]
    exact ⟨k1, by omega, by omega, by omega⟩
/-- **What Made makes.** -/
theorem made_ok (l : List Sm) : CR (madeT l) ∧ posT (madeT l) ≤ 400 ∧ grT (madeT l) ≤ 9 ∧ (pre (madeT l)).length ≤ 50 := by
  obtain ⟨m, hm⟩ : ∃ m, l.take 25 = m := ⟨_, rfl⟩
  have hlen : m.length ≤ 25 := by rw [← hm, List.length_take]; omega
  rw [madeT, hm]
  have e : MM m 25 = MM m m.length := by rw [MM, MM, List.take_of_length_le hlen, List.take_length]
  rw [e]
  have o := okM m hlen m.length (Nat.le_refl _)
  have v := invM m m.length (Nat.le_refl _)
  obtain ⟨c, p, g⟩ := o
  have p400 : posL (MM m m.length).1 ≤ 400 := by
    have := Int.mul_le_mul (show (m.length : Int) ≤ 25 by omega) v.2.2.2.2 (by omega) (by omega)
    omega
  match h : (MM m m.length).1 with
  | [] => exact ⟨cls_CR (j := 0) (by decide), by rw [endM, posT_cls]; omega, by rw [endM, grT_cls]; omega, by simp [endM, clsT, pre, preL]⟩
  | x :: r =>
    rw [h] at c p400 g v
    rw [CRL_cons] at c
    rw [posL] at p400
    rw [grL_cons] at g
    have hv := v.1
    rw [preL, List.length_append] at hv
    obtain ⟨k1, k2, k3, k4⟩ := fold_ok r x c.1 c.2 (by omega)
    have hr := length_le_preL r
    rw [endM]
    exact ⟨k1, by omega, by omega, by omega⟩
theorem clean_of {t : Tr} (h : CR t) (hl : (pre t).length ≤ 10000) : cleanT t = true := by
  rw [cleanT, lightT, Bool.and_eq_true]; exact ⟨by simpa using hl, h⟩
end Go.Ab
