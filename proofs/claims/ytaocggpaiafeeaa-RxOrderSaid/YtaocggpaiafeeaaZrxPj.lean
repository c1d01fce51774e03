/-
  Plain: Seq and Or join clean trees, together in any way.
-/
import Derived.Test.YtaocggpaiafeeaaZrxPt
set_option linter.unusedSimpArgs false
set_option linter.unusedVariables false
namespace Go.Ab
open Go Go.RowKit Go.Fwd Go.Proofs

theorem flatT3 (l : List Tr) : flatT 3 1 l = flatJ 3 l := by
  unfold flatT flatJ
  congr 1
theorem flatT4 : ∀ {l : List Tr}, (∀ t ∈ l, t.k ≠ 0) → flatT 4 0 l = flatJ 4 l
  | [], _ => rfl
  | x :: l, h => by
    have ih := flatT4 (l := l) fun t ht => h t (List.mem_cons_of_mem _ ht)
    have e0 : ((x.k : Int) == ((0 : Nat) : Int)) = false := by have := h x (by simp); simp; omega
    rw [flatJ_cons, ← ih, flatT, List.flatMap_cons, ← flatT, e0]
    rfl
/-- Clean, not none, and small. -/
def CS (n : Nat) (t : Tr) : Prop := CR t ∧ (pre t).length ≤ n
theorem MT.cs {t : Tr} (h : MT t) : CS 50 t := ⟨h.cr, h.len⟩
theorem CR.k0 {t : Tr} (h : CR t) : t.k ≠ 0 := by have := right_k ((CR_iff t).1 h).1; omega
theorem emp_of {t : Tr} (h : CR t) (hk : t.k = 1) : t = emptyT := by
  have hr := ((CR_iff t).1 h).1
  cases t with
  | mk k s mn mx l =>
    simp only [Tr.k] at hk; subst hk
    rw [rightT_mk, oddT_mk] at hr
    simp only [Bool.and_eq_true, Bool.not_eq_true', Bool.or_eq_false_iff] at hr
    obtain ⟨⟨⟨h1, h2⟩, h3⟩, _⟩ := hr
    simp at h1 h2 h3
    have hl : l = [] := by cases l with | nil => rfl | cons x l => simp at h3
    rw [h1, h2.1, h2.2, hl]; rfl
/-- A Cat or an Alt is its kind and its Subs. -/
theorem eta_of {t : Tr} {kind : Nat} (h : CR t) (hk : t.k = kind) (h2 : kind = 3 ∨ kind = 4) : t = .mk kind 0#256 0 0 t.l := by
  have hr := ((CR_iff t).1 h).1
  cases t with
  | mk k s mn mx l =>
    simp only [Tr.k] at hk; subst hk
    rw [rightT_mk, oddT_mk] at hr
    simp only [Bool.and_eq_true, Bool.not_eq_true', Bool.or_eq_false_iff] at hr
    obtain ⟨⟨⟨h1, h3⟩, _⟩, _⟩ := hr
    have e2 : ((k : Int) != 2) = true := by simp; omega
    have e5 : ((k : Int) != 5) = true := by simp; omega
    rw [e2, Bool.true_and] at h1
    rw [e5, Bool.true_and] at h3
    simp at h1 h3
    rw [h1, h3.1, h3.2]; rfl
theorem len_CRL {l : List Tr} : (preL (flatJ 3 l)).length ≤ (preL l).length := flatJ_preL 3 l
theorem endJ_len (kind : Nat) : ∀ l : List Tr, (pre (endJ kind l)).length ≤ (preL l).length + 1
  | [] => by rw [show endJ kind [] = emptyT from rfl]; simp [emptyT, pre, preL]
  | [x] => by rw [endJ_one]; simp [preL]
  | x :: y :: l => by rw [endJ_two, pre, List.length_cons]; omega
theorem checked_of {t : Tr} (h : cleanT t = true) : checkedT t = t := by rw [checkedT, if_pos h]
theorem seq_eq {l : List Tr} (h : CRL l) (hl : (preL l).length ≤ 1000) : seqT l = endJ 3 (flatJ 3 l) := by
  have hc := (CRL_iff l).1 h
  have hln : ∀ t ∈ l, (pre t).length ≤ 1000 := fun t ht => by
    have : ∀ (l : List Tr), t ∈ l → (pre t).length ≤ (preL l).length := by
      intro l
      induction l with
      | nil => intro h; cases h
      | cons y l ih =>
        intro h
        rw [preL, List.length_append]
        rcases List.mem_cons.1 h with rfl | h
        · omega
        · have := ih h; omega
    have := this l ht; omega
  have ha : (l.any fun x => (x.k : Int) == 0 || !cleanT x) = false := by
    rw [List.any_eq_false]
    intro x hx
    have h1 := clean_of (hc x hx) (by have := hln x hx; omega)
    have h2 := (hc x hx).k0
    simp [h1]; omega
  rw [seqT, ha, if_neg (by decide), flatT3]
  have g := flat3_good h
  have hfl := flatJ_preL 3 l
  have hend := endJ_len 3 (flatJ 3 l)
  have hcr := endJ3_CR g
  revert hend hcr
  generalize flatJ 3 l = m at g hfl
  intro hend hcr
  match m, g, hend, hcr with
  | [], _, _, _ => rfl
  | [x], _, hend, hcr =>
    rw [endJ_one] at hend hcr ⊢
    show checkedT x = x
    exact checked_of (clean_of hcr (by omega))
  | x :: y :: m, _, hend, hcr =>
    rw [endJ_two] at hend hcr ⊢
    have e1 : (((x :: y :: m).length : Int) == 0) = false := by simp; omega
    have e2 : (((x :: y :: m).length : Int) == 1) = false := by simp; omega
    rw [joinedT, e1, e2]
    exact checked_of (clean_of hcr (by omega))
theorem flat4_ne {l : List Tr} (h : CRL l) (hl : l ≠ []) : flatJ 4 l ≠ [] := by
  cases l with
  | nil => exact absurd rfl hl
  | cons x l =>
    rw [CRL_cons] at h
    rw [flatJ_cons]
    by_cases h4 : x.k = 4
    · have e : ((x.k : Int) == ((4 : Nat) : Int)) = true := by simp [h4]
      rw [e, cond_true]
      have hlen := (right_alt_inv ((CR_iff x).1 h.1).1 h4).1
      intro hn
      have h1 := (List.append_eq_nil_iff.1 hn).1
      rw [h1] at hlen
      simp at hlen
    · have e : ((x.k : Int) == ((4 : Nat) : Int)) = false := by simp; omega
      have e1 : ((((4 : Nat) : Int) == 3) && ((x.k : Int) == 1)) = false := by simp
      rw [e, cond_false, e1, cond_false]
      simp
theorem or_eq {l : List Tr} (h : CRL l) (hne : l ≠ []) (hl : (preL l).length ≤ 1000) : orT l = endJ 4 (flatJ 4 l) := by
  have hc := (CRL_iff l).1 h
  have hln : ∀ t ∈ l, (pre t).length ≤ 1000 := fun t ht => by
    have : ∀ (l : List Tr), t ∈ l → (pre t).length ≤ (preL l).length := by
      intro l
      induction l with
      | nil => intro h; cases h
      | cons y l ih =>
        intro h
        rw [preL, List.length_append]
        rcases List.mem_cons.1 h with rfl | h
        · omega
        · have := ih h; omega
    have := this l ht; omega
  have ha : (l.any fun x => !goodT x) = false := by
    rw [List.any_eq_false]
    intro x hx
    have h1 := clean_of (hc x hx) (by have := hln x hx; omega)
    rw [goodT, h1]; simp
  rw [orT, ha, if_neg (by decide), flatT4 fun t ht => (hc t ht).k0]
  have g := flat4_good h
  have hn := flat4_ne h hne
  have hfl := flatJ_preL 4 l
  have hend := endJ_len 4 (flatJ 4 l)
  have hcr := endJ4_CR g
  revert hend hcr hn
  generalize flatJ 4 l = m at g hfl
  intro hn hend hcr
  match m, g, hend, hcr, hn with
  | [], _, _, _, hn => exact absurd rfl hn
  | [x], _, hend, hcr, _ =>
    rw [endJ_one] at hend hcr ⊢
    show checkedT x = x
    exact checked_of (clean_of hcr (by omega))
  | x :: y :: m, _, hend, hcr, _ =>
    rw [endJ_two] at hend hcr ⊢
    have e1 : (((x :: y :: m).length : Int) == 0) = false := by simp; omega
    have e2 : (((x :: y :: m).length : Int) == 1) = false := by simp; omega
    rw [joinedT, e1, e2]
    exact checked_of (clean_of hcr (by omega))
/-- A joined list is flat. -/
theorem flat3_end : ∀ {m : List Tr}, G3 m → flatJ 3 [endJ 3 m] = m
  | [], _ => rfl
  | [x], h => by
    have hx := h.2 x (by simp)
    rw [endJ_one, flatJ_cons, flatJ_nil]
    have e : ((x.k : Int) == ((3 : Nat) : Int)) = false := by simp; omega
    have e1 : ((((3 : Nat) : Int) == 3) && ((x.k : Int) == 1)) = false := by simp; omega
    rw [e, cond_false, e1]; rfl
  | x :: y :: m, _ => by rw [endJ_two, flatJ_cons, flatJ_nil, List.append_nil]; rfl
theorem flat4_end : ∀ {m : List Tr}, G4 m → m ≠ [] → flatJ 4 [endJ 4 m] = m
  | [], _, h => absurd rfl h
  | [x], h, _ => by
    have hx := h.2 x (by simp)
    rw [endJ_one, flatJ_cons, flatJ_nil]
    have e : ((x.k : Int) == ((4 : Nat) : Int)) = false := by simp; omega
    have e1 : ((((4 : Nat) : Int) == 3) && ((x.k : Int) == 1)) = false := by simp
    rw [e, cond_false, e1]; rfl
  | x :: y :: m, _, _ => by rw [endJ_two, flatJ_cons, flatJ_nil, List.append_nil]; rfl
theorem end3_flat {t : Tr} (h : CR t) : endJ 3 (flatJ 3 [t]) = t := by
  rw [flatJ_cons, flatJ_nil, List.append_nil]
  by_cases h3 : t.k = 3
  · have e : ((t.k : Int) == ((3 : Nat) : Int)) = true := by simp [h3]
    rw [e, cond_true]
    have hl := (right_cat_inv ((CR_iff t).1 h).1 h3).1
    have he := eta_of h h3 (.inl rfl)
    match hm : t.l, hl with
    | x :: y :: m, _ => rw [endJ_two, ← hm]; exact he.symm
    | [], hl => simp at hl
    | [x], hl => simp at hl
  · have e : ((t.k : Int) == ((3 : Nat) : Int)) = false := by simp; omega
    rw [e, cond_false]
    by_cases h1 : t.k = 1
    · rw [emp_of h h1]; rfl
    · have e1 : ((((3 : Nat) : Int) == 3) && ((t.k : Int) == 1)) = false := by simp; omega
      rw [e1]; rfl
theorem end4_flat {t : Tr} (h : CR t) : endJ 4 (flatJ 4 [t]) = t := by
  rw [flatJ_cons, flatJ_nil, List.append_nil]
  by_cases h3 : t.k = 4
  · have e : ((t.k : Int) == ((4 : Nat) : Int)) = true := by simp [h3]
    rw [e, cond_true]
    have hl := (right_alt_inv ((CR_iff t).1 h).1 h3).1
    have he := eta_of h h3 (.inr rfl)
    match hm : t.l, hl with
    | x :: y :: m, _ => rw [endJ_two, ← hm]; exact he.symm
    | [], hl => simp at hl
    | [x], hl => simp at hl
  · have e : ((t.k : Int) == ((4 : Nat) : Int)) = false := by simp; omega
    have e1 : ((((4 : Nat) : Int) == 3) && ((t.k : Int) == 1)) = false := by simp
    rw [e, cond_false, e1]; rfl
/-! ### positions, groups and sizes of what is joined -/
theorem flatJ_posE (kind : Nat) (hk : kind = 3 ∨ kind = 4) : ∀ l : List Tr, CRL l → posL l ≤ 10000 → posL (flatJ kind l) = posL l
  | [], _, _ => rfl
  | x :: l, hc, h => by
    rw [CRL_cons] at hc
    rw [posL] at h
    have h1 := posT_nonneg x
    have h2 := posL_nonneg l
    have ih := flatJ_posE kind hk l hc.2 (by omega)
    rw [flatJ_cons, posL_append, posL, ih]
    have : posL (bif (x.k : Int) == kind then x.l else bif (kind : Int) == 3 && (x.k : Int) == 1 then [] else [x]) = posT x := by
      cases e : (x.k : Int) == kind
      · rw [cond_false]
        cases e1 : (kind : Int) == 3 && (x.k : Int) == 1
        · simp [posL]
        · have hk1 : x.k = 1 := by simp at e1; omega
          rw [cond_true, emp_of hc.1 hk1, posT_empty]; rfl
      · rw [cond_true]
        have e' : x.k = kind := by simp at e; omega
        have := posT_eq x (by omega) (by omega)
        omega
    omega
theorem endJ_posE (kind : Nat) (hk : kind = 3 ∨ kind = 4) : ∀ l : List Tr, posL l ≤ 10000 → posT (endJ kind l) = posL l
  | [], _ => by rw [show endJ kind [] = emptyT from rfl, posT_empty]; simp [posL]
  | [x], _ => by rw [endJ_one]; simp [posL]
  | x :: y :: l, h => by
    rw [endJ_two, posT_eq _ (by simp only [Tr.k]; omega) (by simp only [Tr.k]; omega)]
    simp only [Tr.l]; omega
theorem flatJ_grE (kind : Nat) (hk : kind = 3 ∨ kind = 4) : ∀ l : List Tr, CRL l → grL (flatJ kind l) = grL l
  | [], _ => rfl
  | x :: l, h => by
    rw [CRL_cons] at h
    have ih := flatJ_grE kind hk l h.2
    rw [flatJ_cons, grL_append, grL_cons, ih]
    have : grL (bif (x.k : Int) == kind then x.l else bif (kind : Int) == 3 && (x.k : Int) == 1 then [] else [x]) = grT x := by
      cases e : (x.k : Int) == kind
      · rw [cond_false]
        cases e1 : (kind : Int) == 3 && (x.k : Int) == 1
        · rw [cond_false, grL_cons, grL_nil]; omega
        · have hk1 : x.k = 1 := by simp at e1; omega
          rw [cond_true, emp_of h.1 hk1, grT_empty, grL_nil]
      · rw [cond_true]
        have e' : x.k = kind := by simp at e; omega
        have := grT_eq x
        rw [if_neg (by omega)] at this; omega
    omega
theorem endJ_grE (kind : Nat) (hk : kind = 3 ∨ kind = 4) : ∀ l : List Tr, grT (endJ kind l) = grL l
  | [] => by rw [show endJ kind [] = emptyT from rfl, grT_empty, grL_nil]
  | [x] => by rw [endJ_one, grL_cons, grL_nil]; omega
  | x :: y :: l => by rw [endJ_two, grT_mk, if_neg (by omega)]; omega
theorem flat4_len : ∀ l : List Tr, (preL l).length ≤ (preL (flatJ 4 l)).length + l.length
  | [] => by simp [preL]
  | x :: l => by
    have ih := flat4_len l
    rw [flatJ_cons, preL_append, preL, List.length_append, List.length_append, List.length_cons]
    have : (pre x).length ≤ (preL (bif (x.k : Int) == ((4 : Nat) : Int) then x.l else bif ((4 : Nat) : Int) == 3 && (x.k : Int) == 1 then [] else [x])).length + 1 := by
      cases e : (x.k : Int) == ((4 : Nat) : Int)
      · have e1 : ((((4 : Nat) : Int) == 3) && ((x.k : Int) == 1)) = false := by simp
        rw [cond_false, e1, cond_false]; simp [preL]
      · rw [cond_true, pre_eq]; simp
    omega
theorem end4_len : ∀ {m : List Tr}, 2 ≤ m.length → (pre (endJ 4 m)).length = (preL m).length + 1
  | [], h => by simp at h
  | [x], h => by simp at h
  | x :: y :: m, _ => by rw [endJ_two, pre, List.length_cons]
theorem flat4_many : ∀ l : List Tr, CRL l → l.length ≤ (flatJ 4 l).length
  | [], _ => by simp
  | x :: l, h => by
    rw [CRL_cons] at h
    have ih := flat4_many l h.2
    have hne := flat4_ne (l := [x]) ((CRL_cons _ _).2 ⟨h.1, CRL_nil⟩) (by simp)
    rw [show x :: l = [x] ++ l from rfl, flatJ_append, List.length_append, List.length_append]
    have := List.length_pos_iff.2 hne
    simp only [List.length_cons, List.length_nil]; omega
end Go.Ab
