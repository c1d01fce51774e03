/-
  TraceGoes: plain.
-/
import Derived.Test.YtcdmdnadilafhaaDoorZtW1
set_option linter.unusedSimpArgs false
set_option linter.unusedVariables false
namespace Go.Ab
open Go Go.RowKit Go.Fwd Go.Proofs

theorem letE_s {α β : Type} {e : α} {k : α → Option β} {r : Option β} (h : k e = r) : letE e k = r := h
/-- How many entries are alike. -/
def lcp : List En → List En → Nat
  | x :: a, y :: b => if x = y then lcp a b + 1 else 0
  | _, _ => 0
theorem lcp_le : ∀ a b, lcp a b ≤ a.length ∧ lcp a b ≤ b.length
  | x :: a, y :: b => by
    rw [lcp]
    have := lcp_le a b
    split <;> simp <;> omega
  | [], _ => by simp [lcp]
  | _ :: _, [] => by simp [lcp]
theorem lcp_same : ∀ (a b : List En) (i : Nat), i < lcp a b → a.getD i Enc.inh = b.getD i Enc.inh
  | x :: a, y :: b, i, h => by
    rw [lcp] at h
    split at h
    · rename_i e
      cases i with
      | zero => simp [e]
      | succ i => simpa using lcp_same a b i (by omega)
    · omega
  | [], _, i, h => by simp [lcp] at h
  | _ :: _, [], i, h => by simp [lcp] at h
theorem lcp_diff : ∀ (a b : List En), lcp a b < a.length → lcp a b < b.length → a.getD (lcp a b) Enc.inh ≠ b.getD (lcp a b) Enc.inh
  | x :: a, y :: b, h1, h2 => by
    rw [lcp] at h1 h2 ⊢
    split
    · rename_i e
      rw [if_pos e] at h1 h2
      simp at h1 h2
      simpa using lcp_diff a b h1 h2
    · rename_i e; simpa using e
  | [], _, h, _ => by simp at h
  | _ :: _, [], _, h => by simp at h
theorem lcp_pre : ∀ (a b : List En), lcp a b = a.length ↔ a <+: b
  | [], b => by simp [lcp]
  | x :: a, [] => by simp [lcp]
  | x :: a, y :: b => by
    rw [lcp, List.cons_prefix_cons]
    have := lcp_pre a b
    split
    · rename_i e; simp [e, this]
    · rename_i e; simp [e]
def difP (a b : Trc) : Int × Bool := if lcp a.l b.l = a.l.length ∧ lcp a.l b.l = b.l.length ∧ a.e = b.e then (0, false) else ((lcp a.l b.l : Int), true)
theorem differ_eq (fuel : Nat) (a b : Trc) (h : a.l.length < fuel) (hm : fuel < 2 ^ 60) : F_differ fuel a b = some (difP a b) := by
  have hl := lcp_le a.l b.l
  unfold F_differ
  refine cutE_i ((lcp a.l b.l : Nat) : Int) ?_ ?_
  · refine loopE_i (lcp a.l b.l) (fun i => (i : Int)) rfl ?_ ?_ (by omega)
    · intro i hi
      refine bif_t (by simp; omega) ?_
      refine chk_i (by omega) (letE_s (chk_i (by omega) (letE_s ?_)))
      refine bif_t ?_ (chk_i (by omega) rfl)
      simp only [ix, Int.toNat_natCast]
      exact decide_eq_true (lcp_same _ _ i hi)
    · by_cases hx : lcp a.l b.l < a.l.length ∧ lcp a.l b.l < b.l.length
      · refine bif_t (by simp; omega) ?_
        refine chk_i (by omega) (letE_s (chk_i (by omega) (letE_s ?_)))
        refine bif_f ?_ rfl
        simp only [ix, Int.toNat_natCast]
        exact decide_eq_false (lcp_diff _ _ hx.1 hx.2)
      · exact bif_f (by simp; omega) rfl
  · unfold difP
    have c1 : ((((lcp a.l b.l : Nat) : Int)) == (List.length a.l : Int)) = decide (lcp a.l b.l = a.l.length) := by
      by_cases h : lcp a.l b.l = a.l.length
      · simp [h]
      · have : ¬ ((lcp a.l b.l : Nat) : Int) = (List.length a.l : Int) := by omega
        simp [h, this]
    have c2 : ((((lcp a.l b.l : Nat) : Int)) == (List.length b.l : Int)) = decide (lcp a.l b.l = b.l.length) := by
      by_cases h : lcp a.l b.l = b.l.length
      · simp [h]
      · have : ¬ ((lcp a.l b.l : Nat) : Int) = (List.length b.l : Int) := by omega
        simp [h, this]
    rw [c1, c2]
    by_cases h1 : lcp a.l b.l = a.l.length
    · by_cases h2 : lcp a.l b.l = b.l.length
      · by_cases h3 : a.e = b.e
        · rw [if_pos ⟨h1, h2, h3⟩]
          exact cutE_r (0, false) (bif_t (decide_eq_true h1) (bif_t (decide_eq_true h2) (bif_t (decide_eq_true h3) rfl))) rfl
        · rw [if_neg (fun h => h3 h.2.2)]
          exact cutE_i () (bif_t (decide_eq_true h1) (bif_t (decide_eq_true h2) (bif_f (decide_eq_false h3) rfl))) rfl
      · rw [if_neg (fun h => h2 h.2.1)]
        exact cutE_i () (bif_t (decide_eq_true h1) (bif_f (decide_eq_false h2) rfl)) rfl
    · rw [if_neg (fun h => h1 h.1)]
      exact cutE_i () (bif_f (decide_eq_false h1) rfl) rfl
theorem equal_eq (fuel : Nat) (a b : List En) (h : a.length < fuel) (hm : fuel < 2 ^ 60) : F_equal fuel a b = some (decide (a = b)) := by
  have hl := lcp_le a b
  have hp := lcp_pre a b
  unfold F_equal
  by_cases hn : a.length = b.length
  · refine bif_f (by simp [hn]) ?_
    have body : ∀ i : Nat, i < lcp a b → i < a.length ∧ i < b.length := fun i hi => by omega
    by_cases hx : lcp a b = a.length
    · have hab : a = b := (hp.1 hx).eq_of_length hn
      rw [decide_eq_true hab]
      refine cutE_i () (loopE_i (lcp a b) (fun i => (i : Int)) rfl ?_ ?_ (by omega)) rfl
      · intro i hi
        refine bif_t (by simp; omega) ?_
        refine chk_i (by omega) (letE_s (chk_i (by omega) (letE_s ?_)))
        refine bif_f ?_ (chk_i (by omega) rfl)
        simp only [ix, Int.toNat_natCast]
        exact decide_eq_false (fun h => h (lcp_same _ _ i hi))
      · exact bif_f (by simp; omega) rfl
    · have hab : ¬ a = b := fun e => by subst e; exact hx ((lcp_pre a a).2 (List.prefix_refl _))
      rw [decide_eq_false hab]
      refine cutE_r false (loopE_i (lcp a b) (fun i => (i : Int)) rfl ?_ ?_ (by omega)) rfl
      · intro i hi
        refine bif_t (by simp; omega) ?_
        refine chk_i (by omega) (letE_s (chk_i (by omega) (letE_s ?_)))
        refine bif_f ?_ (chk_i (by omega) rfl)
        simp only [ix, Int.toNat_natCast]
        exact decide_eq_false (fun h => h (lcp_same _ _ i hi))
      · refine bif_t (by simp; omega) ?_
        refine chk_i (by omega) (letE_s (chk_i (by omega) (letE_s ?_)))
        refine bif_t ?_ rfl
        simp only [ix, Int.toNat_natCast]
        exact decide_eq_true (lcp_diff _ _ (by omega) (by omega))
  · have : ¬ ((a.length : Nat) : Int) = (b.length : Int) := by omega
    refine bif_t (by simp; omega) ?_
    rw [decide_eq_false (fun e => hn (by rw [e]))]
theorem same_eq (fuel : Nat) (a b : Trc) (h : a.l.length < fuel) (hm : fuel < 2 ^ 60) : F_same fuel a b = some (decide (a = b)) := by
  unfold F_same
  refine bindE_i _ (equal_eq fuel _ _ h hm) ?_
  obtain ⟨al, ae⟩ := a
  obtain ⟨bl, be⟩ := b
  simp only [Trc.mk.injEq]
  by_cases h1 : al = bl
  · rw [decide_eq_true h1]
    refine bif_t rfl ?_
    simp [h1]
  · rw [decide_eq_false h1]
    refine bif_f rfl ?_
    simp [h1]
/-- A trace may become another one. -/
def goesP (a b : Trc) : Bool := decide (a = b) || (decide (a.e = ⟨1, 0⟩) && decide (a.l <+: b.l))
theorem goes_eq (fuel : Nat) (a b : Trc) (h : a.l.length < fuel) (hm : fuel < 2 ^ 60) : F_goes fuel a b = some (goesP a b) := by
  unfold F_goes
  refine bindE_i _ (differ_eq fuel a b h hm) ?_
  have hl := lcp_le a.l b.l
  have hp := lcp_pre a.l b.l
  unfold difP goesP
  by_cases hs : lcp a.l b.l = a.l.length ∧ lcp a.l b.l = b.l.length ∧ a.e = b.e
  · rw [if_pos hs]
    have hab : a = b := by
      obtain ⟨al, ae⟩ := a
      obtain ⟨bl, be⟩ := b
      simp only at hs hp
      have hpre := hp.1 hs.1
      have := hpre.eq_of_length (by omega)
      rw [this, hs.2.2]
    refine bif_t rfl ?_
    rw [decide_eq_true hab]; rfl
  · rw [if_neg hs]
    have hab : ¬ a = b := fun e => by
      subst e
      refine hs ⟨?_, ?_, rfl⟩ <;> exact (lcp_pre a.l a.l).2 (List.prefix_refl _)
    refine bif_f rfl ?_
    rw [decide_eq_false hab, Bool.false_or]
    by_cases he : a.e = ⟨1, 0⟩
    · refine bif_t (decide_eq_true he) ?_
      rw [decide_eq_true he, Bool.true_and]
      by_cases hx : lcp a.l b.l = a.l.length
      · rw [decide_eq_true (hp.1 hx)]; simp [hx]
      · rw [decide_eq_false (fun h => hx (hp.2 h))]
        have : ¬ ((lcp a.l b.l : Nat) : Int) = (List.length a.l : Int) := by omega
        simp [this]
    · refine bif_f (decide_eq_false he) ?_
      rw [decide_eq_false he]; rfl
end Go.Ab
