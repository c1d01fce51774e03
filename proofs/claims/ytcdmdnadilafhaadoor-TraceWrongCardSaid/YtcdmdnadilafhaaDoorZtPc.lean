/-
  trace: Check, Taken, Lost, At, Sent: plain.
-/
import Derived.Test.YtcdmdnadilafhaaDoorZtW8
import Derived.Test.YtcdmdnadilafhaaDoorZtPq
set_option linter.unusedSimpArgs false
set_option linter.unusedVariables false
namespace Go.Ab
open Go Go.RowKit Go.Fwd Go.Proofs
def rightB (e : En) (a : Int) : Bool := decide (rightP e a)
theorem rightB_t {e : En} {a : Int} (h : rightP e a) : rightB e a = true := decide_eq_true h
theorem rightB_f {e : En} {a : Int} (h : ¬ rightP e a) : rightB e a = false := decide_eq_false h
theorem right_eq (e : En) (a : Int) : F_right e a = some (rightB e a) := by
  unfold rightB
  obtain ⟨k, fr, to, b⟩ := e
  unfold F_right rightP
  simp only [En.mk.injEq]
  by_cases h1 : k = 1
  · subst h1
    refine bif_t rfl ?_
    by_cases h2 : fr = 0
    · by_cases h3 : to = 0
      · refine (bif_t (by simp [h2, h3]) ?_)
        have e1 : ((List.length b : Int) ≤ 512) ↔ b.length ≤ 512 := by omega
        simp [h2, h3, e1]
      · refine (bif_f (by simp [h2, h3]) ?_)
        simp [h3]
    · refine (bif_f (by simp [h2]) ?_)
      simp [h2]
  · refine bif_f (by simpa using h1) ?_
    by_cases h2 : k = 2
    · subst h2
      refine cutE_i true (bif_t rfl rfl) (bif_t rfl ?_)
      by_cases h3 : fr = a
      · by_cases h4 : b = []
        · refine bif_t (by simp [h3, h4]) ?_
          by_cases h5 : to ≥ a
          · refine bif_t (decide_eq_true h5) ?_
            by_cases h6 : to ≤ 1073741824
            · refine bif_t (decide_eq_true h6) (bif_t rfl ?_)
              simp [h3, h4, h5, h6]
            · refine bif_f (decide_eq_false h6) ?_
              simp [h6]
          · refine bif_f (decide_eq_false h5) ?_
            have : ¬ a ≤ to := h5
            simp [this]
        · refine bif_f (by simp [h4]) ?_
          simp [h4]
      · refine bif_f (by simp [h3]) ?_
        simp [h3]
    · by_cases h2' : k = 3
      · subst h2'
        refine cutE_i true (bif_f rfl rfl) (bif_t rfl ?_)
        by_cases h3 : fr = a
        · by_cases h4 : b = []
          · refine bif_t (by simp [h3, h4]) ?_
            by_cases h5 : to ≥ a
            · refine bif_t (decide_eq_true h5) ?_
              by_cases h6 : to ≤ 1073741824
              · refine bif_t (decide_eq_true h6) (bif_f rfl ?_)
                simp [h3, h4, h5, h6]
              · refine bif_f (decide_eq_false h6) ?_
                simp [h6]
            · refine bif_f (decide_eq_false h5) ?_
              have : ¬ a ≤ to := h5
              simp [this]
          · refine bif_f (by simp [h4]) ?_
            simp [h4]
        · refine bif_f (by simp [h3]) ?_
          simp [h3]
      · refine cutE_i false (bif_f (by simpa using h2) (by simp [h2'])) (bif_f rfl ?_)
        simp [h1, h2, h2']
def endedB (e : Ed) : Bool := if e.k = 2 then decide (0 ≤ e.c ∧ e.c ≤ 255) else decide (1 ≤ e.k ∧ e.k ≤ 5 ∧ e.c = 0)
theorem nameE_ne (k : Int) (h : 0 ≤ k ∧ k < 256) : (!(nameE k == ([] : List UInt8))) = decide (1 ≤ k ∧ k ≤ 5) := by
  have h6 : 6 ≤ k.toNat → nameE k = [] := fun h => by
    unfold nameE nameL
    rw [List.getD_eq_getElem?_getD, List.getElem?_eq_none (by simpa using h)]; rfl
  rcases Nat.lt_or_ge k.toNat 6 with h1 | h1
  · have : k = 0 ∨ k = 1 ∨ k = 2 ∨ k = 3 ∨ k = 4 ∨ k = 5 := by omega
    rcases this with rfl | rfl | rfl | rfl | rfl | rfl <;> decide
  · rw [h6 h1]
    have : ¬ (1 ≤ k ∧ k ≤ 5) := by omega
    simp [this]
theorem ended_eq (e : Ed) (h : 0 ≤ e.k ∧ e.k < 256) : F_ended e = some (endedB e) := by
  obtain ⟨k, c⟩ := e
  simp only at h
  unfold F_ended endedB
  by_cases h1 : k = 2
  · subst h1
    refine bif_t rfl ?_
    by_cases h2 : c ≥ 0
    · refine bif_t (decide_eq_true h2) ?_
      have : (0 : Int) ≤ c := h2
      simp [this]
    · refine bif_f (decide_eq_false h2) ?_
      have : ¬ (0 : Int) ≤ c := h2
      simp [this]
  · refine bif_f (by simpa using h1) (chk_i h (letE_s ?_))
    simp only [nameE_ne k h, if_neg h1]
    by_cases h2 : 1 ≤ k ∧ k ≤ 5
    · refine bif_t (decide_eq_true h2) ?_
      by_cases h3 : c = 0 <;> simp [h2, h3]
    · refine bif_f (decide_eq_false h2) ?_
      have : ¬ (1 ≤ k ∧ k ≤ 5 ∧ c = 0) := fun h => h2 ⟨h.1, h.2.1⟩
      simp [this]
def nOk : Int → List En → Nat
  | _, [] => 0
  | a, e :: l => if rightP e a then nOk (max a e.to) l + 1 else 0
theorem nOk_le : ∀ (a : Int) (l : List En), nOk a l ≤ l.length
  | _, [] => Nat.le_refl _
  | a, e :: l => by
    rw [nOk]
    have := nOk_le (max a e.to) l
    split <;> simp; omega
theorem nOk_right : ∀ (a : Int) (l : List En) (i : Nat), i < nOk a l → rightP (l.getD i Enc.inh) (atL a (l.take i))
  | _, [], i, h => by simp [nOk] at h
  | a, e :: l, i, h => by
    rw [nOk] at h
    split at h
    · rename_i he
      cases i with
      | zero => exact he
      | succ i => simpa [atL] using nOk_right (max a e.to) l i (by omega)
    · omega
theorem nOk_bad : ∀ (a : Int) (l : List En), nOk a l < l.length → ¬ rightP (l.getD (nOk a l) Enc.inh) (atL a (l.take (nOk a l)))
  | _, [], h => by simp [nOk] at h
  | a, e :: l, h => by
    rw [nOk] at h ⊢
    split
    · rename_i he
      rw [if_pos he] at h
      simp at h
      simpa [atL] using nOk_bad (max a e.to) l h
    · rename_i he; simpa [atL] using he
theorem nOk_ok : ∀ (a : Int) (l : List En), okL a l ↔ nOk a l = l.length
  | _, [] => by simp [okL, nOk]
  | a, e :: l => by
    rw [okL, nOk]
    have := nOk_ok (max a e.to) l
    by_cases he : rightP e a
    · simp [he, this]
    · simp [he]
theorem nOk_app (a : Int) (l m : List En) (h : okL a l) : nOk a (l ++ m) = l.length + nOk (atL a l) m := by
  induction l generalizing a with
  | nil => simp [atL]
  | cons e l ih =>
    rw [List.cons_append, nOk, if_pos h.1, ih _ h.2, atL, List.length_cons]; omega
theorem take_succ' {l : List En} {i : Nat} (h : i < l.length) : l.take (i + 1) = l.take i ++ [l.getD i Enc.inh] := by
  rw [List.take_add_one]; simp [h]
def checkP (t : Trc) : Int × Int := if t.l.length > 65536 then (-1, 5) else if nOk 0 t.l < t.l.length then ((nOk 0 t.l : Nat), 330) else if endedB t.e = true then (-1, 0) else (-1, 331)
theorem check_eq (fuel : Nat) (t : Trc) (hf : t.l.length < fuel) (hk : 0 ≤ t.e.k ∧ t.e.k < 256) : F_check fuel t = some (checkP t) := by
  have hle := nOk_le 0 t.l
  unfold F_check checkP
  by_cases hlen : t.l.length > 65536
  · rw [if_pos hlen]; exact bif_t (decide_eq_true (by omega)) rfl
  rw [if_neg hlen]
  refine bif_f (decide_eq_false (by omega)) ?_
  have step : ∀ i : Nat, i < t.l.length → atL 0 (t.l.take (i + 1)) = max (atL 0 (t.l.take i)) (t.l.getD i Enc.inh).to := fun i hi => by
    rw [take_succ' hi, atL_app]; rfl
  by_cases hn : nOk 0 t.l < t.l.length
  · rw [if_pos hn]
    refine cutE_r _ (loopE_i (nOk 0 t.l) (fun i => (atL 0 (t.l.take i), (i : Int))) rfl ?_ ?_ (by omega)) rfl
    · intro i hi
      refine bif_t (decide_eq_true (by simp only; omega)) (chk_i (by simp only; omega) (letE_s (bindE_i _ (right_eq _ _) ?_)))
      simp only [ix, Int.toNat_natCast]
      refine bif_f ?_ (chk_i (by omega) ?_)
      · rw [rightB_t (nOk_right 0 t.l i hi)]; rfl
      · rw [step i (by omega)]; rfl
    · refine bif_t (decide_eq_true (by simp only; omega)) (chk_i (by simp only; omega) (letE_s (bindE_i _ (right_eq _ _) ?_)))
      simp only [ix, Int.toNat_natCast]
      refine bif_t ?_ rfl
      rw [rightB_f (nOk_bad 0 t.l hn)]; rfl
  · rw [if_neg hn]
    refine cutE_i () (loopE_i (nOk 0 t.l) (fun i => (atL 0 (t.l.take i), (i : Int))) rfl ?_ (bif_f (decide_eq_false (by simp only; omega)) rfl) (by omega)) (bindE_i _ (ended_eq _ hk) ?_)
    · intro i hi
      refine bif_t (decide_eq_true (by simp only; omega)) (chk_i (by simp only; omega) (letE_s (bindE_i _ (right_eq _ _) ?_)))
      simp only [ix, Int.toNat_natCast]
      refine bif_f ?_ (chk_i (by omega) ?_)
      · rw [rightB_t (nOk_right 0 t.l i hi)]; rfl
      · rw [step i (by omega)]; rfl
    · cases endedB t.e <;> rfl
def sumP (p : En → Bool) : List En → Int
  | [] => 0
  | e :: l => (if p e then e.to - e.fr else 0) + sumP p l
theorem sumP_app (p : En → Bool) : ∀ l m, sumP p (l ++ m) = sumP p l + sumP p m
  | [], m => by simp [sumP]
  | e :: l, m => by rw [List.cons_append, sumP, sumP, sumP_app p l m]; omega
theorem sumP_bnd (p : En → Bool) : ∀ (a : Int) (l : List En), 0 ≤ a → okL a l → 0 ≤ sumP p l ∧ sumP p l ≤ 1073741824 * l.length
  | _, [], _, _ => by simp [sumP]
  | a, e :: l, ha, h => by
    obtain ⟨h1, h2⟩ := sumP_bnd p (max a e.to) l (by omega) h.2
    have he : 0 ≤ e.to - e.fr ∧ e.to - e.fr ≤ 1073741824 := by
      rcases h.1 with ⟨_, k2, k3, _⟩ | ⟨_, k2, _, k4, k5, _⟩ <;> omega
    rw [sumP, List.length_cons]
    split <;> omega
theorem okL_take {a : Int} {l : List En} (h : okL a l) (i : Nat) : okL a (l.take i) := by
  have := (okL_app a (l.take i) (l.drop i)).1 (by rw [List.take_append_drop]; exact h)
  exact this.1
theorem okL_at {a : Int} {l : List En} (h : okL a l) {i : Nat} (hi : i < l.length) : rightP (l.getD i Enc.inh) (atL a (l.take i)) := nOk_right a l i (by rw [(nOk_ok a l).1 h]; exact hi)
theorem rightP_bnd {e : En} {a : Int} (ha : 0 ≤ a) (h : rightP e a) : 0 ≤ e.to - e.fr ∧ e.to - e.fr ≤ 1073741824 ∧ 0 ≤ e.fr ∧ 0 ≤ e.to ∧ e.to ≤ 1073741824 := by
  rcases h with ⟨_, k2, k3, _⟩ | ⟨_, k2, _, k4, k5, _⟩ <;> omega
theorem checkP_ok {t : Trc} : (checkP t).2 = 0 ↔ t.l.length ≤ 65536 ∧ okL 0 t.l ∧ endedB t.e = true := by
  have hle := nOk_le 0 t.l
  have hok := nOk_ok 0 t.l
  unfold checkP
  by_cases h1 : t.l.length > 65536
  · rw [if_pos h1]; simp; omega
  · rw [if_neg h1]
    by_cases h2 : nOk 0 t.l < t.l.length
    · rw [if_pos h2]
      have : ¬ okL 0 t.l := fun h => by have := hok.1 h; omega
      simp [this]
    · rw [if_neg h2]
      have : okL 0 t.l := hok.2 (by omega)
      cases endedB t.e <;> simp [this]; omega
theorem sum_loop (p : En → Bool) (F : En → Option Bool) (hF : ∀ e, F e = some (p e)) (fuel : Nat) (t : Trc) (hf : t.l.length < fuel) (hk : 0 ≤ t.e.k ∧ t.e.k < 256) :
    (bindE (F_check fuel t) (fun x1 => (bif (x1.2 != 0) then (some 0) else (cutE (τ := Int) (loopE (β := Int × Int) (fun s1 => (bif (decide (s1.2 < (List.length t.l : Int))) then (cutE (τ := Int) (chk (0 ≤ s1.2 ∧ s1.2 < (List.length t.l : Int)) (letE (ix t.l s1.2) (fun x2 => (bindE (F x2) (fun x3 => (bif x3 then (chk (-9223372036854775808 ≤ (x2.to - x2.fr) ∧ (x2.to - x2.fr) < 9223372036854775808) (chk (-9223372036854775808 ≤ (s1.1 + (x2.to - x2.fr)) ∧ (s1.1 + (x2.to - x2.fr)) < 9223372036854775808) (some (Sum.inl ((s1.1 + (x2.to - x2.fr))))))) else (some (Sum.inl (s1.1))))))))) (fun j2 => (chk (-9223372036854775808 ≤ (s1.2 + 1) ∧ (s1.2 + 1) < 9223372036854775808) (some (Sum.inl (j2, (s1.2 + 1))))))) else (some (Sum.inr (Sum.inl (s1.1)))))) fuel (0, 0)) (fun j1 => (some j1))))) : Option Int) = some (if (checkP t).2 = 0 then sumP p t.l else 0) := by
  refine bindE_i _ (check_eq fuel t hf hk) ?_
  by_cases h0 : (checkP t).2 = 0
  · rw [if_pos h0]
    obtain ⟨h1, h2, h3⟩ := checkP_ok.1 h0
    refine bif_f (by simp [h0]) ?_
    refine cutE_i (sumP p t.l) (loopE_i t.l.length (fun i => (sumP p (t.l.take i), (i : Int))) rfl ?_ ?_ hf) rfl
    · intro i hi
      have hr := rightP_bnd (a := atL 0 (t.l.take i)) (atL_ge _ _) (okL_at h2 hi)
      have hb := sumP_bnd p 0 (t.l.take i) (by omega) (okL_take h2 i)
      have hlt : (t.l.take i).length ≤ 65536 := by simp; omega
      have hs : sumP p (t.l.take (i + 1)) = sumP p (t.l.take i) + (if p (t.l.getD i Enc.inh) then (t.l.getD i Enc.inh).to - (t.l.getD i Enc.inh).fr else 0) := by
        rw [take_succ' hi, sumP_app, sumP, sumP]; omega
      refine bif_t (decide_eq_true (by simp only; omega)) (cutE_i (sumP p (t.l.take (i + 1))) (chk_i (by simp only; omega) (letE_s (bindE_i _ (hF _) ?_))) (chk_i (by simp only; omega) rfl))
      simp only [ix, Int.toNat_natCast]
      cases hp : p (t.l.getD i Enc.inh) with
      | true =>
        refine bif_t rfl (chk_i (by omega) (chk_i (by omega) ?_))
        rw [hs, hp]; rfl
      | false =>
        refine bif_f rfl ?_
        rw [hs, hp]; simp
    · refine bif_f (decide_eq_false (by simp only; omega)) ?_
      simp
  · rw [if_neg h0]
    exact bif_t (by simpa using h0) rfl
theorem taken_eq (fuel : Nat) (t : Trc) (hf : t.l.length < fuel) (hk : 0 ≤ t.e.k ∧ t.e.k < 256) : F_taken fuel t = some (if (checkP t).2 = 0 then sumP (fun e => e.k == 2) t.l else 0) := by
  unfold F_taken F_sumTaken
  exact bindE_i _ (sum_loop (fun e => e.k == 2) F_isTaken (fun _ => rfl) fuel t hf hk) rfl
theorem lost_eq (fuel : Nat) (t : Trc) (hf : t.l.length < fuel) (hk : 0 ≤ t.e.k ∧ t.e.k < 256) : F_lost fuel t = some (if (checkP t).2 = 0 then sumP (fun e => e.k == 3) t.l else 0) := by
  unfold F_lost F_sumLost
  exact bindE_i _ (sum_loop (fun e => e.k == 3) F_isLost (fun _ => rfl) fuel t hf hk) rfl
theorem at_eq (fuel : Nat) (t : Trc) (hf : t.l.length < fuel) (hk : 0 ≤ t.e.k ∧ t.e.k < 256) : F_at fuel t = some (if (checkP t).2 = 0 then sumP (fun _ => true) t.l else 0) := by
  unfold F_at F_sumAt
  exact bindE_i _ (sum_loop (fun _ => true) F_isAt (fun _ => rfl) fuel t hf hk) rfl
end Go.Ab

