/-
  schedule: sizes, hasneg: plain.
-/
import Derived.Test.YtblibgbakbhlkaaDoorZuW7
import Derived.Test.YtblibgbakbhlkaaDoorZuSt
set_option linter.unusedSimpArgs false
set_option linter.unusedVariables false
namespace Go.Ab
open Go Go.RowKit Go.Fwd Go.Proofs
end Go.Ab
set_option linter.unusedSimpArgs false
set_option linter.unusedVariables false
namespace Go.Ab
open Go Go.RowKit Go.Fwd Go.Proofs
def rightP (e : Ev) (over : Bool) : Bool := if e.k = 1 then !over else if e.k = 2 ∨ e.k = 3 then decide (e.b = 0) && !(over && e.k == 3) else false
theorem right_eq (e : Ev) (o : Bool) : F_right e o = some (rightP e o) := by
  obtain ⟨k, b⟩ := e
  unfold F_right rightP
  by_cases h1 : k = 1
  · subst h1; rfl
  · have h1' : (k == 1) = false := by simpa using h1
    simp only [h1', cond_false, h1, if_false]
    by_cases h2 : k = 2
    · subst h2
      by_cases hb : b = 0 <;> cases o <;> simp [hb, cutE]
    · by_cases h3 : k = 3
      · subst h3
        by_cases hb : b = 0 <;> cases o <;> simp [hb, cutE]
      · have h2' : (k == 2) = false := by simpa using h2
        have h3' : (k == 3) = false := by simpa using h3
        simp [h2, h3, h2', h3', cutE]
def okE : Bool → List Ev → Bool
  | _, [] => true
  | o, e :: l => rightP e o && okE (o || e.k == 3) l
theorem drop_at {α : Type} [Enc α] {l : List α} {i : Nat} (h : i < l.length) : ∃ r, l.drop i = ix l (i : Int) :: r ∧ l.drop (i + 1) = r := by
  refine ⟨l.drop (i + 1), ?_, rfl⟩
  rw [List.drop_eq_getElem_cons h]
  simp [ix, h]
theorem check_ok (fuel : Nat) (l : List Ev) (hf : l.length < fuel) (hl : l.length ≤ 4096) (h : okE false l = true) : F_check fuel l = some (-1, 0) := by
  refine Ok.eq ?_
  unfold F_check
  refine ok_bif (fun hc => by have := of_decide_eq_true hc; omega) (fun _ => ok_cut (fun _ => True) (ok_loop (fun s : Bool × Int => ∃ i : Nat, s.2 = (i : Int) ∧ i ≤ l.length ∧ okE s.1 (l.drop i) = true) (fun s => l.length - s.2.toNat) ?_ fuel (false, 0) (by simpa using hf) ⟨0, rfl, Nat.zero_le _, h⟩) fun _ _ => ok_some rfl)
  rintro ⟨o, i0⟩ ⟨i, rfl, hi, ho⟩
  dsimp only at ho ⊢
  refine ok_bif (fun hc => ?_) (fun hc => ok_some trivial)
  have hlt : i < l.length := by have := of_decide_eq_true hc; omega
  obtain ⟨r, e1, e2⟩ := drop_at hlt
  rw [e1, okE, Bool.and_eq_true] at ho
  refine ok_cut (fun j => j = (o || (ix l (i : Int)).k == 3)) (ok_chk ⟨by omega, by omega⟩ (ok_letE fun x hx => ok_bindE (ok_eq (right_eq x o)) fun y hy => ?_)) fun j hj => ?_
  · subst hy hx
    refine ok_bif (fun hn => by rw [ho.1] at hn; cases hn) (fun _ => ok_bif (fun h => ok_some (by show true = _; rw [h]; rfl)) (fun h => ok_some (by show _ = _; rw [h]; rfl)))
  · subst hj
    refine ok_chk ⟨by omega, by omega⟩ (ok_some ⟨⟨i + 1, by simp, hlt, by rw [e2]; exact ho.2⟩, by simp only; omega⟩)
def bytesP (l : List Ev) : List UInt8 := (l.filter (·.k == 1)).map fun e => u8of e.b
theorem bytes_eq (fuel : Nat) (l : List Ev) (hf : l.length < fuel) (hl : l.length ≤ 1000000000) (hb : ∀ e ∈ l, e.k = 1 → 0 ≤ e.b ∧ e.b < 256) : F_bytes fuel l = some (bytesP l) := by
  refine Ok.eq ?_
  unfold F_bytes
  refine ok_cut (fun j => j = bytesP l) (ok_loop (fun s : List UInt8 × Int => ∃ i : Nat, s.2 = (i : Int) ∧ i ≤ l.length ∧ s.1 ++ bytesP (l.drop i) = bytesP l ∧ s.1.length ≤ i) (fun s => l.length - s.2.toNat) ?_ fuel ([], 0) (by simpa using hf) ⟨0, rfl, Nat.zero_le _, rfl, Nat.zero_le _⟩) fun j hj => ok_some hj
  rintro ⟨a, i0⟩ ⟨i, rfl, hi, ha, hn⟩
  dsimp only at ha hn ⊢
  refine ok_bif (fun hc => ?_) (fun hc => ok_some ?_)
  rotate_left
  · have hlt : ¬ i < l.length := by have := of_decide_eq_false hc; omega
    rw [List.drop_of_length_le (by omega)] at ha
    simpa [bytesP] using ha
  have hlt : i < l.length := by have := of_decide_eq_true hc; omega
  obtain ⟨r, e1, e2⟩ := drop_at hlt
  have hm : ix l (i : Int) ∈ l := List.mem_of_mem_drop (i := i) (by rw [e1]; exact List.mem_cons_self)
  rw [e1] at ha
  refine ok_cut (fun j : List UInt8 => j ++ bytesP r = bytesP l ∧ j.length ≤ i + 1) (ok_chk ⟨by omega, by omega⟩ (ok_letE fun x hx => ?_)) fun j hj => ?_
  · subst hx
    refine ok_bif (fun h => ?_) (fun h => ok_some ⟨?_, by omega⟩)
    · have hk : (ix l (i : Int)).k = 1 := by simpa using h
      refine ok_chk (hb _ hm hk) (ok_chk (by simp; omega) (ok_some ⟨?_, by simp; omega⟩))
      rw [← ha]; simp [bytesP, hk]
    · rw [← ha]; simp [bytesP, h]
  · refine ok_chk ⟨by omega, by omega⟩ (ok_some ⟨⟨i + 1, by simp, hlt, by rw [e2]; exact hj.1, hj.2⟩, by simp only; omega⟩)
theorem eqevs_eq (fuel : Nat) (a b : List Ev) (hf : a.length < fuel) (hl : a.length ≤ 1000000000) : F_eqevs fuel a b = some (decide (a = b)) := by
  refine Ok.eq ?_
  unfold F_eqevs
  refine ok_bif (fun hc => ok_some ?_) (fun hc => ?_)
  · have : a ≠ b := fun e => by subst e; simp at hc
    simp [this]
  have hlen : a.length = b.length := by simp at hc; omega
  refine ok_cut (fun _ => a = b) (ok_loop (fun s : Int => ∃ i : Nat, s = (i : Int) ∧ i ≤ a.length ∧ a.take i = b.take i) (fun s => a.length - s.toNat) ?_ fuel 0 (by simpa using hf) ⟨0, rfl, Nat.zero_le _, rfl⟩) fun _ h => ok_some (by simp [h])
  rintro s ⟨i, rfl, hi, ht⟩
  refine ok_bif (fun hc => ?_) (fun hc => ok_some ?_)
  rotate_left
  · have hlt : ¬ i < a.length := by have := of_decide_eq_false hc; omega
    rwa [List.take_of_length_le (by omega), List.take_of_length_le (by omega)] at ht
  have hlt : i < a.length := by have := of_decide_eq_true hc; omega
  refine ok_chk ⟨by omega, by omega⟩ (ok_letE fun x hx => ok_chk ⟨by omega, by omega⟩ (ok_letE fun y hy => ?_))
  have hltb : i < b.length := by omega
  have hxa : x = a[i] := by rw [← hx]; simp [ix, hlt]
  have hyb : y = b[i] := by rw [← hy]; simp [ix, hltb]
  refine ok_bif (fun h => ok_some ?_) (fun h => ok_chk ⟨by omega, by omega⟩ (ok_some ⟨⟨i + 1, by simp, hlt, ?_⟩, by omega⟩))
  · have hne : x ≠ y := of_decide_eq_true h
    have : a ≠ b := fun e => by subst e; exact hne (hxa.trans hyb.symm)
    show false = decide (a = b)
    simp [this]
  · have he : x = y := by have := of_decide_eq_false h; exact Classical.not_not.1 this
    rw [List.take_succ_eq_append_getElem hlt, List.take_succ_eq_append_getElem hltb, ht, ← hxa, ← hyb, he]
end Go.Ab
set_option linter.unusedSimpArgs false
set_option linter.unusedVariables false
namespace Go.Ab
open Go Go.RowKit Go.Fwd Go.Proofs
theorem ok_range {α β ρ : Type} {Q : ρ → Prop} {body : β → α → Option (β ⊕ ρ)} (T : List α → β → Prop) {all : List α} (hs : ∀ p x r s, p ++ x :: r = all → T p s → Ok (cutQ (fun s' => T (p ++ [x]) s') Q) (body s x)) : ∀ (xs pre : List α) (s : β), pre ++ xs = all → T pre s → Ok (cutQ (T all) Q) (rangeE body xs s)
  | [], pre, s, he, h => ⟨.inl s, rfl, by simp at he; subst he; exact h⟩
  | x :: xs, pre, s, he, h => by
    obtain ⟨o, ho, h1⟩ := hs pre x xs s he h
    cases o with
    | inl s' =>
      obtain ⟨r, h2, h3⟩ := ok_range T hs xs (pre ++ [x]) s' (by rw [List.append_assoc]; exact he) h1
      exact ⟨r, by simp only [rangeE, ho, h2], h3⟩
    | inr y => exact ⟨.inr y, by simp only [rangeE, ho], h1⟩
def U8s (l : List Ev) : Prop := ∀ e ∈ l, (0 ≤ e.k ∧ e.k < 256) ∧ 0 ≤ e.b ∧ e.b < 256
theorem runs_mem : ∀ (l : List Ev), ∀ s ∈ runs l, s ≠ [] ∧ (∀ e ∈ s, e ∈ l) ∧ (∀ e ∈ s, e.k = (ix s 0).k)
  | [], s, h => by simp [runs] at h
  | e :: l, s, h => by
    obtain ⟨a, rest, e1, e2, e3, e4⟩ := runs_head e l
    have hlt : rest.length < (e :: l).length := by rw [e1]; simp; omega
    rw [e2] at h
    rcases List.mem_cons.1 h with rfl | h
    · exact ⟨by simp, fun x hx => (List.mem_cons.1 hx).elim (fun h => by rw [h]; exact List.mem_cons_self) (fun h => List.mem_cons_of_mem _ (by rw [e1]; exact List.mem_append_left _ h)), fun x hx => (List.mem_cons.1 hx).elim (fun h => by rw [h]; rfl) (fun h => e3 x h)⟩
    · obtain ⟨q1, q2, q3⟩ := runs_mem rest s h
      exact ⟨q1, fun x hx => List.mem_cons_of_mem _ (by rw [e1]; exact List.mem_append_right _ (q2 x hx)), q3⟩
termination_by l => l.length
theorem runs_flat : ∀ l : List Ev, (runs l).flatten = l
  | [] => rfl
  | e :: l => by
    obtain ⟨a, rest, e1, e2, e3, e4⟩ := runs_head e l
    have hlt : rest.length < (e :: l).length := by rw [e1]; simp; omega
    rw [e2, List.flatten_cons, runs_flat rest, e1]; rfl
termination_by l => l.length
theorem bytesP_len (s : List Ev) : (bytesP s).length ≤ s.length := by unfold bytesP; rw [List.length_map]; exact List.length_filter_le _ _
theorem run_len {l s : List Ev} (h : s ∈ runs l) : s.length ≤ l.length := by
  have := (List.sublist_flatten_of_mem h).length_le
  rwa [runs_flat] at this
end Go.Ab
set_option linter.unusedSimpArgs false
set_option linter.unusedVariables false
namespace Go.Ab
open Go Go.RowKit Go.Fwd Go.Proofs
end Go.Ab
set_option linter.unusedSimpArgs false
set_option linter.unusedVariables false
set_option maxRecDepth 20000
namespace Go.Ab
open Go Go.RowKit Go.Fwd Go.Proofs
def stretch (w : List Ev) : Prop := (∃ b : List UInt8, b ≠ [] ∧ w = b.map fun c => Ev.mk 1 ((c.toNat : Nat) : Int)) ∨ (∃ n : Nat, 1 ≤ n ∧ n ≤ 4096 ∧ w = List.replicate n (Ev.mk 2 0)) ∨ w = [Ev.mk 3 0]
theorem bytesP_map (b : List UInt8) : bytesP (b.map fun c => Ev.mk 1 ((c.toNat : Nat) : Int)) = b := by
  induction b with
  | nil => rfl
  | cons c b ih =>
    have : bytesP (Ev.mk 1 ((c.toNat : Nat) : Int) :: (b.map fun c => Ev.mk 1 ((c.toNat : Nat) : Int))) = u8of ((c.toNat : Nat) : Int) :: bytesP (b.map fun c => Ev.mk 1 ((c.toNat : Nat) : Int)) := rfl
    rw [List.map_cons, this, ih, u8of_nat]
end Go.Ab
set_option linter.unusedSimpArgs false
set_option linter.unusedVariables false
namespace Go.Ab
open Go Go.RowKit Go.Fwd Go.Proofs
def eofs (l : List Ev) : Bool := l.any fun e => e.k == 3
theorem okE_app : ∀ (a : List Ev) (o : Bool) (b : List Ev), okE o (a ++ b) = (okE o a && okE (o || eofs a) b)
  | [], o, b => by simp [okE, eofs]
  | e :: a, o, b => by
    rw [List.cons_append, okE, okE, okE_app a, Bool.and_assoc]
    congr 2
    simp [eofs, Bool.or_assoc]
theorem okE_mem : ∀ (l : List Ev) (o : Bool), okE o l = true → ∀ e ∈ l, (e.k = 1 ∨ e.k = 2 ∨ e.k = 3) ∧ (e.k ≠ 1 → e.b = 0)
  | [], _, _, e, h => by simp at h
  | x :: l, o, h, e, he => by
    rw [okE, Bool.and_eq_true] at h
    rcases List.mem_cons.1 he with rfl | he
    · have h1 := h.1
      unfold rightP at h1
      split at h1
      · exact ⟨.inl ‹_›, fun h => absurd ‹_› h⟩
      · split at h1
        · rename_i hk
          rw [Bool.and_eq_true] at h1
          exact ⟨.inr hk, fun _ => of_decide_eq_true h1.1⟩
        · cases h1
    · exact okE_mem l _ h.2 e he
theorem okE_true : ∀ l : List Ev, okE true l = true → (l.filter fun e => e.k == 3) = []
  | [], _ => rfl
  | x :: l, h => by
    rw [okE, Bool.and_eq_true, Bool.true_or] at h
    have hk : (x.k == 3) = false := by
      have h1 := h.1
      unfold rightP at h1
      by_cases h3 : x.k = 3
      · rw [if_neg (by omega), if_pos (.inr h3)] at h1
        simp [h3] at h1
      · simpa using h3
    rw [List.filter_cons, hk]
    exact okE_true l h.2
theorem okE_once : ∀ (l : List Ev) (o : Bool), okE o l = true → (l.filter fun e => e.k == 3).length ≤ 1
  | [], _, _ => by simp
  | x :: l, o, h => by
    rw [okE, Bool.and_eq_true] at h
    cases hk : x.k == 3 with
    | true =>
      rw [hk, Bool.or_true] at h
      rw [List.filter_cons, hk, if_pos rfl, okE_true l h.2]; simp
    | false =>
      rw [List.filter_cons, hk]
      exact okE_once l _ h.2
theorem map_ev {w : List Ev} (h : ∀ e ∈ w, e.k = 1 ∧ 0 ≤ e.b ∧ e.b < 256) : w = (w.map fun e => u8of e.b).map fun c => Ev.mk 1 ((c.toNat : Nat) : Int) := by
  induction w with
  | nil => rfl
  | cons e w ih =>
    obtain ⟨h1, h2⟩ := h e List.mem_cons_self
    rw [List.map_cons, List.map_cons, ← ih fun x hx => h x (List.mem_cons_of_mem _ hx), u8c h2]
    obtain ⟨k, b⟩ := e
    simp only at h1
    rw [h1]
theorem stretch_of {l : List Ev} (h : okE false l = true) (hu : U8s l) (hl : l.length ≤ 4096) {w : List Ev} (hw : w ∈ runs l) : stretch w := by
  obtain ⟨q1, q2, q3⟩ := runs_mem l w hw
  have hlen := run_len hw
  have hp := List.length_pos_iff.2 q1
  obtain ⟨e, r, rfl⟩ : ∃ e r, w = e :: r := by cases w with | nil => exact absurd rfl q1 | cons e r => exact ⟨e, r, rfl⟩
  have hk0 : (ix (e :: r) 0).k = e.k := rfl
  rw [hk0] at q3
  obtain ⟨hk, hb⟩ := okE_mem l false h e (q2 e List.mem_cons_self)
  rcases hk with hk | hk | hk
  · refine .inl ⟨_, ?_, map_ev fun x hx => ⟨(q3 x hx).trans hk, (hu x (q2 x hx)).2⟩⟩
    simp
  · refine .inr (.inl ⟨(e :: r).length, hp, by omega, ?_⟩)
    refine List.eq_replicate_iff.2 ⟨rfl, fun x hx => ?_⟩
    have h1 := (q3 x hx).trans hk
    have h2 := (okE_mem l false h x (q2 x hx)).2 (by omega)
    obtain ⟨k, b⟩ := x
    simp only at h1 h2
    rw [h1, h2]
  · refine .inr (.inr ?_)
    have h1 : (e :: r).filter (fun e => e.k == 3) = e :: r := List.filter_eq_self.2 fun x hx => by have := (q3 x hx).trans hk; simp [this]
    have h2 : (e :: r).Sublist l := by have := List.sublist_flatten_of_mem hw; rwa [runs_flat] at this
    have h3 := (h2.filter fun e => e.k == 3).length_le
    have h4 := okE_once l false h
    rw [h1] at h3
    have hr : r = [] := by
      have : r.length = 0 := by simp only [List.length_cons] at h3; omega
      exact List.length_eq_zero_iff.1 this
    subst hr
    have hb0 := hb (by omega)
    obtain ⟨k, b⟩ := e
    simp only at hk hb0
    rw [hk, hb0]
end Go.Ab
set_option linter.unusedSimpArgs false
set_option linter.unusedVariables false
set_option maxRecDepth 100000
namespace Go.Ab
open Go Go.RowKit Go.Fwd Go.Proofs
end Go.Ab
set_option linter.unusedSimpArgs false
set_option linter.unusedVariables false
set_option maxRecDepth 100000
namespace Go.Ab
open Go Go.RowKit Go.Fwd Go.Proofs
theorem awake_true : F_awake 100000 = some true := by decide +kernel
theorem okE_snoc {a : List Ev} {e : Ev} (h : okE false a = true) (hr : rightP e (eofs a) = true) : okE false (a ++ [e]) = true := by
  rw [okE_app, h, Bool.false_or]; simp [okE, hr]
theorem eofs_snoc (a : List Ev) (e : Ev) : eofs (a ++ [e]) = (eofs a || e.k == 3) := by simp [eofs, List.any_append]
theorem u8s_snoc {a : List Ev} {e : Ev} (h : U8s a) (he : (0 ≤ e.k ∧ e.k < 256) ∧ 0 ≤ e.b ∧ e.b < 256) : U8s (a ++ [e]) := fun x hx => (List.mem_append.1 hx).elim (h x) fun hx => by simp at hx; subst hx; exact he
structure GoodS (r : List Ev) : Prop where
  ok : okE false r = true
  u8 : U8s r
theorem made_ok (fuel : Nat) (l : List UInt8) (en : Int) (hf : 200 < fuel) (he : 0 ≤ en ∧ en < 256) : Ok (fun r => r.length ≤ 200 ∧ GoodS r) (F_made fuel l en) := by
  unfold F_made
  have hm : (sub l 0 (min (l.length : Int) 100)).length = (min (l.length : Int) 100).toNat := by
    have := sub_lenI l (i := 0) (j := min (l.length : Int) 100) ⟨Int.le_refl _, by omega, by omega⟩
    rw [this]; simp
  refine ok_cut (fun r => r.length ≤ 200 ∧ GoodS r) (ok_chk ⟨by omega, by omega, by omega⟩ (ok_loop (fun s : List Ev × Int => ∃ i : Nat, s.2 = (i : Int) ∧ i ≤ 100 ∧ s.1.length ≤ 2 * i ∧ GoodS s.1 ∧ (eofs s.1 = true → 0 < en ∧ en < i)) (fun s => 101 - s.2.toNat) ?_ fuel ([], 0) (by simp; omega) ⟨0, rfl, by omega, by simp, ⟨rfl, fun e h => by simp at h⟩, fun h => by simp [eofs] at h⟩)) fun j hj => ok_some hj
  rintro ⟨a, i0⟩ ⟨i, rfl, hi, hn, hg, he1⟩
  dsimp only at hn hg he1 ⊢
  refine ok_bif (fun hc => ?_) (fun hc => ok_some ⟨by omega, hg⟩)
  have hlt := of_decide_eq_true hc
  have hi2 : i < 100 := by rw [hm] at hlt; omega
  refine ok_cut (fun j : List Ev => j.length ≤ 2 * (i + 1) ∧ GoodS j ∧ (eofs j = true → 0 < en ∧ en ≤ i)) (ok_chk ⟨by omega, hlt⟩ (ok_letE fun x hx => ok_cut (fun j : List Ev => j.length ≤ 2 * i + 1 ∧ GoodS j ∧ (eofs j = true → 0 < en ∧ en ≤ i)) ?_ fun j hj => ?_)) fun j hj => ok_chk ⟨by omega, by omega⟩ (ok_some ⟨⟨i + 1, by simp, hi2, hj.1, hj.2.1, fun h => by have := hj.2.2 h; omega⟩, by simp only; omega⟩)
  · have keep : Ok (cutQ (fun j : List Ev => j.length ≤ 2 * i + 1 ∧ GoodS j ∧ (eofs j = true → 0 < en ∧ en ≤ i)) (cutQ (fun j : List Ev => j.length ≤ 2 * (i + 1) ∧ GoodS j ∧ (eofs j = true → 0 < en ∧ en ≤ i)) (cutQ (fun s' : List Ev × Int => (∃ k : Nat, s'.2 = (k : Int) ∧ k ≤ 100 ∧ s'.1.length ≤ 2 * k ∧ GoodS s'.1 ∧ (eofs s'.1 = true → 0 < en ∧ en < k)) ∧ 101 - s'.2.toNat < 101 - (i : Int).toNat) (cutQ (fun r => r.length ≤ 200 ∧ GoodS r) (fun r => r.length ≤ 200 ∧ GoodS r))))) (some (Sum.inl a)) := ok_some ⟨by omega, hg, fun h => by have := he1 h; omega⟩
    refine ok_bif (fun h => ok_chk ⟨by omega, by omega⟩ (ok_bif (fun h2 => ok_chk (by simp; omega) (ok_some ⟨by simp; omega, ⟨okE_snoc hg.ok ?_, u8s_snoc hg.u8 ⟨⟨by decide, by decide⟩, by decide, by decide⟩⟩, fun _ => ?_⟩)) (fun _ => keep))) (fun _ => keep)
    · have hne : eofs a = false := by
        cases hh : eofs a with
        | false => rfl
        | true => have := he1 hh; have : (i : Int) = en := by simpa using h2
                  omega
      rw [hne]; rfl
    · have : (i : Int) = en := by simpa using h2
      have := of_decide_eq_true h
      omega
  · have tick : Ok (cutQ (fun j : List Ev => j.length ≤ 2 * (i + 1) ∧ GoodS j ∧ (eofs j = true → 0 < en ∧ en ≤ i)) (cutQ (fun s' : List Ev × Int => (∃ k : Nat, s'.2 = (k : Int) ∧ k ≤ 100 ∧ s'.1.length ≤ 2 * k ∧ GoodS s'.1 ∧ (eofs s'.1 = true → 0 < en ∧ en < k)) ∧ 101 - s'.2.toNat < 101 - (i : Int).toNat) (cutQ (fun r => r.length ≤ 200 ∧ GoodS r) (fun r => r.length ≤ 200 ∧ GoodS r)))) (chk ((List.length j + List.length [(Ev.mk 2 0)]) * 2 ≤ 140737488355328) (some (Sum.inl (j ++ [(Ev.mk 2 0)])))) :=
      ok_chk (by simp; omega) (ok_some ⟨by simp; omega, ⟨okE_snoc hj.2.1.ok (by cases eofs j <;> rfl), u8s_snoc hj.2.1.u8 ⟨⟨by decide, by decide⟩, by decide, by decide⟩⟩, fun h => hj.2.2 (by rw [eofs_snoc] at h; simpa using h)⟩)
    have byte : ¬ (0 < en ∧ en ≤ i) → Ok (cutQ (fun j : List Ev => j.length ≤ 2 * (i + 1) ∧ GoodS j ∧ (eofs j = true → 0 < en ∧ en ≤ i)) (cutQ (fun s' : List Ev × Int => (∃ k : Nat, s'.2 = (k : Int) ∧ k ≤ 100 ∧ s'.1.length ≤ 2 * k ∧ GoodS s'.1 ∧ (eofs s'.1 = true → 0 < en ∧ en < k)) ∧ 101 - s'.2.toNat < 101 - (i : Int).toNat) (cutQ (fun r => r.length ≤ 200 ∧ GoodS r) (fun r => r.length ≤ 200 ∧ GoodS r)))) (chk ((List.length j + List.length [(Ev.mk 1 ((x.toNat : Nat) : Int))]) * 2 ≤ 140737488355328) (some (Sum.inl (j ++ [(Ev.mk 1 ((x.toNat : Nat) : Int))])))) := fun hno => by
      have hne : eofs j = false := by
        cases hh : eofs j with
        | false => rfl
        | true => exact absurd (hj.2.2 hh) hno
      exact ok_chk (by simp; omega) (ok_some ⟨by simp; omega, ⟨okE_snoc hj.2.1.ok (by rw [hne]; rfl), u8s_snoc hj.2.1.u8 ⟨⟨by show (0 : Int) ≤ 1; decide, by show (1 : Int) < 256; decide⟩, u8n_bnd x⟩⟩, fun h => hj.2.2 (by rw [eofs_snoc] at h; simpa using h)⟩)
    refine ok_bif (fun _ => tick) (fun _ => ok_bif (fun h => ok_chk ⟨by omega, by omega⟩ (ok_bif (fun _ => tick) (fun h2 => byte ?_))) (fun h => byte ?_))
    · have := of_decide_eq_false h2; omega
    · have := of_decide_eq_false h; omega
end Go.Ab
set_option linter.unusedSimpArgs false
set_option linter.unusedVariables false
set_option maxRecDepth 100000
namespace Go.Ab
open Go Go.RowKit Go.Fwd Go.Proofs
end Go.Ab
set_option linter.unusedSimpArgs false
set_option linter.unusedVariables false
set_option maxRecDepth 100000
namespace Go.Ab
open Go Go.RowKit Go.Fwd Go.Proofs
end Go.Ab
set_option linter.unusedSimpArgs false
set_option linter.unusedVariables false
set_option maxRecDepth 100000
namespace Go.Ab
open Go Go.RowKit Go.Fwd Go.Proofs
structure SzZ (z : List Int) : Prop where
  len : z.length ≤ 120
  bnd : ∀ n ∈ z, 0 ≤ n ∧ n < 7
theorem sizes_ok (fuel : Nat) (l : List UInt8) (hf : 200 < fuel) : Ok SzZ (F_sizes fuel l) := by
  unfold F_sizes
  have hm : (sub l 0 (min (l.length : Int) 120)).length = (min (l.length : Int) 120).toNat := by
    have := sub_lenI l (i := 0) (j := min (l.length : Int) 120) ⟨Int.le_refl _, by omega, by omega⟩
    rw [this]; simp
  refine ok_cut SzZ (ok_chk ⟨by omega, by omega, by omega⟩ (ok_loop (fun s : List Int × Int => ∃ i : Nat, s.2 = (i : Int) ∧ i ≤ 120 ∧ s.1.length = i ∧ ∀ n ∈ s.1, 0 ≤ n ∧ n < 7) (fun s => 121 - s.2.toNat) ?_ fuel ([], 0) (by simp; omega) ⟨0, rfl, by omega, rfl, fun n h => by simp at h⟩)) fun j hj => ok_some hj
  rintro ⟨a, i0⟩ ⟨i, rfl, hi, hn, hb⟩
  dsimp only at hn hb ⊢
  refine ok_bif (fun hc => ?_) (fun hc => ok_some ⟨by omega, hb⟩)
  have hlt := of_decide_eq_true hc
  have hi2 : i < 120 := by rw [hm] at hlt; omega
  refine ok_chk ⟨by omega, hlt⟩ (ok_letE fun x hx => ?_)
  have h7 : 0 ≤ Int.tmod ((x.toNat : Nat) : Int) 7 ∧ Int.tmod ((x.toNat : Nat) : Int) 7 < 7 := ⟨Int.tmod_nonneg _ (by omega), Int.tmod_lt_of_pos _ (by omega)⟩
  refine ok_chk ⟨by omega, by omega⟩ (ok_chk (by simp only [List.length_cons, List.length_nil]; omega) (ok_chk ⟨by omega, by omega⟩ (ok_some ⟨⟨i + 1, by simp, hi2, by simp [hn], fun n h => ?_⟩, by simp only; omega⟩)))
  rcases List.mem_append.1 h with h | h
  · exact hb n h
  · rw [List.mem_singleton.1 h]; exact h7
theorem hasneg_no (fuel : Nat) (z : List Int) (hz : SzZ z) (hf : 200 < fuel) : F_hasneg fuel z = some false := by
  have hl := hz.len
  have h : F_ixneg fuel z = some (-1) := by
    refine Ok.eq ?_
    unfold F_ixneg
    refine ok_cut (fun _ => True) (ok_loop (fun s : Int => ∃ i : Nat, s = (i : Int) ∧ i ≤ z.length) (fun s => z.length - s.toNat) ?_ fuel 0 (by simp; omega) ⟨0, rfl, Nat.zero_le _⟩) fun _ _ => ok_some rfl
    rintro i0 ⟨i, rfl, hi⟩
    refine ok_bif (fun hc => ?_) (fun hc => ok_some trivial)
    have hlt : i < z.length := by have := of_decide_eq_true hc; omega
    have hx : ix z (i : Int) = z[i] := by simp [ix, hlt]
    have hb := hz.bnd z[i] (List.getElem_mem _)
    have hneg : F_neg1 (ix z (i : Int)) = some false := by unfold F_neg1; simp [hx]; omega
    rw [hneg, bindE_some]
    refine ok_chk ⟨by omega, by omega⟩ (ok_bif (fun h => by cases h) (fun _ => ok_chk ⟨by omega, by omega⟩ (ok_some ⟨⟨i + 1, by simp, hlt⟩, by omega⟩)))
  unfold F_hasneg
  rw [h, bindE_some]; rfl
def evP (c : Ck) : List Ev := if c.k = 1 then c.l.map fun b => Ev.mk 1 ((b.toNat : Nat) : Int) else [Ev.mk c.k 0]
def nd (cs : List Ck) : Nat := (cs.filter fun c => c.k == 1).length
theorem nd_snoc (cs : List Ck) (c : Ck) : nd (cs ++ [c]) = nd cs + if c.k = 1 then 1 else 0 := by
  unfold nd; by_cases h : c.k = 1 <;> simp [List.filter_append, h]
def lawC (z : List Int) (n : Nat) (c : Ck) : Prop := (c.k ≠ 1 → c.l = []) ∧ (c.k = 1 → if n < z.length then (c.l.length : Int) ≤ ix z (n : Int) ∧ (c.l = [] → ix z (n : Int) = 0) else c.l ≠ [])
def lawCs (z : List Int) (cs : List Ck) : Prop := ∀ p c r, cs = p ++ c :: r → lawC z (nd p) c
theorem lawCs_snoc {z : List Int} {cs : List Ck} {c : Ck} (h : lawCs z cs) (hc : lawC z (nd cs) c) : lawCs z (cs ++ [c]) := by
  intro p d r he
  rcases List.eq_nil_or_concat r with rfl | ⟨r', x, rfl⟩
  · obtain ⟨h1, h2⟩ := List.append_inj' he (by simp)
    have : c = d := by simpa using h2
    subst h1 this; exact hc
  · rw [List.concat_eq_append, ← List.cons_append, ← List.append_assoc] at he
    obtain ⟨h1, h2⟩ := List.append_inj' he (by simp)
    exact h p d r' h1
end Go.Ab

