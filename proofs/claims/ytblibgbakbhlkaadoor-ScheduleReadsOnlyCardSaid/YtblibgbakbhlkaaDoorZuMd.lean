/-
  schedule: Made, ScheduleTexts: plain.
-/
import Derived.Test.YtblibgbakbhlkaaDoorZuSt
import Derived.Lib.AtoiTie
import Derived.Test.YtblibgbakbhlkaaDoorZuAt
import Derived.Test.YtblibgbakbhlkaaDoorZuW8
import Derived.Test.YtblibgbakbhlkaaDoorZuW7
set_option linter.unusedSimpArgs false
set_option linter.unusedVariables false
namespace Go.Ab
open Go Go.RowKit Go.Fwd Go.Proofs
theorem idx_no (c : UInt8) : ∀ l : List UInt8, c ∉ l → Lib.index l [c] = -1
  | [], _ => rfl
  | b :: l, h => by
    have h1 : ¬ c = b := fun e => h (by simp [e])
    have h2 : c ∉ l := fun e => h (by simp [e])
    unfold Lib.index
    rw [idx_no c l h2]
    simp [List.isPrefixOf, h1]
theorem idx_at (c : UInt8) (r : List UInt8) : ∀ a : List UInt8, c ∉ a → Lib.index (a ++ c :: r) [c] = (a.length : Int)
  | [], _ => by simp [Lib.index, List.isPrefixOf]
  | b :: a, h => by
    have h1 : ¬ c = b := fun e => h (by simp [e])
    have h2 : c ∉ a := fun e => h (by simp [e])
    have := idx_at c r a h2
    rw [List.cons_append]
    unfold Lib.index
    rw [this]
    have h3 : ¬ ((a.length : Int) = -1) := by omega
    simp [List.isPrefixOf, h1, h3]
theorem cut_no {c : UInt8} {l : List UInt8} (h : c ∉ l) : Lib.cut l [c] = (l, [], false) := by
  unfold Lib.cut; rw [idx_no c l h]; rfl
theorem cut_at {c : UInt8} {a r : List UInt8} (h : c ∉ a) : Lib.cut (a ++ c :: r) [c] = (a, r, true) := by
  unfold Lib.cut; rw [idx_at c r a h]
  rw [if_pos (by omega)]
  simp
theorem cut_says (c : UInt8) (l : List UInt8) : ((Lib.cut l [c]).2.2 = true ∧ l = (Lib.cut l [c]).1 ++ c :: (Lib.cut l [c]).2.1) ∨ Lib.cut l [c] = (l, [], false) := by
  by_cases h : c ∈ l
  · obtain ⟨a, r, h1, h2⟩ : ∃ a r, l = a ++ c :: r ∧ c ∉ a := by
      induction l with
      | nil => simp at h
      | cons b l ih =>
        by_cases e : c = b
        · exact ⟨[], l, by simp [e], by simp⟩
        · obtain ⟨a, r, k1, k2⟩ := ih (by simpa [e] using h)
          exact ⟨b :: a, r, by simp [k1], by simp [e, k2]⟩
    subst h1
    rw [cut_at h2]
    exact .inl ⟨rfl, rfl⟩
  · exact .inr (cut_no h)
theorem dig_len : ∀ (k u : Nat), u < 10 ^ (k + 1) → (Lib.decDigits u).length ≤ k + 1
  | 0, u, h => by rw [Lib.decDigits_one (by simpa using h)]; simp
  | k + 1, u, h => by
    rw [Lib.decDigits]
    split
    · simp
    · have := dig_len k (u / 10) (by rw [Nat.pow_succ] at h; omega)
      simp; omega
theorem itoa_pos {n : Int} (h : 0 ≤ n) : Lib.itoa n = Lib.decDigits n.toNat := by unfold Lib.itoa; rw [if_neg (by omega)]
end Go.Ab
set_option linter.unusedSimpArgs false
set_option linter.unusedVariables false
namespace Go.Ab
open Go Go.RowKit Go.Fwd Go.Proofs
def rightP (e : Ev) (over : Bool) : Bool := if e.k = 1 then !over else if e.k = 2 ∨ e.k = 3 then decide (e.b = 0) && !(over && e.k == 3) else false
theorem right_eq (e : Ev) (o : Bool) : F_right e o = some (rightP e o) := by
  obtain ⟨k, b⟩ := e
  unfold F_right rightP
  by_cases h1 : k = 1
  · subst h1; rfl
  · have h1' : (k == 1) = false := by simpa using h1
    simp only [h1', cond_false, h1, if_false]
    by_cases h2 : k = 2
    · subst h2
      by_cases hb : b = 0 <;> cases o <;> simp [hb, cutE]
    · by_cases h3 : k = 3
      · subst h3
        by_cases hb : b = 0 <;> cases o <;> simp [hb, cutE]
      · have h2' : (k == 2) = false := by simpa using h2
        have h3' : (k == 3) = false := by simpa using h3
        simp [h2, h3, h2', h3', cutE]
def okE : Bool → List Ev → Bool
  | _, [] => true
  | o, e :: l => rightP e o && okE (o || e.k == 3) l
theorem drop_at {α : Type} [Enc α] {l : List α} {i : Nat} (h : i < l.length) : ∃ r, l.drop i = ix l (i : Int) :: r ∧ l.drop (i + 1) = r := by
  refine ⟨l.drop (i + 1), ?_, rfl⟩
  rw [List.drop_eq_getElem_cons h]
  simp [ix, h]
theorem check_ok (fuel : Nat) (l : List Ev) (hf : l.length < fuel) (hl : l.length ≤ 4096) (h : okE false l = true) : F_check fuel l = some (-1, 0) := by
  refine Ok.eq ?_
  unfold F_check
  refine ok_bif (fun hc => by have := of_decide_eq_true hc; omega) (fun _ => ok_cut (fun _ => True) (ok_loop (fun s : Bool × Int => ∃ i : Nat, s.2 = (i : Int) ∧ i ≤ l.length ∧ okE s.1 (l.drop i) = true) (fun s => l.length - s.2.toNat) ?_ fuel (false, 0) (by simpa using hf) ⟨0, rfl, Nat.zero_le _, h⟩) fun _ _ => ok_some rfl)
  rintro ⟨o, i0⟩ ⟨i, rfl, hi, ho⟩
  dsimp only at ho ⊢
  refine ok_bif (fun hc => ?_) (fun hc => ok_some trivial)
  have hlt : i < l.length := by have := of_decide_eq_true hc; omega
  obtain ⟨r, e1, e2⟩ := drop_at hlt
  rw [e1, okE, Bool.and_eq_true] at ho
  refine ok_cut (fun j => j = (o || (ix l (i : Int)).k == 3)) (ok_chk ⟨by omega, by omega⟩ (ok_letE fun x hx => ok_bindE (ok_eq (right_eq x o)) fun y hy => ?_)) fun j hj => ?_
  · subst hy hx
    refine ok_bif (fun hn => by rw [ho.1] at hn; cases hn) (fun _ => ok_bif (fun h => ok_some (by show true = _; rw [h]; rfl)) (fun h => ok_some (by show _ = _; rw [h]; rfl)))
  · subst hj
    refine ok_chk ⟨by omega, by omega⟩ (ok_some ⟨⟨i + 1, by simp, hlt, by rw [e2]; exact ho.2⟩, by simp only; omega⟩)
def bytesP (l : List Ev) : List UInt8 := (l.filter (·.k == 1)).map fun e => u8of e.b
theorem bytes_eq (fuel : Nat) (l : List Ev) (hf : l.length < fuel) (hl : l.length ≤ 1000000000) (hb : ∀ e ∈ l, e.k = 1 → 0 ≤ e.b ∧ e.b < 256) : F_bytes fuel l = some (bytesP l) := by
  refine Ok.eq ?_
  unfold F_bytes
  refine ok_cut (fun j => j = bytesP l) (ok_loop (fun s : List UInt8 × Int => ∃ i : Nat, s.2 = (i : Int) ∧ i ≤ l.length ∧ s.1 ++ bytesP (l.drop i) = bytesP l ∧ s.1.length ≤ i) (fun s => l.length - s.2.toNat) ?_ fuel ([], 0) (by simpa using hf) ⟨0, rfl, Nat.zero_le _, rfl, Nat.zero_le _⟩) fun j hj => ok_some hj
  rintro ⟨a, i0⟩ ⟨i, rfl, hi, ha, hn⟩
  dsimp only at ha hn ⊢
  refine ok_bif (fun hc => ?_) (fun hc => ok_some ?_)
  rotate_left
  · have hlt : ¬ i < l.length := by have := of_decide_eq_false hc; omega
    rw [List.drop_of_length_le (by omega)] at ha
    simpa [bytesP] using ha
  have hlt : i < l.length := by have := of_decide_eq_true hc; omega
  obtain ⟨r, e1, e2⟩ := drop_at hlt
  have hm : ix l (i : Int) ∈ l := List.mem_of_mem_drop (i := i) (by rw [e1]; exact List.mem_cons_self)
  rw [e1] at ha
  refine ok_cut (fun j : List UInt8 => j ++ bytesP r = bytesP l ∧ j.length ≤ i + 1) (ok_chk ⟨by omega, by omega⟩ (ok_letE fun x hx => ?_)) fun j hj => ?_
  · subst hx
    refine ok_bif (fun h => ?_) (fun h => ok_some ⟨?_, by omega⟩)
    · have hk : (ix l (i : Int)).k = 1 := by simpa using h
      refine ok_chk (hb _ hm hk) (ok_chk (by simp; omega) (ok_some ⟨?_, by simp; omega⟩))
      rw [← ha]; simp [bytesP, hk]
    · rw [← ha]; simp [bytesP, h]
  · refine ok_chk ⟨by omega, by omega⟩ (ok_some ⟨⟨i + 1, by simp, hlt, by rw [e2]; exact hj.1, hj.2⟩, by simp only; omega⟩)
end Go.Ab
set_option linter.unusedSimpArgs false
set_option linter.unusedVariables false
namespace Go.Ab
open Go Go.RowKit Go.Fwd Go.Proofs
def partP (s : List Ev) : List UInt8 := if (ix s 0).k = 1 then quoteP (bytesP s) else if (ix s 0).k = 2 then 116 :: Lib.itoa (s.length : Int) else [101, 111, 102]
def textP (l : List Ev) : List UInt8 := Lib.join ((runs l).map partP) [32]
theorem ok_range {α β ρ : Type} {Q : ρ → Prop} {body : β → α → Option (β ⊕ ρ)} (T : List α → β → Prop) {all : List α} (hs : ∀ p x r s, p ++ x :: r = all → T p s → Ok (cutQ (fun s' => T (p ++ [x]) s') Q) (body s x)) : ∀ (xs pre : List α) (s : β), pre ++ xs = all → T pre s → Ok (cutQ (T all) Q) (rangeE body xs s)
  | [], pre, s, he, h => ⟨.inl s, rfl, by simp at he; subst he; exact h⟩
  | x :: xs, pre, s, he, h => by
    obtain ⟨o, ho, h1⟩ := hs pre x xs s he h
    cases o with
    | inl s' =>
      obtain ⟨r, h2, h3⟩ := ok_range T hs xs (pre ++ [x]) s' (by rw [List.append_assoc]; exact he) h1
      exact ⟨r, by simp only [rangeE, ho, h2], h3⟩
    | inr y => exact ⟨.inr y, by simp only [rangeE, ho], h1⟩
def U8s (l : List Ev) : Prop := ∀ e ∈ l, (0 ≤ e.k ∧ e.k < 256) ∧ 0 ≤ e.b ∧ e.b < 256
theorem runs_mem : ∀ (l : List Ev), ∀ s ∈ runs l, s ≠ [] ∧ (∀ e ∈ s, e ∈ l) ∧ (∀ e ∈ s, e.k = (ix s 0).k)
  | [], s, h => by simp [runs] at h
  | e :: l, s, h => by
    obtain ⟨a, rest, e1, e2, e3, e4⟩ := runs_head e l
    have hlt : rest.length < (e :: l).length := by rw [e1]; simp; omega
    rw [e2] at h
    rcases List.mem_cons.1 h with rfl | h
    · exact ⟨by simp, fun x hx => (List.mem_cons.1 hx).elim (fun h => by rw [h]; exact List.mem_cons_self) (fun h => List.mem_cons_of_mem _ (by rw [e1]; exact List.mem_append_left _ h)), fun x hx => (List.mem_cons.1 hx).elim (fun h => by rw [h]; rfl) (fun h => e3 x h)⟩
    · obtain ⟨q1, q2, q3⟩ := runs_mem rest s h
      exact ⟨q1, fun x hx => List.mem_cons_of_mem _ (by rw [e1]; exact List.mem_append_right _ (q2 x hx)), q3⟩
termination_by l => l.length
theorem runs_flat : ∀ l : List Ev, (runs l).flatten = l
  | [] => rfl
  | e :: l => by
    obtain ⟨a, rest, e1, e2, e3, e4⟩ := runs_head e l
    have hlt : rest.length < (e :: l).length := by rw [e1]; simp; omega
    rw [e2, List.flatten_cons, runs_flat rest, e1]; rfl
termination_by l => l.length
theorem bytesP_len (s : List Ev) : (bytesP s).length ≤ s.length := by unfold bytesP; rw [List.length_map]; exact List.length_filter_le _ _
theorem itoa_len (n : Nat) (h : n < 10000) : (Lib.itoa (n : Int)).length ≤ 4 := by
  rw [itoa_pos (by omega)]
  exact dig_len 3 n (by simpa using h)
theorem quoteP_len (b : List UInt8) : (quoteP b).length ≤ 4 * b.length + 2 := by
  have := flat_len b
  have h : (quoteP b).length = (b.flatMap byteP).length + 2 := by simp [quoteP]
  omega
theorem partP_len (s : List Ev) (h : s.length < 10000) (h0 : s ≠ []) : (partP s).length ≤ 28 * s.length := by
  have hp := List.length_pos_iff.2 h0
  unfold partP
  split
  · have := quoteP_len (bytesP s); have := bytesP_len s; omega
  · split
    · have := itoa_len s.length h
      simp only [List.length_cons]; omega
    · simp; omega
theorem lens_bound (xs : List (List Ev)) (h : ∀ s ∈ xs, (partP s).length ≤ 28 * s.length) : Lib.lens (xs.map partP) ≤ 28 * xs.flatten.length := by
  induction xs with
  | nil => simp [Lib.lens]
  | cons x xs ih =>
    have h1 := h x List.mem_cons_self
    have h2 := ih fun s hs => h s (List.mem_cons_of_mem _ hs)
    simp only [List.map_cons, List.flatten_cons, List.length_append, Lib.lens, List.sum_cons] at h2 ⊢
    omega
theorem count_bound (xs : List (List Ev)) (h : ∀ s ∈ xs, s ≠ []) : xs.length ≤ xs.flatten.length := by
  induction xs with
  | nil => simp
  | cons x xs ih =>
    have h1 := List.length_pos_iff.2 (h x List.mem_cons_self)
    have h2 := ih fun s hs => h s (List.mem_cons_of_mem _ hs)
    simp only [List.length_cons, List.flatten_cons, List.length_append]; omega
theorem run_len {l s : List Ev} (h : s ∈ runs l) : s.length ≤ l.length := by
  have := (List.sublist_flatten_of_mem h).length_le
  rwa [runs_flat] at this
theorem runs_count (l : List Ev) : (runs l).length ≤ l.length := by
  have := count_bound (runs l) fun s hs => (runs_mem l s hs).1
  rwa [runs_flat] at this
theorem textP_len (l : List Ev) (h : l.length < 10000) : (textP l).length ≤ 29 * l.length := by
  have h1 := lens_bound (runs l) fun s hs => partP_len s (by have := run_len hs; omega) (runs_mem l s hs).1
  have h2 := runs_count l
  rw [runs_flat] at h1
  unfold textP
  cases hr : (runs l).map partP with
  | nil => simp [Lib.join_nil]
  | cons x r =>
    have h3 : r.length + 1 = (runs l).length := by have := congrArg List.length hr; simpa using this.symm
    rw [hr] at h1
    rw [Lib.join_length]
    simp only [List.length_cons, List.length_nil]; omega
end Go.Ab
set_option linter.unusedSimpArgs false
set_option linter.unusedVariables false
namespace Go.Ab
open Go Go.RowKit Go.Fwd Go.Proofs
theorem write_eq (fuel : Nat) (l : List Ev) (hf : l.length + 2 < fuel) (hl : l.length ≤ 4096) (hok : okE false l = true) (hu : U8s l) : F_write fuel l = some (textP l, 0) := by
  refine Ok.eq ?_
  unfold F_write
  rw [check_ok fuel l (by omega) hl hok, bindE_some]
  refine ok_bif (fun h => by simp at h) (fun _ => ?_)
  refine ok_cut (fun j => j = (runs l).map partP) (ok_chk (by omega) (ok_cut (fun s => s = (runs l).map partP) ?_ fun s hs => ok_some hs)) fun j hj => ?_
  · refine ok_range (fun pre s => s = pre.map partP) ?_ (runs l) [] [] rfl rfl
    rintro p w r s he rfl
    have hm : w ∈ runs l := by rw [← he]; simp
    obtain ⟨q1, q2, q3⟩ := runs_mem l w hm
    have hw := run_len hm
    have hw0 := List.length_pos_iff.2 q1
    have hc : p.length + 1 ≤ l.length := by
      have h1 := congrArg List.length he
      have h2 := runs_count l
      simp at h1; omega
    refine ok_chk ⟨by omega, by omega⟩ (ok_letE fun x hx => ok_bif (fun h => ?_) (fun h => ok_bif (fun h2 => ?_) (fun h2 => ?_)))
    · have hk : (ix w 0).k = 1 := by rw [hx]; simpa using h
      have hb := bytesP_len w
      refine ok_bindE (ok_eq (bytes_eq fuel w (by omega) (by omega) fun e he' _ => (hu e (q2 e he')).2)) fun a ha => ok_bindE (ok_eq (quote_eq fuel a (by rw [ha]; omega) (by rw [ha]; omega))) fun b hb' => ok_chk (by simp; omega) (ok_some ?_)
      show _ = _
      rw [hb', ha, List.map_append, List.map_cons, List.map_nil, partP, if_pos hk]
    · have hk : (ix w 0).k = 2 := by rw [hx]; simpa using h2
      have hi := itoa_len w.length (by omega)
      refine ok_chk (by omega) (ok_letE fun a ha => ok_chk (by rw [← ha]; simp; omega) (ok_chk (by simp; omega) (ok_some ?_)))
      show _ = _
      rw [← ha, List.map_append, List.map_cons, List.map_nil, partP, if_neg (by omega), if_pos hk]; rfl
    · have hk1 : ¬ (ix w 0).k = 1 := by rw [hx]; simpa using h
      have hk2 : ¬ (ix w 0).k = 2 := by rw [hx]; simpa using h2
      refine ok_chk (by simp; omega) (ok_some ?_)
      show _ = _
      rw [List.map_append, List.map_cons, List.map_nil, partP, if_neg hk1, if_neg hk2]
  · subst hj
    have h1 := runs_count l
    have h2 := textP_len l (by omega)
    refine ok_chk ⟨by rw [List.length_map]; omega, ?_⟩ (ok_letE fun x hx => ok_some ?_)
    · show ((textP l).length : Int) ≤ _
      omega
    · rw [← hx]; rfl
end Go.Ab
set_option linter.unusedSimpArgs false
set_option linter.unusedVariables false
set_option maxRecDepth 20000
namespace Go.Ab
open Go Go.RowKit Go.Fwd Go.Proofs
theorem cpy_rep {α : Type} (e z : α) (k n m : Nat) (hm : m ≤ k) (hn : m ≤ n) : cpy (List.replicate k e ++ List.replicate n z) k (List.take m (List.take k (List.replicate k e ++ List.replicate n z))) = List.replicate (k + m) e ++ List.replicate (n - m) z := by
  have h1 : List.take k (List.replicate k e ++ List.replicate n z) = List.replicate k e := List.take_left' (List.length_replicate ..)
  have h2 : List.take m (List.replicate k e) = List.replicate m e := by rw [List.take_replicate, Nat.min_eq_left hm]
  have h3 : List.drop (k + m) (List.replicate k e ++ List.replicate n z) = List.replicate (n - m) z := by
    rw [← List.drop_drop, List.drop_left' (List.length_replicate ..), List.drop_replicate]
  unfold cpy
  rw [h1, h2, List.length_replicate, h3, List.replicate_append_replicate]
theorem repeat_gen (fuel : Nat) (e : Ev) (N : Nat) (h1 : 1 ≤ N) (hN : N ≤ 100000) (hf : N < fuel) (hm : F_bmul (IntKind.u64.wrap ((List.length [e] : Nat) : Int)) (IntKind.u64.wrap (N : Int)) = some (0, (N : Int))) : F_repeat_ fuel [e] (N : Int) = some (List.replicate N e) := by
  unfold F_repeat_
  refine Ok.eq (ok_bif (fun h => ?_) (fun _ => ?_))
  · have := of_decide_eq_true h; omega
  rw [hm, bindE_some]
  simp only [Int.toNat_natCast]
  refine ok_bif (fun h => by have := of_decide_eq_true h; omega) (fun _ => ok_bif (fun h => by have := of_decide_eq_true h; omega) (fun _ => ok_chk (by omega) (ok_chk (by omega) (ok_chk (by rw [List.length_replicate]; omega) (ok_cut (fun j => j = List.replicate N e) ?_ (fun j hj => ok_some hj))))))
  have hmin : Nat.min (List.length [e]) N = 1 := Nat.min_eq_left h1
  rw [hmin]
  refine ok_loop (fun (s : Int × List Ev) => ∃ k : Nat, s.1 = (k : Int) ∧ 1 ≤ k ∧ k ≤ N ∧ s.2 = List.replicate k e ++ List.replicate (N - k) (Ev.mk 0 0)) (fun s => N - s.1.toNat) (fun s hT => ?_) _ _ (by simp only; omega) ⟨1, rfl, Nat.le_refl _, h1, ?_⟩
  · obtain ⟨s1, s2⟩ := s
    obtain ⟨k, g1, g2, g3, g4⟩ := hT
    simp only at g1 g4
    subst g1
    have hlen : s2.length = N := by rw [g4]; simp; omega
    simp only [Int.toNat_natCast]
    refine ok_chk hlen (ok_bif (fun hc => ?_) (fun hc => ok_some ?_))
    · have hc := of_decide_eq_true hc
      have hmk : Nat.min k (N - k) ≤ k := Nat.min_le_left _ _
      have hmn : Nat.min k (N - k) ≤ N - k := Nat.min_le_right _ _
      have hm1 : 1 ≤ Nat.min k (N - k) := Nat.le_min.2 ⟨g2, by omega⟩
      refine ok_chk (by omega) (ok_chk (by omega) (ok_chk (by omega) (ok_chk (by omega) (ok_some ⟨⟨k + Nat.min k (N - k), by simp, by omega, by omega, ?_⟩, by first | omega | (simp only; omega)⟩))))
      simp only
      rw [g4, cpy_rep _ _ _ _ _ hmk hmn, Nat.sub_sub]
    · have hc := of_decide_eq_false hc
      have : k = N := by omega
      subst this
      show s2 = _
      rw [g4, Nat.sub_self]; simp
  · unfold cpy
    simp
theorem bmul_all : ((List.range 4097).all fun n => F_bmul 1 (n : Int) == some (0, (n : Int))) = true := by decide +kernel
theorem repeat_eq (fuel : Nat) (e : Ev) (N : Nat) (h1 : 1 ≤ N) (hN : N ≤ 4096) (hf : 4096 < fuel) : F_repeat_ fuel [e] (N : Int) = some (List.replicate N e) := by
  refine repeat_gen fuel e N h1 (by omega) (by omega) ?_
  have hw : IntKind.u64.wrap (N : Int) = (N : Int) := by
    have : IntKind.u64.wrap (N : Int) = (N : Int) % 18446744073709551616 := rfl
    rw [this]; omega
  rw [hw]
  have := List.all_eq_true.1 bmul_all N (List.mem_range.2 (by omega))
  exact (beq_iff_eq).1 this
def stretch (w : List Ev) : Prop := (∃ b : List UInt8, b ≠ [] ∧ w = b.map fun c => Ev.mk 1 ((c.toNat : Nat) : Int)) ∨ (∃ n : Nat, 1 ≤ n ∧ n ≤ 4096 ∧ w = List.replicate n (Ev.mk 2 0)) ∨ w = [Ev.mk 3 0]
theorem bytesP_map (b : List UInt8) : bytesP (b.map fun c => Ev.mk 1 ((c.toNat : Nat) : Int)) = b := by
  induction b with
  | nil => rfl
  | cons c b ih =>
    have : bytesP (Ev.mk 1 ((c.toNat : Nat) : Int) :: (b.map fun c => Ev.mk 1 ((c.toNat : Nat) : Int))) = u8of ((c.toNat : Nat) : Int) :: bytesP (b.map fun c => Ev.mk 1 ((c.toNat : Nat) : Int)) := rfl
    rw [List.map_cons, this, ih, u8of_nat]
theorem partP_1 {b : List UInt8} (h : b ≠ []) : partP (b.map fun c => Ev.mk 1 ((c.toNat : Nat) : Int)) = quoteP b := by
  cases b with
  | nil => exact absurd rfl h
  | cons c b =>
    have hk : (ix (List.map (fun c : UInt8 => Ev.mk 1 ((c.toNat : Nat) : Int)) (c :: b)) 0).k = 1 := rfl
    rw [partP, if_pos hk, bytesP_map]
theorem partP_2 {n : Nat} (h : 1 ≤ n) : partP (List.replicate n (Ev.mk 2 0)) = 116 :: Lib.itoa (n : Int) := by
  obtain ⟨k, rfl⟩ : ∃ k, n = k + 1 := ⟨n - 1, by omega⟩
  have hk : (ix (List.replicate (k + 1) (Ev.mk 2 0)) 0).k = 2 := rfl
  rw [partP, if_neg (by rw [hk]; decide), if_pos hk, List.length_replicate]
theorem partP_3 : partP [Ev.mk 3 0] = [101, 111, 102] := rfl
end Go.Ab
set_option linter.unusedSimpArgs false
set_option linter.unusedVariables false
namespace Go.Ab
open Go Go.RowKit Go.Fwd Go.Proofs
def eofs (l : List Ev) : Bool := l.any fun e => e.k == 3
theorem okE_app : ∀ (a : List Ev) (o : Bool) (b : List Ev), okE o (a ++ b) = (okE o a && okE (o || eofs a) b)
  | [], o, b => by simp [okE, eofs]
  | e :: a, o, b => by
    rw [List.cons_append, okE, okE, okE_app a, Bool.and_assoc]
    congr 2
    simp [eofs, Bool.or_assoc]
theorem join_two (w v : List Ev) (r : List (List Ev)) : Lib.join ((w :: v :: r).map partP) [32] = partP w ++ 32 :: Lib.join ((v :: r).map partP) [32] := by
  rw [List.map_cons, List.map_cons, Lib.join_cons, Lib.join_cons]
  simp [Lib.joinTail]
theorem eofs_w {w : List Ev} (h0 : w ≠ []) (h : ∀ e ∈ w, e.k = (ix w 0).k) : eofs w = ((ix w 0).k == 3) := by
  cases w with
  | nil => exact absurd rfl h0
  | cons e r =>
    have hk0 : (ix (e :: r) 0).k = e.k := rfl
    rw [hk0] at h ⊢
    unfold eofs
    cases hk : e.k == 3 with
    | true => simp [hk]
    | false => 
      rw [List.any_eq_false]
      intro x hx
      rw [h x hx, hk]; simp
end Go.Ab
set_option linter.unusedSimpArgs false
set_option linter.unusedVariables false
set_option maxRecDepth 100000
namespace Go.Ab
open Go Go.RowKit Go.Fwd Go.Proofs
end Go.Ab
set_option linter.unusedSimpArgs false
set_option linter.unusedVariables false
set_option maxRecDepth 100000
namespace Go.Ab
open Go Go.RowKit Go.Fwd Go.Proofs
theorem awake_true : F_awake 100000 = some true := by decide +kernel
structure GoodS (r : List Ev) : Prop where
  ok : okE false r = true
  u8 : U8s r
end Go.Ab

