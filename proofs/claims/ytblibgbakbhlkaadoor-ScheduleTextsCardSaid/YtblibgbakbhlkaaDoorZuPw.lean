/-
  schedule: Write: plain.
-/
import Derived.Test.YtblibgbakbhlkaaDoorZuPz
import Derived.Test.YtblibgbakbhlkaaDoorZuW8
set_option linter.unusedSimpArgs false
set_option linter.unusedVariables false
namespace Go.Ab
open Go Go.RowKit Go.Fwd Go.Proofs
def rightP (e : Ev) (over : Bool) : Bool := if e.k = 1 then !over else if e.k = 2 ∨ e.k = 3 then decide (e.b = 0) && !(over && e.k == 3) else false
theorem right_eq (e : Ev) (o : Bool) : F_right e o = some (rightP e o) := by
  obtain ⟨k, b⟩ := e
  unfold F_right rightP
  by_cases h1 : k = 1
  · subst h1; rfl
  · have h1' : (k == 1) = false := by simpa using h1
    simp only [h1', cond_false, h1, if_false]
    by_cases h2 : k = 2
    · subst h2
      by_cases hb : b = 0 <;> cases o <;> simp [hb, cutE]
    · by_cases h3 : k = 3
      · subst h3
        by_cases hb : b = 0 <;> cases o <;> simp [hb, cutE]
      · have h2' : (k == 2) = false := by simpa using h2
        have h3' : (k == 3) = false := by simpa using h3
        simp [h2, h3, h2', h3', cutE]
def okE : Bool → List Ev → Bool
  | _, [] => true
  | o, e :: l => rightP e o && okE (o || e.k == 3) l
theorem drop_at {α : Type} [Enc α] {l : List α} {i : Nat} (h : i < l.length) : ∃ r, l.drop i = ix l (i : Int) :: r ∧ l.drop (i + 1) = r := by
  refine ⟨l.drop (i + 1), ?_, rfl⟩
  rw [List.drop_eq_getElem_cons h]
  simp [ix, h]
theorem check_ok (fuel : Nat) (l : List Ev) (hf : l.length < fuel) (hl : l.length ≤ 4096) (h : okE false l = true) : F_check fuel l = some (-1, 0) := by
  refine Ok.eq ?_
  unfold F_check
  refine ok_bif (fun hc => by have := of_decide_eq_true hc; omega) (fun _ => ok_cut (fun _ => True) (ok_loop (fun s : Bool × Int => ∃ i : Nat, s.2 = (i : Int) ∧ i ≤ l.length ∧ okE s.1 (l.drop i) = true) (fun s => l.length - s.2.toNat) ?_ fuel (false, 0) (by simpa using hf) ⟨0, rfl, Nat.zero_le _, h⟩) fun _ _ => ok_some rfl)
  rintro ⟨o, i0⟩ ⟨i, rfl, hi, ho⟩
  dsimp only at ho ⊢
  refine ok_bif (fun hc => ?_) (fun hc => ok_some trivial)
  have hlt : i < l.length := by have := of_decide_eq_true hc; omega
  obtain ⟨r, e1, e2⟩ := drop_at hlt
  rw [e1, okE, Bool.and_eq_true] at ho
  refine ok_cut (fun j => j = (o || (ix l (i : Int)).k == 3)) (ok_chk ⟨by omega, by omega⟩ (ok_letE fun x hx => ok_bindE (ok_eq (right_eq x o)) fun y hy => ?_)) fun j hj => ?_
  · subst hy hx
    refine ok_bif (fun hn => by rw [ho.1] at hn; cases hn) (fun _ => ok_bif (fun h => ok_some (by show true = _; rw [h]; rfl)) (fun h => ok_some (by show _ = _; rw [h]; rfl)))
  · subst hj
    refine ok_chk ⟨by omega, by omega⟩ (ok_some ⟨⟨i + 1, by simp, hlt, by rw [e2]; exact ho.2⟩, by simp only; omega⟩)
def bytesP (l : List Ev) : List UInt8 := (l.filter (·.k == 1)).map fun e => u8of e.b
theorem bytes_eq (fuel : Nat) (l : List Ev) (hf : l.length < fuel) (hl : l.length ≤ 1000000000) (hb : ∀ e ∈ l, e.k = 1 → 0 ≤ e.b ∧ e.b < 256) : F_bytes fuel l = some (bytesP l) := by
  refine Ok.eq ?_
  unfold F_bytes
  refine ok_cut (fun j => j = bytesP l) (ok_loop (fun s : List UInt8 × Int => ∃ i : Nat, s.2 = (i : Int) ∧ i ≤ l.length ∧ s.1 ++ bytesP (l.drop i) = bytesP l ∧ s.1.length ≤ i) (fun s => l.length - s.2.toNat) ?_ fuel ([], 0) (by simpa using hf) ⟨0, rfl, Nat.zero_le _, rfl, Nat.zero_le _⟩) fun j hj => ok_some hj
  rintro ⟨a, i0⟩ ⟨i, rfl, hi, ha, hn⟩
  dsimp only at ha hn ⊢
  refine ok_bif (fun hc => ?_) (fun hc => ok_some ?_)
  rotate_left
  · have hlt : ¬ i < l.length := by have := of_decide_eq_false hc; omega
    rw [List.drop_of_length_le (by omega)] at ha
    simpa [bytesP] using ha
  have hlt : i < l.length := by have := of_decide_eq_true hc; omega
  obtain ⟨r, e1, e2⟩ := drop_at hlt
  have hm : ix l (i : Int) ∈ l := List.mem_of_mem_drop (i := i) (by rw [e1]; exact List.mem_cons_self)
  rw [e1] at ha
  refine ok_cut (fun j : List UInt8 => j ++ bytesP r = bytesP l ∧ j.length ≤ i + 1) (ok_chk ⟨by omega, by omega⟩ (ok_letE fun x hx => ?_)) fun j hj => ?_
  · subst hx
    refine ok_bif (fun h => ?_) (fun h => ok_some ⟨?_, by omega⟩)
    · have hk : (ix l (i : Int)).k = 1 := by simpa using h
      refine ok_chk (hb _ hm hk) (ok_chk (by simp; omega) (ok_some ⟨?_, by simp; omega⟩))
      rw [← ha]; simp [bytesP, hk]
    · rw [← ha]; simp [bytesP, h]
  · refine ok_chk ⟨by omega, by omega⟩ (ok_some ⟨⟨i + 1, by simp, hlt, by rw [e2]; exact hj.1, hj.2⟩, by simp only; omega⟩)
theorem eqevs_eq (fuel : Nat) (a b : List Ev) (hf : a.length < fuel) (hl : a.length ≤ 1000000000) : F_eqevs fuel a b = some (decide (a = b)) := by
  refine Ok.eq ?_
  unfold F_eqevs
  refine ok_bif (fun hc => ok_some ?_) (fun hc => ?_)
  · have : a ≠ b := fun e => by subst e; simp at hc
    simp [this]
  have hlen : a.length = b.length := by simp at hc; omega
  refine ok_cut (fun _ => a = b) (ok_loop (fun s : Int => ∃ i : Nat, s = (i : Int) ∧ i ≤ a.length ∧ a.take i = b.take i) (fun s => a.length - s.toNat) ?_ fuel 0 (by simpa using hf) ⟨0, rfl, Nat.zero_le _, rfl⟩) fun _ h => ok_some (by simp [h])
  rintro s ⟨i, rfl, hi, ht⟩
  refine ok_bif (fun hc => ?_) (fun hc => ok_some ?_)
  rotate_left
  · have hlt : ¬ i < a.length := by have := of_decide_eq_false hc; omega
    rwa [List.take_of_length_le (by omega), List.take_of_length_le (by omega)] at ht
  have hlt : i < a.length := by have := of_decide_eq_true hc; omega
  refine ok_chk ⟨by omega, by omega⟩ (ok_letE fun x hx => ok_chk ⟨by omega, by omega⟩ (ok_letE fun y hy => ?_))
  have hltb : i < b.length := by omega
  have hxa : x = a[i] := by rw [← hx]; simp [ix, hlt]
  have hyb : y = b[i] := by rw [← hy]; simp [ix, hltb]
  refine ok_bif (fun h => ok_some ?_) (fun h => ok_chk ⟨by omega, by omega⟩ (ok_some ⟨⟨i + 1, by simp, hlt, ?_⟩, by omega⟩))
  · have hne : x ≠ y := of_decide_eq_true h
    have : a ≠ b := fun e => by subst e; exact hne (hxa.trans hyb.symm)
    show false = decide (a = b)
    simp [this]
  · have he : x = y := by have := of_decide_eq_false h; exact Classical.not_not.1 this
    rw [List.take_succ_eq_append_getElem hlt, List.take_succ_eq_append_getElem hltb, ht, ← hxa, ← hyb, he]
end Go.Ab
set_option linter.unusedSimpArgs false
set_option linter.unusedVariables false
namespace Go.Ab
open Go Go.RowKit Go.Fwd Go.Proofs
theorem quote_dropR (b u : List UInt8) (i : Nat) (hi : i ≤ b.length) : (quoteP b ++ u).drop (1 + ((b.take i).flatMap byteP).length) = (b.drop i).flatMap byteP ++ 34 :: u := by
  have h := quote_drop b i hi
  have h1 : b.flatMap byteP = (b.take i).flatMap byteP ++ (b.drop i).flatMap byteP := by rw [← List.flatMap_append, List.take_append_drop]
  have hl : 1 + ((b.take i).flatMap byteP).length ≤ (quoteP b).length := by unfold quoteP; rw [h1]; simp; omega
  rw [List.drop_append_of_le_length hl, h, List.append_assoc]; rfl
theorem unquoteR (fuel : Nat) (b u : List UInt8) (hf : b.length < fuel) (hb : b.length ≤ 1000000000) (hu : u.length ≤ 1000000000) : F_unquote fuel (quoteP b ++ u) = some (b, ((quoteP b).length : Int), 0) := by
  have hfl := flat_len b
  have hql : (quoteP b).length = (b.flatMap byteP).length + 2 := by simp [quoteP]
  have hqu : (quoteP b ++ u).length = (quoteP b).length + u.length := List.length_append
  unfold F_unquote
  refine Ok.eq (ok_bif (fun h => by simp [quoteP] at h) (fun _ => ok_chk (by omega) (ok_letE fun x hx => ok_bif (fun h => ?_) (fun _ => ?_))))
  · have : x = 34 := by rw [← hx]; rfl
    subst this; simp at h
  refine ok_cut (fun _ => False) ?_ (fun _ h => h.elim)
  refine ok_loop (fun s => ∃ i : Nat, i ≤ b.length ∧ s.1 = b.take i ∧ s.2 = ((1 + ((b.take i).flatMap byteP).length : Nat) : Int)) (fun s => b.length - s.1.length) (fun s hT => ?_) _ _ (by simp; omega) ⟨0, by omega, by simp, by simp⟩
  obtain ⟨i, hi, h1, h2⟩ := hT
  obtain ⟨out, at'⟩ := s
  simp only at h1 h2
  subst h1 h2
  have hd := quote_dropR b u i hi
  have htl : (b.take i).length = i := by simp; omega
  by_cases e : i = b.length
  · subst e
    rw [List.drop_length] at hd
    obtain ⟨k1, k2⟩ := ix_drop (show (quoteP b ++ u).drop _ = 34 :: u from hd)
    rw [List.take_length] at k1 k2 ⊢
    refine ok_bif (fun _ => ?_) (fun h => ?_)
    · refine ok_chk (by omega) (ok_letE fun y hy => ok_bif (fun _ => ok_chk (by omega) (ok_some ?_)) (fun h => ?_))
      · show (_, _, _) = _
        simp only [Prod.mk.injEq, true_and, and_true]
        omega
      · rw [← hy, k1] at h; simp at h
    · have := of_decide_eq_false h; simp only at this; omega
  · have hlt : i < b.length := by omega
    rw [List.drop_eq_getElem_cons hlt, List.flatMap_cons, List.append_assoc] at hd
    obtain ⟨a, r, ha, hne⟩ := byteP_head b[i]
    have hd' := hd
    rw [ha, List.cons_append] at hd'
    obtain ⟨k1, k2⟩ := ix_drop hd'
    have hbl := byteP_len b[i]
    refine ok_bif (fun _ => ?_) (fun h => ?_)
    · refine ok_chk (by omega) (ok_letE fun y hy => ok_bif (fun h => ?_) (fun _ => ok_chk (by omega) (ok_letE fun z hz => ?_)))
      · rw [← hy, k1] at h
        exfalso; apply hne
        apply UInt8.toNat_inj.1
        have := (beq_iff_eq).1 h
        show a.toNat = 34
        omega
      · have hz' : z = byteP b[i] ++ ((b.drop (i + 1)).flatMap byteP ++ 34 :: u) := by
          rw [← hz, sub_drop' _ _ (by omega), hd]
        subst hz'
        rw [readbyte_byte, bindE_some]
        refine ok_bif (fun h => by simp at h) (fun _ => ok_chk (u8n_bnd _) (ok_chk (by simp only [htl, List.length_cons, List.length_nil]; omega) (ok_chk ?_ (ok_some ⟨⟨i + 1, by omega, ?_, ?_⟩, ?_⟩))))
        · simp only; omega
        · simp only [u8of_nat]; rw [List.take_succ_eq_append_getElem hlt]
        · simp only; rw [List.take_succ_eq_append_getElem hlt, List.flatMap_append]; simp; omega
        · simp only [List.length_append, htl, List.length_cons, List.length_nil]; omega
    · have := of_decide_eq_false h; simp only at this; omega
def partP (s : List Ev) : List UInt8 := if (ix s 0).k = 1 then quoteP (bytesP s) else if (ix s 0).k = 2 then 116 :: Lib.itoa (s.length : Int) else [101, 111, 102]
def textP (l : List Ev) : List UInt8 := Lib.join ((runs l).map partP) [32]
theorem ok_range {α β ρ : Type} {Q : ρ → Prop} {body : β → α → Option (β ⊕ ρ)} (T : List α → β → Prop) {all : List α} (hs : ∀ p x r s, p ++ x :: r = all → T p s → Ok (cutQ (fun s' => T (p ++ [x]) s') Q) (body s x)) : ∀ (xs pre : List α) (s : β), pre ++ xs = all → T pre s → Ok (cutQ (T all) Q) (rangeE body xs s)
  | [], pre, s, he, h => ⟨.inl s, rfl, by simp at he; subst he; exact h⟩
  | x :: xs, pre, s, he, h => by
    obtain ⟨o, ho, h1⟩ := hs pre x xs s he h
    cases o with
    | inl s' =>
      obtain ⟨r, h2, h3⟩ := ok_range T hs xs (pre ++ [x]) s' (by rw [List.append_assoc]; exact he) h1
      exact ⟨r, by simp only [rangeE, ho, h2], h3⟩
    | inr y => exact ⟨.inr y, by simp only [rangeE, ho], h1⟩
def U8s (l : List Ev) : Prop := ∀ e ∈ l, (0 ≤ e.k ∧ e.k < 256) ∧ 0 ≤ e.b ∧ e.b < 256
theorem runs_mem : ∀ (l : List Ev), ∀ s ∈ runs l, s ≠ [] ∧ (∀ e ∈ s, e ∈ l) ∧ (∀ e ∈ s, e.k = (ix s 0).k)
  | [], s, h => by simp [runs] at h
  | e :: l, s, h => by
    obtain ⟨a, rest, e1, e2, e3, e4⟩ := runs_head e l
    have hlt : rest.length < (e :: l).length := by rw [e1]; simp; omega
    rw [e2] at h
    rcases List.mem_cons.1 h with rfl | h
    · exact ⟨by simp, fun x hx => (List.mem_cons.1 hx).elim (fun h => by rw [h]; exact List.mem_cons_self) (fun h => List.mem_cons_of_mem _ (by rw [e1]; exact List.mem_append_left _ h)), fun x hx => (List.mem_cons.1 hx).elim (fun h => by rw [h]; rfl) (fun h => e3 x h)⟩
    · obtain ⟨q1, q2, q3⟩ := runs_mem rest s h
      exact ⟨q1, fun x hx => List.mem_cons_of_mem _ (by rw [e1]; exact List.mem_append_right _ (q2 x hx)), q3⟩
termination_by l => l.length
theorem runs_flat : ∀ l : List Ev, (runs l).flatten = l
  | [] => rfl
  | e :: l => by
    obtain ⟨a, rest, e1, e2, e3, e4⟩ := runs_head e l
    have hlt : rest.length < (e :: l).length := by rw [e1]; simp; omega
    rw [e2, List.flatten_cons, runs_flat rest, e1]; rfl
termination_by l => l.length
theorem bytesP_len (s : List Ev) : (bytesP s).length ≤ s.length := by unfold bytesP; rw [List.length_map]; exact List.length_filter_le _ _
theorem itoa_len (n : Nat) (h : n < 10000) : (Lib.itoa (n : Int)).length ≤ 4 := by
  rw [itoa_pos (by omega)]
  exact dig_len 3 n (by simpa using h)
theorem quoteP_len (b : List UInt8) : (quoteP b).length ≤ 4 * b.length + 2 := by
  have := flat_len b
  have h : (quoteP b).length = (b.flatMap byteP).length + 2 := by simp [quoteP]
  omega
theorem partP_len (s : List Ev) (h : s.length < 10000) (h0 : s ≠ []) : (partP s).length ≤ 28 * s.length := by
  have hp := List.length_pos_iff.2 h0
  unfold partP
  split
  · have := quoteP_len (bytesP s); have := bytesP_len s; omega
  · split
    · have := itoa_len s.length h
      simp only [List.length_cons]; omega
    · simp; omega
theorem lens_bound (xs : List (List Ev)) (h : ∀ s ∈ xs, (partP s).length ≤ 28 * s.length) : Lib.lens (xs.map partP) ≤ 28 * xs.flatten.length := by
  induction xs with
  | nil => simp [Lib.lens]
  | cons x xs ih =>
    have h1 := h x List.mem_cons_self
    have h2 := ih fun s hs => h s (List.mem_cons_of_mem _ hs)
    simp only [List.map_cons, List.flatten_cons, List.length_append, Lib.lens, List.sum_cons] at h2 ⊢
    omega
theorem count_bound (xs : List (List Ev)) (h : ∀ s ∈ xs, s ≠ []) : xs.length ≤ xs.flatten.length := by
  induction xs with
  | nil => simp
  | cons x xs ih =>
    have h1 := List.length_pos_iff.2 (h x List.mem_cons_self)
    have h2 := ih fun s hs => h s (List.mem_cons_of_mem _ hs)
    simp only [List.length_cons, List.flatten_cons, List.length_append]; omega
theorem run_len {l s : List Ev} (h : s ∈ runs l) : s.length ≤ l.length := by
  have := (List.sublist_flatten_of_mem h).length_le
  rwa [runs_flat] at this
theorem runs_count (l : List Ev) : (runs l).length ≤ l.length := by
  have := count_bound (runs l) fun s hs => (runs_mem l s hs).1
  rwa [runs_flat] at this
theorem textP_len (l : List Ev) (h : l.length < 10000) : (textP l).length ≤ 29 * l.length := by
  have h1 := lens_bound (runs l) fun s hs => partP_len s (by have := run_len hs; omega) (runs_mem l s hs).1
  have h2 := runs_count l
  rw [runs_flat] at h1
  unfold textP
  cases hr : (runs l).map partP with
  | nil => simp [Lib.join_nil]
  | cons x r =>
    have h3 : r.length + 1 = (runs l).length := by have := congrArg List.length hr; simpa using this.symm
    rw [hr] at h1
    rw [Lib.join_length]
    simp only [List.length_cons, List.length_nil]; omega
end Go.Ab
set_option linter.unusedSimpArgs false
set_option linter.unusedVariables false
namespace Go.Ab
open Go Go.RowKit Go.Fwd Go.Proofs
theorem write_eq (fuel : Nat) (l : List Ev) (hf : l.length + 2 < fuel) (hl : l.length ≤ 4096) (hok : okE false l = true) (hu : U8s l) : F_write fuel l = some (textP l, 0) := by
  refine Ok.eq ?_
  unfold F_write
  rw [check_ok fuel l (by omega) hl hok, bindE_some]
  refine ok_bif (fun h => by simp at h) (fun _ => ?_)
  refine ok_cut (fun j => j = (runs l).map partP) (ok_chk (by omega) (ok_cut (fun s => s = (runs l).map partP) ?_ fun s hs => ok_some hs)) fun j hj => ?_
  · refine ok_range (fun pre s => s = pre.map partP) ?_ (runs l) [] [] rfl rfl
    rintro p w r s he rfl
    have hm : w ∈ runs l := by rw [← he]; simp
    obtain ⟨q1, q2, q3⟩ := runs_mem l w hm
    have hw := run_len hm
    have hw0 := List.length_pos_iff.2 q1
    have hc : p.length + 1 ≤ l.length := by
      have h1 := congrArg List.length he
      have h2 := runs_count l
      simp at h1; omega
    refine ok_chk ⟨by omega, by omega⟩ (ok_letE fun x hx => ok_bif (fun h => ?_) (fun h => ok_bif (fun h2 => ?_) (fun h2 => ?_)))
    · have hk : (ix w 0).k = 1 := by rw [hx]; simpa using h
      have hb := bytesP_len w
      refine ok_bindE (ok_eq (bytes_eq fuel w (by omega) (by omega) fun e he' _ => (hu e (q2 e he')).2)) fun a ha => ok_bindE (ok_eq (quote_eq fuel a (by rw [ha]; omega) (by rw [ha]; omega))) fun b hb' => ok_chk (by simp; omega) (ok_some ?_)
      show _ = _
      rw [hb', ha, List.map_append, List.map_cons, List.map_nil, partP, if_pos hk]
    · have hk : (ix w 0).k = 2 := by rw [hx]; simpa using h2
      have hi := itoa_len w.length (by omega)
      refine ok_chk (by omega) (ok_letE fun a ha => ok_chk (by rw [← ha]; simp; omega) (ok_chk (by simp; omega) (ok_some ?_)))
      show _ = _
      rw [← ha, List.map_append, List.map_cons, List.map_nil, partP, if_neg (by omega), if_pos hk]; rfl
    · have hk1 : ¬ (ix w 0).k = 1 := by rw [hx]; simpa using h
      have hk2 : ¬ (ix w 0).k = 2 := by rw [hx]; simpa using h2
      refine ok_chk (by simp; omega) (ok_some ?_)
      show _ = _
      rw [List.map_append, List.map_cons, List.map_nil, partP, if_neg hk1, if_neg hk2]
  · subst hj
    have h1 := runs_count l
    have h2 := textP_len l (by omega)
    refine ok_chk ⟨by rw [List.length_map]; omega, ?_⟩ (ok_letE fun x hx => ok_some ?_)
    · show ((textP l).length : Int) ≤ _
      omega
    · rw [← hx]; rfl
end Go.Ab

