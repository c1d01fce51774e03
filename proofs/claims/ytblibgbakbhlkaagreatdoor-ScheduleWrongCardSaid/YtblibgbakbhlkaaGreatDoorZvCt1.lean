/-
  schedule: Cut: plain.
-/
import Derived.Test.YtblibgbakbhlkaaGreatDoorZvPz
import Derived.Test.YtblibgbakbhlkaaGreatDoorZvW7
set_option linter.unusedSimpArgs false
set_option linter.unusedVariables false
namespace Go.Ab
open Go Go.RowKit Go.Fwd Go.Proofs
def rightP (e : Ev) (over : Bool) : Bool := if e.k = 1 then !over else if e.k = 2 ∨ e.k = 3 then decide (e.b = 0) && !(over && e.k == 3) else false
theorem right_eq (e : Ev) (o : Bool) : F_right e o = some (rightP e o) := by
  obtain ⟨k, b⟩ := e
  unfold F_right rightP
  by_cases h1 : k = 1
  · subst h1; rfl
  · have h1' : (k == 1) = false := by simpa using h1
    simp only [h1', cond_false, h1, if_false]
    by_cases h2 : k = 2
    · subst h2
      by_cases hb : b = 0 <;> cases o <;> simp [hb, cutE]
    · by_cases h3 : k = 3
      · subst h3
        by_cases hb : b = 0 <;> cases o <;> simp [hb, cutE]
      · have h2' : (k == 2) = false := by simpa using h2
        have h3' : (k == 3) = false := by simpa using h3
        simp [h2, h3, h2', h3', cutE]
def okE : Bool → List Ev → Bool
  | _, [] => true
  | o, e :: l => rightP e o && okE (o || e.k == 3) l
theorem drop_at {α : Type} [Enc α] {l : List α} {i : Nat} (h : i < l.length) : ∃ r, l.drop i = ix l (i : Int) :: r ∧ l.drop (i + 1) = r := by
  refine ⟨l.drop (i + 1), ?_, rfl⟩
  rw [List.drop_eq_getElem_cons h]
  simp [ix, h]
theorem check_ok (fuel : Nat) (l : List Ev) (hf : l.length < fuel) (hl : l.length ≤ 4096) (h : okE false l = true) : F_check fuel l = some (-1, 0) := by
  refine Ok.eq ?_
  unfold F_check
  refine ok_bif (fun hc => by have := of_decide_eq_true hc; omega) (fun _ => ok_cut (fun _ => True) (ok_loop (fun s : Bool × Int => ∃ i : Nat, s.2 = (i : Int) ∧ i ≤ l.length ∧ okE s.1 (l.drop i) = true) (fun s => l.length - s.2.toNat) ?_ fuel (false, 0) (by simpa using hf) ⟨0, rfl, Nat.zero_le _, h⟩) fun _ _ => ok_some rfl)
  rintro ⟨o, i0⟩ ⟨i, rfl, hi, ho⟩
  dsimp only at ho ⊢
  refine ok_bif (fun hc => ?_) (fun hc => ok_some trivial)
  have hlt : i < l.length := by have := of_decide_eq_true hc; omega
  obtain ⟨r, e1, e2⟩ := drop_at hlt
  rw [e1, okE, Bool.and_eq_true] at ho
  refine ok_cut (fun j => j = (o || (ix l (i : Int)).k == 3)) (ok_chk ⟨by omega, by omega⟩ (ok_letE fun x hx => ok_bindE (ok_eq (right_eq x o)) fun y hy => ?_)) fun j hj => ?_
  · subst hy hx
    refine ok_bif (fun hn => by rw [ho.1] at hn; cases hn) (fun _ => ok_bif (fun h => ok_some (by show true = _; rw [h]; rfl)) (fun h => ok_some (by show _ = _; rw [h]; rfl)))
  · subst hj
    refine ok_chk ⟨by omega, by omega⟩ (ok_some ⟨⟨i + 1, by simp, hlt, by rw [e2]; exact ho.2⟩, by simp only; omega⟩)
def bytesP (l : List Ev) : List UInt8 := (l.filter (·.k == 1)).map fun e => u8of e.b
theorem bytes_eq (fuel : Nat) (l : List Ev) (hf : l.length < fuel) (hl : l.length ≤ 1000000000) (hb : ∀ e ∈ l, e.k = 1 → 0 ≤ e.b ∧ e.b < 256) : F_bytes fuel l = some (bytesP l) := by
  refine Ok.eq ?_
  unfold F_bytes
  refine ok_cut (fun j => j = bytesP l) (ok_loop (fun s : List UInt8 × Int => ∃ i : Nat, s.2 = (i : Int) ∧ i ≤ l.length ∧ s.1 ++ bytesP (l.drop i) = bytesP l ∧ s.1.length ≤ i) (fun s => l.length - s.2.toNat) ?_ fuel ([], 0) (by simpa using hf) ⟨0, rfl, Nat.zero_le _, rfl, Nat.zero_le _⟩) fun j hj => ok_some hj
  rintro ⟨a, i0⟩ ⟨i, rfl, hi, ha, hn⟩
  dsimp only at ha hn ⊢
  refine ok_bif (fun hc => ?_) (fun hc => ok_some ?_)
  rotate_left
  · have hlt : ¬ i < l.length := by have := of_decide_eq_false hc; omega
    rw [List.drop_of_length_le (by omega)] at ha
    simpa [bytesP] using ha
  have hlt : i < l.length := by have := of_decide_eq_true hc; omega
  obtain ⟨r, e1, e2⟩ := drop_at hlt
  have hm : ix l (i : Int) ∈ l := List.mem_of_mem_drop (i := i) (by rw [e1]; exact List.mem_cons_self)
  rw [e1] at ha
  refine ok_cut (fun j : List UInt8 => j ++ bytesP r = bytesP l ∧ j.length ≤ i + 1) (ok_chk ⟨by omega, by omega⟩ (ok_letE fun x hx => ?_)) fun j hj => ?_
  · subst hx
    refine ok_bif (fun h => ?_) (fun h => ok_some ⟨?_, by omega⟩)
    · have hk : (ix l (i : Int)).k = 1 := by simpa using h
      refine ok_chk (hb _ hm hk) (ok_chk (by simp; omega) (ok_some ⟨?_, by simp; omega⟩))
      rw [← ha]; simp [bytesP, hk]
    · rw [← ha]; simp [bytesP, h]
  · refine ok_chk ⟨by omega, by omega⟩ (ok_some ⟨⟨i + 1, by simp, hlt, by rw [e2]; exact hj.1, hj.2⟩, by simp only; omega⟩)
end Go.Ab
set_option linter.unusedSimpArgs false
set_option linter.unusedVariables false
namespace Go.Ab
open Go Go.RowKit Go.Fwd Go.Proofs
theorem ok_range {α β ρ : Type} {Q : ρ → Prop} {body : β → α → Option (β ⊕ ρ)} (T : List α → β → Prop) {all : List α} (hs : ∀ p x r s, p ++ x :: r = all → T p s → Ok (cutQ (fun s' => T (p ++ [x]) s') Q) (body s x)) : ∀ (xs pre : List α) (s : β), pre ++ xs = all → T pre s → Ok (cutQ (T all) Q) (rangeE body xs s)
  | [], pre, s, he, h => ⟨.inl s, rfl, by simp at he; subst he; exact h⟩
  | x :: xs, pre, s, he, h => by
    obtain ⟨o, ho, h1⟩ := hs pre x xs s he h
    cases o with
    | inl s' =>
      obtain ⟨r, h2, h3⟩ := ok_range T hs xs (pre ++ [x]) s' (by rw [List.append_assoc]; exact he) h1
      exact ⟨r, by simp only [rangeE, ho, h2], h3⟩
    | inr y => exact ⟨.inr y, by simp only [rangeE, ho], h1⟩
def U8s (l : List Ev) : Prop := ∀ e ∈ l, (0 ≤ e.k ∧ e.k < 256) ∧ 0 ≤ e.b ∧ e.b < 256
theorem runs_mem : ∀ (l : List Ev), ∀ s ∈ runs l, s ≠ [] ∧ (∀ e ∈ s, e ∈ l) ∧ (∀ e ∈ s, e.k = (ix s 0).k)
  | [], s, h => by simp [runs] at h
  | e :: l, s, h => by
    obtain ⟨a, rest, e1, e2, e3, e4⟩ := runs_head e l
    have hlt : rest.length < (e :: l).length := by rw [e1]; simp; omega
    rw [e2] at h
    rcases List.mem_cons.1 h with rfl | h
    · exact ⟨by simp, fun x hx => (List.mem_cons.1 hx).elim (fun h => by rw [h]; exact List.mem_cons_self) (fun h => List.mem_cons_of_mem _ (by rw [e1]; exact List.mem_append_left _ h)), fun x hx => (List.mem_cons.1 hx).elim (fun h => by rw [h]; rfl) (fun h => e3 x h)⟩
    · obtain ⟨q1, q2, q3⟩ := runs_mem rest s h
      exact ⟨q1, fun x hx => List.mem_cons_of_mem _ (by rw [e1]; exact List.mem_append_right _ (q2 x hx)), q3⟩
termination_by l => l.length
theorem runs_flat : ∀ l : List Ev, (runs l).flatten = l
  | [] => rfl
  | e :: l => by
    obtain ⟨a, rest, e1, e2, e3, e4⟩ := runs_head e l
    have hlt : rest.length < (e :: l).length := by rw [e1]; simp; omega
    rw [e2, List.flatten_cons, runs_flat rest, e1]; rfl
termination_by l => l.length
theorem run_len {l s : List Ev} (h : s ∈ runs l) : s.length ≤ l.length := by
  have := (List.sublist_flatten_of_mem h).length_le
  rwa [runs_flat] at this
end Go.Ab
set_option linter.unusedSimpArgs false
set_option linter.unusedVariables false
namespace Go.Ab
open Go Go.RowKit Go.Fwd Go.Proofs
end Go.Ab
set_option linter.unusedSimpArgs false
set_option linter.unusedVariables false
set_option maxRecDepth 20000
namespace Go.Ab
open Go Go.RowKit Go.Fwd Go.Proofs
def stretch (w : List Ev) : Prop := (∃ b : List UInt8, b ≠ [] ∧ w = b.map fun c => Ev.mk 1 ((c.toNat : Nat) : Int)) ∨ (∃ n : Nat, 1 ≤ n ∧ n ≤ 4096 ∧ w = List.replicate n (Ev.mk 2 0)) ∨ w = [Ev.mk 3 0]
theorem bytesP_map (b : List UInt8) : bytesP (b.map fun c => Ev.mk 1 ((c.toNat : Nat) : Int)) = b := by
  induction b with
  | nil => rfl
  | cons c b ih =>
    have : bytesP (Ev.mk 1 ((c.toNat : Nat) : Int) :: (b.map fun c => Ev.mk 1 ((c.toNat : Nat) : Int))) = u8of ((c.toNat : Nat) : Int) :: bytesP (b.map fun c => Ev.mk 1 ((c.toNat : Nat) : Int)) := rfl
    rw [List.map_cons, this, ih, u8of_nat]
end Go.Ab
set_option linter.unusedSimpArgs false
set_option linter.unusedVariables false
namespace Go.Ab
open Go Go.RowKit Go.Fwd Go.Proofs
def eofs (l : List Ev) : Bool := l.any fun e => e.k == 3
theorem okE_app : ∀ (a : List Ev) (o : Bool) (b : List Ev), okE o (a ++ b) = (okE o a && okE (o || eofs a) b)
  | [], o, b => by simp [okE, eofs]
  | e :: a, o, b => by
    rw [List.cons_append, okE, okE, okE_app a, Bool.and_assoc]
    congr 2
    simp [eofs, Bool.or_assoc]
theorem okE_mem : ∀ (l : List Ev) (o : Bool), okE o l = true → ∀ e ∈ l, (e.k = 1 ∨ e.k = 2 ∨ e.k = 3) ∧ (e.k ≠ 1 → e.b = 0)
  | [], _, _, e, h => by simp at h
  | x :: l, o, h, e, he => by
    rw [okE, Bool.and_eq_true] at h
    rcases List.mem_cons.1 he with rfl | he
    · have h1 := h.1
      unfold rightP at h1
      split at h1
      · exact ⟨.inl ‹_›, fun h => absurd ‹_› h⟩
      · split at h1
        · rename_i hk
          rw [Bool.and_eq_true] at h1
          exact ⟨.inr hk, fun _ => of_decide_eq_true h1.1⟩
        · cases h1
    · exact okE_mem l _ h.2 e he
theorem okE_true : ∀ l : List Ev, okE true l = true → (l.filter fun e => e.k == 3) = []
  | [], _ => rfl
  | x :: l, h => by
    rw [okE, Bool.and_eq_true, Bool.true_or] at h
    have hk : (x.k == 3) = false := by
      have h1 := h.1
      unfold rightP at h1
      by_cases h3 : x.k = 3
      · rw [if_neg (by omega), if_pos (.inr h3)] at h1
        simp [h3] at h1
      · simpa using h3
    rw [List.filter_cons, hk]
    exact okE_true l h.2
theorem okE_once : ∀ (l : List Ev) (o : Bool), okE o l = true → (l.filter fun e => e.k == 3).length ≤ 1
  | [], _, _ => by simp
  | x :: l, o, h => by
    rw [okE, Bool.and_eq_true] at h
    cases hk : x.k == 3 with
    | true =>
      rw [hk, Bool.or_true] at h
      rw [List.filter_cons, hk, if_pos rfl, okE_true l h.2]; simp
    | false =>
      rw [List.filter_cons, hk]
      exact okE_once l _ h.2
theorem map_ev {w : List Ev} (h : ∀ e ∈ w, e.k = 1 ∧ 0 ≤ e.b ∧ e.b < 256) : w = (w.map fun e => u8of e.b).map fun c => Ev.mk 1 ((c.toNat : Nat) : Int) := by
  induction w with
  | nil => rfl
  | cons e w ih =>
    obtain ⟨h1, h2⟩ := h e List.mem_cons_self
    rw [List.map_cons, List.map_cons, ← ih fun x hx => h x (List.mem_cons_of_mem _ hx), u8c h2]
    obtain ⟨k, b⟩ := e
    simp only at h1
    rw [h1]
theorem stretch_of {l : List Ev} (h : okE false l = true) (hu : U8s l) (hl : l.length ≤ 4096) {w : List Ev} (hw : w ∈ runs l) : stretch w := by
  obtain ⟨q1, q2, q3⟩ := runs_mem l w hw
  have hlen := run_len hw
  have hp := List.length_pos_iff.2 q1
  obtain ⟨e, r, rfl⟩ : ∃ e r, w = e :: r := by cases w with | nil => exact absurd rfl q1 | cons e r => exact ⟨e, r, rfl⟩
  have hk0 : (ix (e :: r) 0).k = e.k := rfl
  rw [hk0] at q3
  obtain ⟨hk, hb⟩ := okE_mem l false h e (q2 e List.mem_cons_self)
  rcases hk with hk | hk | hk
  · refine .inl ⟨_, ?_, map_ev fun x hx => ⟨(q3 x hx).trans hk, (hu x (q2 x hx)).2⟩⟩
    simp
  · refine .inr (.inl ⟨(e :: r).length, hp, by omega, ?_⟩)
    refine List.eq_replicate_iff.2 ⟨rfl, fun x hx => ?_⟩
    have h1 := (q3 x hx).trans hk
    have h2 := (okE_mem l false h x (q2 x hx)).2 (by omega)
    obtain ⟨k, b⟩ := x
    simp only at h1 h2
    rw [h1, h2]
  · refine .inr (.inr ?_)
    have h1 : (e :: r).filter (fun e => e.k == 3) = e :: r := List.filter_eq_self.2 fun x hx => by have := (q3 x hx).trans hk; simp [this]
    have h2 : (e :: r).Sublist l := by have := List.sublist_flatten_of_mem hw; rwa [runs_flat] at this
    have h3 := (h2.filter fun e => e.k == 3).length_le
    have h4 := okE_once l false h
    rw [h1] at h3
    have hr : r = [] := by
      have : r.length = 0 := by simp only [List.length_cons] at h3; omega
      exact List.length_eq_zero_iff.1 this
    subst hr
    have hb0 := hb (by omega)
    obtain ⟨k, b⟩ := e
    simp only at hk hb0
    rw [hk, hb0]
end Go.Ab
set_option linter.unusedSimpArgs false
set_option linter.unusedVariables false
set_option maxRecDepth 100000
namespace Go.Ab
open Go Go.RowKit Go.Fwd Go.Proofs
end Go.Ab
set_option linter.unusedSimpArgs false
set_option linter.unusedVariables false
set_option maxRecDepth 100000
namespace Go.Ab
open Go Go.RowKit Go.Fwd Go.Proofs
theorem awake_true : F_awake 100000 = some true := by decide +kernel
theorem okE_snoc {a : List Ev} {e : Ev} (h : okE false a = true) (hr : rightP e (eofs a) = true) : okE false (a ++ [e]) = true := by
  rw [okE_app, h, Bool.false_or]; simp [okE, hr]
theorem eofs_snoc (a : List Ev) (e : Ev) : eofs (a ++ [e]) = (eofs a || e.k == 3) := by simp [eofs, List.any_append]
theorem u8s_snoc {a : List Ev} {e : Ev} (h : U8s a) (he : (0 ≤ e.k ∧ e.k < 256) ∧ 0 ≤ e.b ∧ e.b < 256) : U8s (a ++ [e]) := fun x hx => (List.mem_append.1 hx).elim (h x) fun hx => by simp at hx; subst hx; exact he
structure GoodS (r : List Ev) : Prop where
  ok : okE false r = true
  u8 : U8s r
end Go.Ab
set_option linter.unusedSimpArgs false
set_option linter.unusedVariables false
set_option maxRecDepth 100000
namespace Go.Ab
open Go Go.RowKit Go.Fwd Go.Proofs
structure SzZ (z : List Int) : Prop where
  len : z.length ≤ 120
  bnd : ∀ n ∈ z, 0 ≤ n ∧ n < 7
theorem hasneg_no (fuel : Nat) (z : List Int) (hz : SzZ z) (hf : 200 < fuel) : F_hasneg fuel z = some false := by
  have hl := hz.len
  have h : F_ixneg fuel z = some (-1) := by
    refine Ok.eq ?_
    unfold F_ixneg
    refine ok_cut (fun _ => True) (ok_loop (fun s : Int => ∃ i : Nat, s = (i : Int) ∧ i ≤ z.length) (fun s => z.length - s.toNat) ?_ fuel 0 (by simp; omega) ⟨0, rfl, Nat.zero_le _⟩) fun _ _ => ok_some rfl
    rintro i0 ⟨i, rfl, hi⟩
    refine ok_bif (fun hc => ?_) (fun hc => ok_some trivial)
    have hlt : i < z.length := by have := of_decide_eq_true hc; omega
    have hx : ix z (i : Int) = z[i] := by simp [ix, hlt]
    have hb := hz.bnd z[i] (List.getElem_mem _)
    have hneg : F_neg1 (ix z (i : Int)) = some false := by unfold F_neg1; simp [hx]; omega
    rw [hneg, bindE_some]
    refine ok_chk ⟨by omega, by omega⟩ (ok_bif (fun h => by cases h) (fun _ => ok_chk ⟨by omega, by omega⟩ (ok_some ⟨⟨i + 1, by simp, hlt⟩, by omega⟩)))
  unfold F_hasneg
  rw [h, bindE_some]; rfl
def evP (c : Ck) : List Ev := if c.k = 1 then c.l.map fun b => Ev.mk 1 ((b.toNat : Nat) : Int) else [Ev.mk c.k 0]
def nd (cs : List Ck) : Nat := (cs.filter fun c => c.k == 1).length
theorem nd_snoc (cs : List Ck) (c : Ck) : nd (cs ++ [c]) = nd cs + if c.k = 1 then 1 else 0 := by
  unfold nd; by_cases h : c.k = 1 <;> simp [List.filter_append, h]
def lawC (z : List Int) (n : Nat) (c : Ck) : Prop := (c.k ≠ 1 → c.l = []) ∧ (c.k = 1 → if n < z.length then (c.l.length : Int) ≤ ix z (n : Int) ∧ (c.l = [] → ix z (n : Int) = 0) else c.l ≠ [])
def lawCs (z : List Int) (cs : List Ck) : Prop := ∀ p c r, cs = p ++ c :: r → lawC z (nd p) c
theorem lawCs_snoc {z : List Int} {cs : List Ck} {c : Ck} (h : lawCs z cs) (hc : lawC z (nd cs) c) : lawCs z (cs ++ [c]) := by
  intro p d r he
  rcases List.eq_nil_or_concat r with rfl | ⟨r', x, rfl⟩
  · obtain ⟨h1, h2⟩ := List.append_inj' he (by simp)
    have : c = d := by simpa using h2
    subst h1 this; exact hc
  · rw [List.concat_eq_append, ← List.cons_append, ← List.append_assoc] at he
    obtain ⟨h1, h2⟩ := List.append_inj' he (by simp)
    exact h p d r' h1
end Go.Ab
set_option linter.unusedSimpArgs false
set_option linter.unusedVariables false
set_option maxRecDepth 100000
namespace Go.Ab
open Go Go.RowKit Go.Fwd Go.Proofs
theorem sub_take {α : Type} (l : List α) (m : Int) : sub l 0 m = l.take m.toNat := by simp [sub]
theorem flat_snoc (cs : List Ck) (c : Ck) : (cs ++ [c]).flatMap evP = cs.flatMap evP ++ evP c := by simp
theorem flatten_snoc {α : Type} (p : List (List α)) (w : List α) : (p ++ [w]).flatten = p.flatten ++ w := by simp
abbrev ev1 (b : UInt8) : Ev := Ev.mk 1 ((b.toNat : Nat) : Int)
set_option maxHeartbeats 4000000 in
theorem cut_ok (fuel : Nat) (l : List Ev) (z : List Int) (hf : 10000 < fuel) (hl : l.length ≤ 200) (hg : GoodS l) (hz : SzZ z) : Ok (fun r => r.2 = 0 ∧ r.1.flatMap evP = l ∧ r.1.length ≤ 320 ∧ lawCs z r.1) (F_cut fuel l z) := by
  have hzl := hz.len
  unfold F_cut
  rw [check_ok fuel l (by omega) (by omega) hg.ok, bindE_some]
  refine ok_bif (fun h => by simp at h) (fun _ => ok_bif (fun h => by have := of_decide_eq_true h; omega) (fun _ => ?_))
  rw [hasneg_no fuel z hz (by omega), bindE_some]
  refine ok_bif (fun h => by cases h) (fun _ => ?_)
  refine ok_cut (fun j : List Int × List Ck => j.2.flatMap evP = l ∧ j.2.length ≤ 320 ∧ lawCs z j.2) (ok_chk (by omega) (ok_cut (fun j : List Int × List Ck => j.2.flatMap evP = l ∧ j.2.length ≤ 320 ∧ lawCs z j.2) ?_ (fun j hj => ok_some hj))) (fun j hj => ok_some ⟨rfl, hj⟩)
  refine Ok.mono (ok_range (fun (pre : List (List Ev)) (s : List Int × List Ck) => s.2.flatMap evP = pre.flatten ∧ lawCs z s.2 ∧ s.1 = z.drop (nd s.2) ∧ s.2.length + s.1.length ≤ pre.flatten.length + z.length) (all := runs l) (Q := cutQ (fun j : List Int × List Ck => j.2.flatMap evP = l ∧ j.2.length ≤ 320 ∧ lawCs z j.2) (fun r : List Ck × Int => r.2 = 0 ∧ r.1.flatMap evP = l ∧ r.1.length ≤ 320 ∧ lawCs z r.1)) ?_ (runs l) [] (z, []) rfl ⟨rfl, fun p c r h => by simp at h, rfl, by simp⟩) ?_
  rotate_left
  · rintro (s | s) hs
    · obtain ⟨h1, h2, h3, h4⟩ := hs
      rw [runs_flat] at h1 h4
      exact ⟨h1, by omega, h2⟩
    · exact hs
  rintro p w r ⟨zs, cs⟩ hall ⟨h1, h2, h3, h4⟩
  dsimp only at h1 h2 h3 h4 ⊢
  have hw : w ∈ runs l := by rw [← hall]; simp
  obtain ⟨q1, q2, q3⟩ := runs_mem l w hw
  have hst := stretch_of hg.ok hg.u8 (by omega) hw
  have hwl := run_len hw
  have hw0 := List.length_pos_iff.2 q1
  have hpl : p.flatten.length + w.length ≤ l.length := by
    have := congrArg List.length (runs_flat l)
    rw [← hall] at this; simp only [List.flatten_append, List.flatten_cons, List.length_append] at this; omega
  refine ok_cut (fun _ => (ix w 0).k = 1) (ok_chk ⟨by omega, by omega⟩ (ok_letE fun x3 g3 => ok_bif (fun hk => ?_) (fun hk => ok_some (by show (ix w 0).k = 1; rw [g3]; simpa using hk)))) fun _ hk1 => ?_
  · have hk : (ix w 0).k ≠ 1 := by rw [g3]; simpa using hk
    refine ok_cut (fun j : List Ck => j.flatMap evP = p.flatten ++ w ∧ lawCs z j ∧ nd j = nd cs ∧ j.length = cs.length + w.length) (ok_loop (fun s : Int × List Ck => ∃ i : Nat, s.1 = (i : Int) ∧ i ≤ w.length ∧ s.2.flatMap evP = p.flatten ++ w.take i ∧ lawCs z s.2 ∧ nd s.2 = nd cs ∧ s.2.length = cs.length + i) (fun s => w.length - s.1.toNat) ?_ fuel (0, cs) (by simp; omega) ⟨0, rfl, Nat.zero_le _, by simpa using h1, h2, rfl, rfl⟩) fun j hj => ok_some ?_
    · rintro ⟨i0, a⟩ ⟨i, rfl, hi, k1, k2, k3, k4⟩
      dsimp only at k1 k2 k3 k4 ⊢
      refine ok_bif (fun hc => ?_) (fun hc => ok_some ?_)
      rotate_left
      · have hlt : ¬ i < w.length := by have := of_decide_eq_false hc; omega
        rw [List.take_of_length_le (by omega)] at k1
        exact ⟨k1, k2, k3, by omega⟩
      have hlt : i < w.length := by have := of_decide_eq_true hc; omega
      refine ok_chk ⟨by omega, by omega⟩ (ok_letE fun x4 g4 => ok_chk (by simp only [List.length_cons, List.length_nil]; omega) (ok_chk ⟨by omega, by omega⟩ (ok_some ⟨⟨i + 1, by simp, hlt, ?_, ?_, ?_, ?_⟩, by simp only; omega⟩)))
      all_goals
        have hx4 : x4 = w[i] := by rw [← g4]; simp [ix, hlt]
        have hmem : x4 ∈ w := by rw [hx4]; exact List.getElem_mem _
        have hxk : x4.k ≠ 1 := by rw [q3 x4 hmem]; exact hk
        have hxb := (okE_mem l false hg.ok x4 (q2 x4 hmem)).2 hxk
      · show (a ++ [Ck.mk x4.k []]).flatMap evP = _
        rw [flat_snoc, k1, List.take_succ_eq_append_getElem hlt, ← hx4, ← List.append_assoc]
        congr 1
        unfold evP
        rw [if_neg hxk]
        obtain ⟨kk, bb⟩ := x4
        simp only at hxb
        rw [hxb]
      · exact lawCs_snoc k2 ⟨fun _ => rfl, fun h => absurd h hxk⟩
      · show nd (a ++ [Ck.mk x4.k []]) = nd cs
        rw [nd_snoc, if_neg hxk, k3, Nat.add_zero]
      · simp only [List.length_append, List.length_cons, List.length_nil]; omega
    · obtain ⟨k1, k2, k3, k4⟩ := hj
      refine ⟨by rw [flatten_snoc]; exact k1, k2, by show zs = _; rw [h3, k3], ?_⟩
      show j.length + zs.length ≤ _
      rw [flatten_snoc, List.length_append]; omega
  obtain ⟨b, hb, rfl⟩ : ∃ b : List UInt8, b ≠ [] ∧ w = b.map ev1 := by
    rcases hst with h | ⟨n, g1, g2, rfl⟩ | rfl
    · exact h
    · cases n with
      | zero => omega
      | succ n => exact absurd hk1 (by rw [List.replicate_succ]; show (2 : Int) ≠ 1; decide)
    · exact absurd hk1 (by show (3 : Int) ≠ 1; decide)
  have hby : F_bytes fuel (b.map ev1) = some b := by
    rw [bytes_eq fuel _ (by omega) (by omega) fun e he _ => (hg.u8 e (q2 e he)).2, bytesP_map]
  rw [hby, bindE_some]
  have hbl : (b.map ev1).length = b.length := List.length_map _
  rw [hbl] at hwl hw0 hpl
  have hzs : zs.length ≤ z.length := by rw [h3, List.length_drop]; omega
  have hmeas : b.length + zs.length < fuel := by omega
  refine ok_loop (fun s : List UInt8 × List Int × List Ck => s.2.2.flatMap evP ++ s.1.map ev1 = p.flatten ++ b.map ev1 ∧ lawCs z s.2.2 ∧ s.2.1 = z.drop (nd s.2.2) ∧ s.2.2.length + s.2.1.length + s.1.length ≤ p.flatten.length + b.length + z.length) (fun s => s.1.length + s.2.1.length) ?_ fuel (b, zs, cs) hmeas ⟨by show cs.flatMap evP ++ _ = _; rw [h1], h2, h3, by show cs.length + zs.length + b.length ≤ _; omega⟩
  rintro ⟨bs, y, a⟩ ⟨k1, k2, k3, k4⟩
  dsimp only at k1 k2 k3 k4 ⊢
  refine ok_bif (fun hc => ?_) (fun hc => ok_some ?_)
  rotate_left
  · have hb0 : bs = [] := List.length_eq_zero_iff.1 (by have := of_decide_eq_false hc; omega)
    subst hb0
    refine ⟨by rw [flatten_snoc]; simpa using k1, k2, k3, ?_⟩
    show a.length + y.length ≤ _
    rw [flatten_snoc, List.length_append, hbl]; simpa using k4
  have hbs : 0 < bs.length := by have := of_decide_eq_true hc; omega
  refine ok_cut (fun j : Int × List Int => (0 ≤ j.1 ∧ j.1 ≤ (bs.length : Int)) ∧ j.2 = z.drop (nd a + 1) ∧ lawC z (nd a) (Ck.mk 1 (sub bs 0 j.1)) ∧ (j.2.length + 1 = y.length ∨ j.2.length = y.length ∧ j.1 = (bs.length : Int))) (ok_bif (fun hy => ?_) (fun hy => ok_some ?_)) fun j hj => ?_
  · have hy := of_decide_eq_true hy
    have hnz : nd a < z.length := by rw [k3, List.length_drop] at hy; omega
    obtain ⟨r', e1, e2⟩ := drop_at hnz
    have hy0 : ix y (0 : Int) = ix z (nd a : Int) := by rw [k3, e1]; rfl
    have hzb : 0 ≤ ix z (nd a : Int) := by
      have : ix z (nd a : Int) = z[nd a] := by simp [ix, hnz]
      rw [this]; exact (hz.bnd _ (List.getElem_mem _)).1
    have hys : sub y 1 (y.length : Int) = z.drop (nd a + 1) := by
      have := sub_drop' y 1 (by omega)
      rw [show ((1 : Int)) = ((1 : Nat) : Int) from rfl, this, k3, List.drop_drop]
    have hyl : (z.drop (nd a + 1)).length + 1 = y.length := by rw [k3, List.length_drop, List.length_drop]; omega
    refine ok_chk ⟨by omega, by omega⟩ (ok_chk ⟨by omega, by omega, Int.le_refl _⟩ (ok_some ⟨⟨?_, ?_⟩, hys, ⟨fun h => absurd rfl h, fun _ => ?_⟩, .inl ?_⟩))
    · show 0 ≤ min _ _; rw [hy0]; omega
    · show min _ _ ≤ _; omega
    · rw [if_pos hnz]
      show ((sub bs 0 (min _ (ix y 0))).length : Int) ≤ _ ∧ (sub bs 0 (min _ (ix y 0)) = [] → _)
      rw [hy0, sub_take]
      refine ⟨by rw [List.length_take]; omega, fun h => ?_⟩
      have := congrArg List.length h
      rw [List.length_take, List.length_nil] at this; omega
    · show (sub y 1 (y.length : Int)).length + 1 = _
      rw [hys]; exact hyl
  · have hy := of_decide_eq_false hy
    have hy0 : y = [] := List.length_eq_zero_iff.1 (by omega)
    have hnz : ¬ nd a < z.length := by
      intro h
      rw [hy0] at k3
      have := congrArg List.length k3
      rw [List.length_drop, List.length_nil] at this; omega
    refine ⟨⟨by show (0 : Int) ≤ bs.length; omega, Int.le_refl _⟩, ?_, ⟨fun h => absurd rfl h, fun _ => ?_⟩, .inr ⟨rfl, rfl⟩⟩
    · show y = _
      rw [hy0, List.drop_of_length_le (by omega)]
    · rw [if_neg hnz]
      show sub bs 0 (bs.length : Int) ≠ []
      rw [sub_take, Int.toNat_natCast, List.take_length]
      exact List.length_pos_iff.1 hbs
  · obtain ⟨⟨m1, m2⟩, m3, m4, m5⟩ := hj
    obtain ⟨m, z'⟩ := j
    dsimp only at m1 m2 m3 m4 m5 ⊢
    obtain ⟨m, rfl⟩ : ∃ n : Nat, m = (n : Int) := ⟨m.toNat, by omega⟩
    have hal : a.length ≤ 1000 := by omega
    refine ok_chk ⟨by omega, m1, m2⟩ (ok_chk (by rw [sub_take, List.length_take]; omega) (ok_letE fun x6 g6 => ok_chk (by simp only [List.length_cons, List.length_nil]; omega) (ok_chk ⟨m1, m2, Int.le_refl _⟩ (ok_some ⟨⟨?_, ?_, ?_, ?_⟩, ?_⟩))))
    all_goals
      subst g6
      have hd : sub bs (m : Int) (bs.length : Int) = bs.drop m := sub_drop' bs m (by omega)
      have ht : sub bs 0 (m : Int) = bs.take m := by rw [sub_take, Int.toNat_natCast]
      simp only [hd]
    · rw [flat_snoc, ht]
      show a.flatMap evP ++ (bs.take m).map ev1 ++ (bs.drop m).map ev1 = _
      rw [List.append_assoc, ← List.map_append, List.take_append_drop]; exact k1
    · exact lawCs_snoc k2 m4
    · rw [nd_snoc, if_pos rfl]; exact m3
    · simp only [List.length_append, List.length_cons, List.length_nil, List.length_drop]; omega
    · simp only [List.length_drop]; omega
end Go.Ab

