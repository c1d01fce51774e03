/-
  trace: what Read says, line by line (plain).
-/
import Derived.Test.YtcdmdnadilafhaaGreatDoorZyRn
set_option linter.unusedSimpArgs false
set_option linter.unusedVariables false
namespace Go.Ab
open Go Go.RowKit Go.Fwd Go.Proofs
open Classical in
noncomputable def endO (t : List UInt8) : Option Ed := if h : ∃ e, endedB e = true ∧ endP e = t then some h.choose else none
theorem endO_eq {e : Ed} {t : List UInt8} (h1 : endedB e = true) (h2 : endP e = t) : endO t = some e := by
  have h : ∃ e, endedB e = true ∧ endP e = t := ⟨e, h1, h2⟩
  unfold endO
  rw [dif_pos h]
  obtain ⟨c1, c2⟩ := h.choose_spec
  obtain ⟨g, hg⟩ : ∃ g, g = h.choose := ⟨_, rfl⟩
  rw [← hg] at c1 c2 ⊢
  have a := ends_end 10 e (by decide) h1
  have b := ends_end 10 g (by decide) c1
  rw [c2, ← h2, a] at b
  simp only [Option.some.injEq, Prod.mk.injEq, and_true] at b
  exact congrArg some b.symm
theorem endO_none {t : List UInt8} (h : ¬ ∃ e, endedB e = true ∧ endP e = t) : endO t = none := by
  unfold endO; rw [dif_neg h]
open Classical in
noncomputable def entO (a : Int) (t : List UInt8) : Option En := if h : ∃ e, rightP e a ∧ lineP e = t then some h.choose else none
theorem entO_eq {a : Int} (ha : 0 ≤ a) {e : En} {t : List UInt8} (h1 : rightP e a) (h2 : lineP e = t) : entO a t = some e := by
  have h : ∃ e, rightP e a ∧ lineP e = t := ⟨e, h1, h2⟩
  unfold entO
  rw [dif_pos h]
  obtain ⟨c1, c2⟩ := h.choose_spec
  obtain ⟨g, hg⟩ : ∃ g, g = h.choose := ⟨_, rfl⟩
  rw [← hg] at c1 c2 ⊢
  have x := entry_line 3000 e a ha h1 (by decide)
  have y := entry_line 3000 g a ha c1 (by decide)
  rw [c2, ← h2, x] at y
  simp only [Option.some.injEq, Prod.mk.injEq, and_true] at y
  exact congrArg some y.symm
theorem entO_none {a : Int} {t : List UInt8} (h : ¬ ∃ e, rightP e a ∧ lineP e = t) : entO a t = none := by
  unfold entO; rw [dif_neg h]
noncomputable def readS : Nat → Int → Int → List En → List UInt8 → Trc × Int × Int
  | 0, _, n, _, _ => (⟨[], ⟨0, 0⟩⟩, n, 332)
  | k + 1, a, n, l, s => if (Lib.cut s [10]).2.2 = true then
      (match endO (Lib.cut s [10]).1 with
       | some e => if (Lib.cut s [10]).2.1 = [] then (⟨l, e⟩, 0, 0) else (⟨[], ⟨0, 0⟩⟩, n + 1, 332)
       | none => match entO a (Lib.cut s [10]).1 with
         | some e => if l.length = 65536 then (⟨[], ⟨0, 0⟩⟩, n, 332) else readS k (max a e.to) (n + 1) (l ++ [e]) (Lib.cut s [10]).2.1
         | none => (⟨[], ⟨0, 0⟩⟩, n, 332))
    else (⟨[], ⟨0, 0⟩⟩, n, 332)
theorem readS_no {s : List UInt8} (h : (10 : UInt8) ∉ s) (k : Nat) (a n : Int) (l : List En) : readS k a n l s = (⟨[], ⟨0, 0⟩⟩, n, 332) := by
  cases k with
  | zero => rfl
  | succ k => simp [readS, cut_no h]
theorem readS_at {t r : List UInt8} (h : (10 : UInt8) ∉ t) (k : Nat) (a n : Int) (l : List En) : readS (k + 1) a n l (t ++ 10 :: r) =
    (match endO t with
       | some e => if r = [] then (⟨l, e⟩, 0, 0) else (⟨[], ⟨0, 0⟩⟩, n + 1, 332)
       | none => match entO a t with
         | some e => if l.length = 65536 then (⟨[], ⟨0, 0⟩⟩, n, 332) else readS k (max a e.to) (n + 1) (l ++ [e]) r
         | none => (⟨[], ⟨0, 0⟩⟩, n, 332)) := by
  rw [readS, cut_at h]
  simp only [if_true]
structure RdS (R : Trc × Int × Int) (len : Nat) (a n : Int) (l : List En) (s : List UInt8) : Prop where
  is : ∃ k, s.length < k ∧ readS k a n l s = R
  at_ : a = atL 0 l
  many : l.length ≤ 65536
  num : n = (l.length : Int) + 1
  sh : s.length + l.length ≤ len
theorem RdS.no {R : Trc × Int × Int} {len : Nat} {a n : Int} {l : List En} {s : List UInt8} (h : RdS R len a n l s) (hn : (10 : UInt8) ∉ s) : R = (⟨[], ⟨0, 0⟩⟩, n, 332) := by
  obtain ⟨k, _, hk⟩ := h.is
  rw [← hk, readS_no hn]
theorem RdS.end_ {R : Trc × Int × Int} {len : Nat} {a n : Int} {l : List En} {t r : List UInt8} (h : RdS R len a n l (t ++ 10 :: r)) (hn : (10 : UInt8) ∉ t) {e : Ed} (h1 : endedB e = true) (h2 : endP e = t) : R = (if r = [] then (⟨l, e⟩, 0, 0) else (⟨[], ⟨0, 0⟩⟩, n + 1, 332)) := by
  obtain ⟨k, h0, hk⟩ := h.is
  obtain ⟨k, rfl⟩ : ∃ j, k = j + 1 := ⟨k - 1, by omega⟩
  rw [← hk, readS_at hn, endO_eq h1 h2]
theorem RdS.none_ {R : Trc × Int × Int} {len : Nat} {a n : Int} {l : List En} {t r : List UInt8} (h : RdS R len a n l (t ++ 10 :: r)) (hn : (10 : UInt8) ∉ t) (h1 : ¬ ∃ e, endedB e = true ∧ endP e = t) (h2 : ¬ ∃ e, rightP e a ∧ lineP e = t) : R = (⟨[], ⟨0, 0⟩⟩, n, 332) := by
  obtain ⟨k, h0, hk⟩ := h.is
  obtain ⟨k, rfl⟩ : ∃ j, k = j + 1 := ⟨k - 1, by omega⟩
  rw [← hk, readS_at hn, endO_none h1, entO_none h2]
theorem RdS.full {R : Trc × Int × Int} {len : Nat} {a n : Int} {l : List En} {t r : List UInt8} (h : RdS R len a n l (t ++ 10 :: r)) (hn : (10 : UInt8) ∉ t) (h1 : ¬ ∃ e, endedB e = true ∧ endP e = t) {e : En} (h2 : rightP e a) (h3 : lineP e = t) (h4 : l.length = 65536) : R = (⟨[], ⟨0, 0⟩⟩, n, 332) := by
  obtain ⟨k, h0, hk⟩ := h.is
  obtain ⟨k, rfl⟩ : ∃ j, k = j + 1 := ⟨k - 1, by omega⟩
  rw [← hk, readS_at hn, endO_none h1, entO_eq (by rw [h.at_]; exact atL_ge 0 l) h2 h3]
  simp only [h4, if_true]
theorem RdS.next {R : Trc × Int × Int} {len : Nat} {a n : Int} {l : List En} {t r : List UInt8} (h : RdS R len a n l (t ++ 10 :: r)) (hn : (10 : UInt8) ∉ t) (h1 : ¬ ∃ e, endedB e = true ∧ endP e = t) {e : En} (h2 : rightP e a) (h3 : lineP e = t) (h4 : ¬ l.length = 65536) : RdS R len (max a e.to) (n + 1) (l ++ [e]) r := by
  obtain ⟨k, h0, hk⟩ := h.is
  obtain ⟨k, rfl⟩ : ∃ j, k = j + 1 := ⟨k - 1, by omega⟩
  have hm := h.many
  have hu := h.num
  have hs := h.sh
  simp only [List.length_append, List.length_cons] at h0 hs
  rw [readS_at hn, endO_none h1, entO_eq (by rw [h.at_]; exact atL_ge 0 l) h2 h3] at hk
  simp only [h4, if_false] at hk
  exact ⟨⟨k, by omega, hk⟩, by rw [atL_app, ← h.at_]; rfl, by simp; omega, by simp; omega, by simp; omega⟩
theorem RdS.start (s : List UInt8) : RdS (readS (s.length + 1) 0 1 [] s) s.length 0 1 [] s := ⟨⟨_, Nat.lt_succ_self _, rfl⟩, rfl, by simp, by simp, by simp⟩
theorem read_S (fuel : Nat) (t : List UInt8) (hf : 2300 < fuel) (hft : t.length < fuel) (hl : t.length ≤ 1048576) : F_read fuel t = some (readS (t.length + 1) 0 1 [] t) := by
  unfold F_read
  obtain ⟨R, hR⟩ : ∃ R, R = readS (t.length + 1) 0 1 [] t := ⟨_, rfl⟩
  have h0 : RdS R t.length 0 1 [] t := hR ▸ RdS.start t
  rw [← hR]
  refine Ok.eq (ok_bif (fun h => by have := of_decide_eq_true h; omega) (fun _ => ?_))
  refine ok_cut (fun j => R = (⟨[], ⟨0, 0⟩⟩, j.1, 332)) ?_ (fun j hj => ok_some hj.symm)
  refine ok_loop (fun (s : List UInt8 × Int × Int × Trc) => RdS R t.length s.2.1 s.2.2.1 s.2.2.2.l s.1) (fun s => s.1.length) (fun s hT => ?_) _ _ hft h0
  obtain ⟨rest, at', n, ⟨l, e⟩⟩ := s
  simp only at hT
  have hm := hT.many
  have hu := hT.num
  have hs := hT.sh
  have ha := atL_ge 0 l
  rw [← hT.at_] at ha
  refine ok_chk (by simp only; omega) (ok_letE fun x hx => ?_)
  simp only at hx
  by_cases hc : (10 : UInt8) ∈ rest
  · obtain ⟨p, q, h1, h2⟩ : ∃ p q, rest = p ++ 10 :: q ∧ (10 : UInt8) ∉ p := by
      rcases cut_says 10 rest with ⟨k1, k2⟩ | k
      · have hno : (10 : UInt8) ∉ (Lib.cut rest [10]).1 := by
          obtain ⟨a, r, e1, e2⟩ : ∃ a r, rest = a ++ 10 :: r ∧ (10 : UInt8) ∉ a := by
            clear hT hs hx k1 k2
            induction rest with
            | nil => simp at hc
            | cons b l' ih =>
              by_cases e : (10 : UInt8) = b
              · exact ⟨[], l', by simp [e], by simp⟩
              · obtain ⟨a, r, q1, q2⟩ := ih (by simpa [e] using hc)
                exact ⟨b :: a, r, by simp [q1], by simp [e, q2]⟩
          rw [e1, cut_at e2]; exact e2
        exact ⟨_, _, k2, hno⟩
      · exfalso
        obtain ⟨a, r, e1, e2⟩ : ∃ a r, rest = a ++ 10 :: r ∧ (10 : UInt8) ∉ a := by
          clear hT hs hx k
          induction rest with
          | nil => simp at hc
          | cons b l' ih =>
            by_cases e : (10 : UInt8) = b
            · exact ⟨[], l', by simp [e], by simp⟩
            · obtain ⟨a, r, q1, q2⟩ := ih (by simpa [e] using hc)
              exact ⟨b :: a, r, by simp [q1], by simp [e, q2]⟩
        rw [e1, cut_at e2] at k
        have := congrArg (fun z => z.2.2) k
        simp at this
    subst h1
    rw [cut_at h2] at hx
    subst hx
    simp only [List.length_append, List.length_cons] at hs
    refine ok_bif (fun h => by simp at h) (fun _ => ?_)
    obtain ⟨d, hd, hd'⟩ := ends_ok fuel p (by omega) (by omega)
    rw [hd, bindE_some]
    refine ok_bif (fun hd2 => ?_) (fun hd2 => ?_)
    · obtain ⟨d1, d2, d3, d4⟩ := hd' hd2
      have hr := hT.end_ h2 d2 d1
      refine ok_bif (fun hq => ok_chk (by simp only; omega) (ok_some ?_)) (fun hq => ok_some ?_)
      · have hq : ¬ q = [] := by simpa using hq
        rw [if_neg hq] at hr; exact hr
      · have hq : q = [] := by simpa using hq
        rw [if_pos hq] at hr; exact hr.symm
    · have hne : ¬ ∃ e, endedB e = true ∧ endP e = p := by
        rintro ⟨e0, q1, q2⟩
        have := ends_end fuel e0 (by omega) q1
        rw [q2, hd] at this
        cases this; cases hd2
      obtain ⟨en, he, he'⟩ := entry_ok fuel p (by omega) (by omega) (by omega)
      rw [he, bindE_some]
      have key : ∀ e0, rightP e0 at' → lineP e0 = p → en = (e0, true) := fun e0 q1 q2 => by
        have := entry_line fuel e0 at' ha q1 (by omega)
        rw [q2, he] at this
        exact Option.some.inj this
      refine ok_bif (fun hb => ok_some ?_) (fun hb => ?_)
      · refine hT.none_ h2 hne ?_
        rintro ⟨e0, q1, q2⟩
        rw [key e0 q1 q2] at hb; cases hb
      obtain ⟨e1, e2, e3⟩ := he' (by simpa using hb)
      rw [right_eq, bindE_some]
      refine ok_bif (fun hrt => ok_some ?_) (fun hrt => ?_)
      · refine hT.none_ h2 hne ?_
        rintro ⟨e0, q1, q2⟩
        have := rightB_t q1
        rw [key e0 q1 q2] at hrt
        simp only at hrt
        rw [this] at hrt; cases hrt
      have hrt : rightP en.1 at' := by
        have : rightB en.1 at' = true := by simpa using hrt
        exact of_decide_eq_true this
      refine ok_bif (fun h6 => ok_some ?_) (fun h6 => ?_)
      · have h6 : l.length = 65536 := by have := eq_of_beq h6; simp only at this; omega
        exact hT.full h2 hne hrt e1 h6
      · have h6 : ¬ l.length = 65536 := by have := ne_of_beq_false h6; simp only at this; omega
        refine ok_chk (by simp only [List.length_cons, List.length_nil]; omega) (ok_chk (by simp only; omega) (ok_some ⟨hT.next h2 hne hrt e1 h6, ?_⟩))
        simp only [List.length_append, List.length_cons]; omega
  · rw [cut_no hc] at hx
    subst hx
    exact ok_bif (fun _ => ok_some (hT.no hc)) (fun h => by simp at h)
end Go.Ab

