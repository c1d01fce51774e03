/-
  reparteeref33: numbers and lines: plain.
-/
import Derived.Test.YtcdmdnadilafhaaGreatDoorZyRn
import Derived.Test.YtcdmdnadilafhaaGreatDoorZyRp
set_option linter.unusedSimpArgs false
set_option linter.unusedVariables false
namespace Go.Ab
open Go Go.RowKit Go.Fwd Go.Proofs
open Classical in
noncomputable def endO (t : List UInt8) : Option Ed := if h : ∃ e, zb4 e = true ∧ zhy e = t then some h.choose else none
theorem endO_eq {e : Ed} {t : List UInt8} (h1 : zb4 e = true) (h2 : zhy e = t) : endO t = some e := by
 have h : ∃ e, zb4 e = true ∧ zhy e = t := ⟨e, h1, h2⟩
 unfold endO
 rw [dif_pos h]
 obtain ⟨c1, c2⟩ := h.choose_spec
 obtain ⟨g, hg⟩ : ∃ g, g = h.choose := ⟨_, rfl⟩
 rw [← hg] at c1 c2 ⊢
 have a := zpl 10 e (by decide) h1
 have b := zpl 10 g (by decide) c1
 rw [c2, ← h2, a] at b
 simp only [Option.some.injEq, Prod.mk.injEq, and_true] at b
 exact congrArg some b.symm
theorem zm1 {t : List UInt8} (h : ¬ ∃ e, zb4 e = true ∧ zhy e = t) : endO t = none := by
 unfold endO; rw [dif_neg h]
open Classical in
noncomputable def entO (a : Int) (t : List UInt8) : Option En := if h : ∃ e, zbt e a ∧ zdo e = t then some h.choose else none
theorem zy1 {a : Int} (ha : 0 ≤ a) {e : En} {t : List UInt8} (h1 : zbt e a) (h2 : zdo e = t) : entO a t = some e := by
 have h : ∃ e, zbt e a ∧ zdo e = t := ⟨e, h1, h2⟩
 unfold entO
 rw [dif_pos h]
 obtain ⟨c1, c2⟩ := h.choose_spec
 obtain ⟨g, hg⟩ : ∃ g, g = h.choose := ⟨_, rfl⟩
 rw [← hg] at c1 c2 ⊢
 have x := zkq 3000 e a ha h1 (by decide)
 have y := zkq 3000 g a ha c1 (by decide)
 rw [c2, ← h2, x] at y
 simp only [Option.some.injEq, Prod.mk.injEq, and_true] at y
 exact congrArg some y.symm
theorem zyj {a : Int} {t : List UInt8} (h : ¬ ∃ e, zbt e a ∧ zdo e = t) : entO a t = none := by
 unfold entO; rw [dif_neg h]
noncomputable def zib : Nat → Int → Int → List En → List UInt8 → Trc × Int × Int
 | 0, _, n, _, _ => (⟨[], ⟨0, 0⟩⟩, n, 332)
 | k + 1, a, n, l, s => if (Lib.cut s [10]).2.2 = true then
  (match endO (Lib.cut s [10]).1 with
   | some e => if (Lib.cut s [10]).2.1 = [] then (⟨l, e⟩, 0, 0) else (⟨[], ⟨0, 0⟩⟩, n + 1, 332)
   | none => match entO a (Lib.cut s [10]).1 with
    | some e => if l.length = 65536 then (⟨[], ⟨0, 0⟩⟩, n, 332) else zib k (max a e.to) (n + 1) (l ++ [e]) (Lib.cut s [10]).2.1
    | none => (⟨[], ⟨0, 0⟩⟩, n, 332))
  else (⟨[], ⟨0, 0⟩⟩, n, 332)
theorem z1k {s : List UInt8} (h : (10 : UInt8) ∉ s) (k : Nat) (a n : Int) (l : List En) : zib k a n l s = (⟨[], ⟨0, 0⟩⟩, n, 332) := by
 cases k with
 | zero => rfl
 | succ k => simp [zib, zul h]
theorem zl0 {t r : List UInt8} (h : (10 : UInt8) ∉ t) (k : Nat) (a n : Int) (l : List En) : zib (k + 1) a n l (t ++ 10 :: r) =
 (match endO t with
  | some e => if r = [] then (⟨l, e⟩, 0, 0) else (⟨[], ⟨0, 0⟩⟩, n + 1, 332)
  | none => match entO a t with
   | some e => if l.length = 65536 then (⟨[], ⟨0, 0⟩⟩, n, 332) else zib k (max a e.to) (n + 1) (l ++ [e]) r
   | none => (⟨[], ⟨0, 0⟩⟩, n, 332)) := by
 rw [zib, zkx h]
 simp only [if_true]
structure RdS (R : Trc × Int × Int) (len : Nat) (a n : Int) (l : List En) (s : List UInt8) : Prop where
 is : ∃ k, s.length < k ∧ zib k a n l s = R
 at_ : a = atL 0 l
 many : l.length ≤ 65536
 num : n = (l.length : Int) + 1
 sh : s.length + l.length ≤ len
theorem RdS.no {R : Trc × Int × Int} {len : Nat} {a n : Int} {l : List En} {s : List UInt8} (h : RdS R len a n l s) (hn : (10 : UInt8) ∉ s) : R = (⟨[], ⟨0, 0⟩⟩, n, 332) := by
 obtain ⟨k, _, hk⟩ := h.is
 rw [← hk, z1k hn]
theorem RdS.end_ {R : Trc × Int × Int} {len : Nat} {a n : Int} {l : List En} {t r : List UInt8} (h : RdS R len a n l (t ++ 10 :: r)) (hn : (10 : UInt8) ∉ t) {e : Ed} (h1 : zb4 e = true) (h2 : zhy e = t) : R = (if r = [] then (⟨l, e⟩, 0, 0) else (⟨[], ⟨0, 0⟩⟩, n + 1, 332)) := by
 obtain ⟨k, h0, hk⟩ := h.is
 obtain ⟨k, rfl⟩ : ∃ j, k = j + 1 := ⟨k - 1, by omega⟩
 rw [← hk, zl0 hn, endO_eq h1 h2]
theorem RdS.none_ {R : Trc × Int × Int} {len : Nat} {a n : Int} {l : List En} {t r : List UInt8} (h : RdS R len a n l (t ++ 10 :: r)) (hn : (10 : UInt8) ∉ t) (h1 : ¬ ∃ e, zb4 e = true ∧ zhy e = t) (h2 : ¬ ∃ e, zbt e a ∧ zdo e = t) : R = (⟨[], ⟨0, 0⟩⟩, n, 332) := by
 obtain ⟨k, h0, hk⟩ := h.is
 obtain ⟨k, rfl⟩ : ∃ j, k = j + 1 := ⟨k - 1, by omega⟩
 rw [← hk, zl0 hn, zm1 h1, zyj h2]
theorem RdS.full {R : Trc × Int × Int} {len : Nat} {a n : Int} {l : List En} {t r : List UInt8} (h : RdS R len a n l (t ++ 10 :: r)) (hn : (10 : UInt8) ∉ t) (h1 : ¬ ∃ e, zb4 e = true ∧ zhy e = t) {e : En} (h2 : zbt e a) (h3 : zdo e = t) (h4 : l.length = 65536) : R = (⟨[], ⟨0, 0⟩⟩, n, 332) := by
 obtain ⟨k, h0, hk⟩ := h.is
 obtain ⟨k, rfl⟩ : ∃ j, k = j + 1 := ⟨k - 1, by omega⟩
 rw [← hk, zl0 hn, zm1 h1, zy1 (by rw [h.at_]; exact zg7 0 l) h2 h3]
 simp only [h4, if_true]
theorem RdS.next {R : Trc × Int × Int} {len : Nat} {a n : Int} {l : List En} {t r : List UInt8} (h : RdS R len a n l (t ++ 10 :: r)) (hn : (10 : UInt8) ∉ t) (h1 : ¬ ∃ e, zb4 e = true ∧ zhy e = t) {e : En} (h2 : zbt e a) (h3 : zdo e = t) (h4 : ¬ l.length = 65536) : RdS R len (max a e.to) (n + 1) (l ++ [e]) r := by
 obtain ⟨k, h0, hk⟩ := h.is
 obtain ⟨k, rfl⟩ : ∃ j, k = j + 1 := ⟨k - 1, by omega⟩
 have hm := h.many
 have hu := h.num
 have hs := h.sh
 simp only [List.length_append, List.length_cons] at h0 hs
 rw [zl0 hn, zm1 h1, zy1 (by rw [h.at_]; exact zg7 0 l) h2 h3] at hk
 simp only [h4, if_false] at hk
 exact ⟨⟨k, by omega, hk⟩, by rw [zki, ← h.at_]; rfl, by simp; omega, by simp; omega, by simp; omega⟩
theorem RdS.start (s : List UInt8) : RdS (zib (s.length + 1) 0 1 [] s) s.length 0 1 [] s := ⟨⟨_, Nat.lt_succ_self _, rfl⟩, rfl, by simp, by simp, by simp⟩
theorem read_S (fuel : Nat) (t : List UInt8) (hf : 2300 < fuel) (hft : t.length < fuel) (hl : t.length ≤ 1048576) : zsl fuel t = some (zib (t.length + 1) 0 1 [] t) := by
 unfold zsl
 obtain ⟨R, hR⟩ : ∃ R, R = zib (t.length + 1) 0 1 [] t := ⟨_, rfl⟩
 have h0 : RdS R t.length 0 1 [] t := hR ▸ RdS.start t
 rw [← hR]
 refine Ok.eq (zi (fun h => by have := of_decide_eq_true h; omega) (fun _ => ?_))
 refine zaw (fun j => R = (⟨[], ⟨0, 0⟩⟩, j.1, 332)) ?_ (fun j hj => zd hj.symm)
 refine zay (fun (s : List UInt8 × Int × Int × Trc) => RdS R t.length s.2.1 s.2.2.1 s.2.2.2.l s.1) (fun s => s.1.length) (fun s hT => ?_) _ _ hft h0
 obtain ⟨rest, at', n, ⟨l, e⟩⟩ := s
 simp only at hT
 have hm := hT.many
 have hu := hT.num
 have hs := hT.sh
 have ha := zg7 0 l
 rw [← hT.at_] at ha
 refine ze (by simp only; omega) (zn fun x hx => ?_)
 simp only at hx
 by_cases hc : (10 : UInt8) ∈ rest
 ·obtain ⟨p, q, h1, h2⟩ : ∃ p q, rest = p ++ 10 :: q ∧ (10 : UInt8) ∉ p := by
   rcases zvj 10 rest with ⟨k1, k2⟩ | k
   ·have hno : (10 : UInt8) ∉ (Lib.cut rest [10]).1 := by
     obtain ⟨a, r, e1, e2⟩ : ∃ a r, rest = a ++ 10 :: r ∧ (10 : UInt8) ∉ a := by
      clear hT hs hx k1 k2
      induction rest with
      | nil => simp at hc
      | cons b l' ih =>
       by_cases e : (10 : UInt8) = b
       ·exact ⟨[], l', by simp [e], by simp⟩
       ·obtain ⟨a, r, q1, q2⟩ := ih (by simpa [e] using hc)
        exact ⟨b :: a, r, by simp [q1], by simp [e, q2]⟩
     rw [e1, zkx e2]; exact e2
    exact ⟨_, _, k2, hno⟩
   ·exfalso
    obtain ⟨a, r, e1, e2⟩ : ∃ a r, rest = a ++ 10 :: r ∧ (10 : UInt8) ∉ a := by
     clear hT hs hx k
     induction rest with
     | nil => simp at hc
     | cons b l' ih =>
      by_cases e : (10 : UInt8) = b
      ·exact ⟨[], l', by simp [e], by simp⟩
      ·obtain ⟨a, r, q1, q2⟩ := ih (by simpa [e] using hc)
       exact ⟨b :: a, r, by simp [q1], by simp [e, q2]⟩
    rw [e1, zkx e2] at k
    have := congrArg (fun z => z.2.2) k
    simp at this
  subst h1
  rw [zkx h2] at hx
  subst hx
  simp only [List.length_append, List.length_cons] at hs
  refine zi (fun h => by simp at h) (fun _ => ?_)
  obtain ⟨d, hd, hd'⟩ := ends_ok fuel p (by omega) (by omega)
  rw [hd, bindE_some]
  refine zi (fun hd2 => ?_) (fun hd2 => ?_)
  ·obtain ⟨d1, d2, d3, d4⟩ := hd' hd2
   have hr := hT.end_ h2 d2 d1
   refine zi (fun hq => ze (by simp only; omega) (zd ?_)) (fun hq => zd ?_)
   ·have hq : ¬ q = [] := by simpa using hq
    rw [if_neg hq] at hr; exact hr
   ·have hq : q = [] := by simpa using hq
    rw [if_pos hq] at hr; exact hr.symm
  ·have hne : ¬ ∃ e, zb4 e = true ∧ zhy e = p := by
    rintro ⟨e0, q1, q2⟩
    have := zpl fuel e0 (by omega) q1
    rw [q2, hd] at this
    cases this; cases hd2
   obtain ⟨en, he, he'⟩ := z1q fuel p (by omega) (by omega) (by omega)
   rw [he, bindE_some]
   have key : ∀ e0, zbt e0 at' → zdo e0 = p → en = (e0, true) := fun e0 q1 q2 => by
    have := zkq fuel e0 at' ha q1 (by omega)
    rw [q2, he] at this
    exact Option.some.inj this
   refine zi (fun hb => zd ?_) (fun hb => ?_)
   ·refine hT.none_ h2 hne ?_
    rintro ⟨e0, q1, q2⟩
    rw [key e0 q1 q2] at hb; cases hb
   obtain ⟨e1, e2, e3⟩ := he' (by simpa using hb)
   rw [zl1, bindE_some]
   refine zi (fun hrt => zd ?_) (fun hrt => ?_)
   ·refine hT.none_ h2 hne ?_
    rintro ⟨e0, q1, q2⟩
    have := zly q1
    rw [key e0 q1 q2] at hrt
    simp only at hrt
    rw [this] at hrt; cases hrt
   have hrt : zbt en.1 at' := by
    have : zi9 en.1 at' = true := by simpa using hrt
    exact of_decide_eq_true this
   refine zi (fun h6 => zd ?_) (fun h6 => ?_)
   ·have h6 : l.length = 65536 := by have := eq_of_beq h6; simp only at this; omega
    exact hT.full h2 hne hrt e1 h6
   ·have h6 : ¬ l.length = 65536 := by have := ne_of_beq_false h6; simp only at this; omega
    refine ze (by simp only [List.length_cons, List.length_nil]; omega) (ze (by simp only; omega) (zd ⟨hT.next h2 hne hrt e1 h6, ?_⟩))
    simp only [List.length_append, List.length_cons]; omega
 ·rw [zul hc] at hx
  subst hx
  exact zi (fun _ => zd (hT.no hc)) (fun h => by simp at h)
end Go.Ab
set_option linter.unusedSimpArgs false
set_option linter.unusedVariables false
namespace Go.Ab
open Go Go.RowKit Go.Fwd Go.Proofs
def zb9 (l : List Int) : List UInt8 := l.flatMap fun n => 32 :: Lib.itoa n
theorem dv_lt {c : UInt8} {d : Nat} (h : Lib.digitVal c = some d) : d < 10 ∧ c = UInt8.ofNat (48 + d) := by
 unfold Lib.digitVal at h
 split at h
 ·cases h
  refine ⟨by omega, UInt8.toNat_inj.1 ?_⟩
  simp; omega
 ·cases h
theorem zsb : ∀ (k : Nat) (ds : List UInt8) (n : Nat), ds.length = k → Lib.decFrom 0 ds = some n → ds ≠ [] → (ds.head? ≠ some 48 ∨ ds.length = 1) → Lib.decDigits n = ds ∧ (1 < ds.length → 10 ≤ n)
 | 0, ds, n, hk, _, hne, _ => absurd (List.length_eq_zero_iff.1 hk) hne
 | k + 1, ds, n, hk, h, hne, hh => by
  obtain ⟨p, c, rfl⟩ : ∃ p c, ds = p ++ [c] := by
   obtain ⟨p, c, h⟩ := (List.eq_nil_or_concat ds).resolve_left hne
   exact ⟨p, c, by simpa using h⟩
  rw [ztl] at h
  cases hp : Lib.decFrom 0 p with
  | none => rw [hp] at h; cases h
  | some m =>
   rw [hp] at h
   simp only [Option.bind_some, Lib.decFrom] at h
   cases hd : Lib.digitVal c with
   | none => rw [hd] at h; cases h
   | some d =>
    rw [hd] at h
    simp only [Option.some.injEq] at h
    obtain ⟨d1, d2⟩ := dv_lt hd
    by_cases e : p = []
    ·subst e
     have hm : m = 0 := by simpa [Lib.decFrom] using hp.symm
     subst hm
     have : n = d := by omega
     subst this
     exact ⟨by rw [Lib.decDigits_one d1, d2]; rfl, fun h => by simp at h⟩
    ·have hpl : 0 < p.length := List.length_pos_iff.2 e
     have hhp : p.head? ≠ some 48 := by
      rcases hh with hh | hh
      ·rw [List.head?_append] at hh
       obtain ⟨a, q, rfl⟩ := List.exists_cons_of_ne_nil e
       simpa using hh
      ·exact absurd (by simpa using hh) e
     obtain ⟨r1, r2⟩ := zsb k p m (by simp at hk; omega) hp e (.inl hhp)
     have hm : 1 ≤ m := by
      rcases Nat.lt_or_ge 1 p.length with h1 | h1
      ·have := r2 h1; omega
      ·obtain ⟨a, rfl⟩ : ∃ a, p = [a] := by
        match p, hpl, h1 with
        | [a], _, _ => exact ⟨a, rfl⟩
       simp only [Lib.decFrom] at hp
       cases ha : Lib.digitVal a with
       | none => rw [ha] at hp; cases hp
       | some v =>
        rw [ha] at hp
        simp only [Option.some.injEq] at hp
        obtain ⟨v1, v2⟩ := dv_lt ha
        have : v ≠ 0 := fun e0 => by subst e0; apply hhp; rw [v2]; rfl
        omega
     have hn : 10 ≤ n := by omega
     refine ⟨?_, fun _ => hn⟩
     rw [Lib.decDigits, dif_neg (by omega), show n / 10 = m by omega, show n % 10 = d by omega, r1, d2]
theorem zzw (u : Nat) (h : 1 ≤ u) : (Lib.decDigits u).head? ≠ some 48 := by
 induction u using Nat.strongRecOn with
 | ind u ih =>
  rw [Lib.decDigits]
  split
  ·rename_i h1
   intro e
   have := congrArg UInt8.toNat (Option.some.inj e)
   simp at this
   omega
  ·rename_i h1
   obtain ⟨b, r, e⟩ := zy2 (u / 10)
   have := ih (u / 10) (by omega) (by omega)
   rw [e] at this ⊢
   simpa using this
theorem zwh (u : Nat) (h : 1 < (Lib.decDigits u).length) : (Lib.decDigits u).head? ≠ some 48 := by
 refine zzw u ?_
 rcases Nat.eq_zero_or_pos u with rfl | h1
 ·rw [Lib.decDigits_one (by decide)] at h; simp at h
 ·exact h1
theorem zrp {α : Type} [Enc α] (l : List α) (i : Nat) (h : i < l.length) : ix l (i : Int) = l[i] := by simp [ix, h]
theorem ix_nat' {α : Type} [Enc α] (l : List α) (i : Nat) (n : Int) (hn : n = (i : Int)) (h : i < l.length) : ix l n = l[i] := by subst hn; exact zrp l i h
theorem zu3 (fuel : Nat) (t : List UInt8) (hf : t.length < fuel) (hf2 : 20 < fuel) (ht : t.length ≤ 1000000000) : Ok (fun r => r = [] ∨ (zb9 r = t ∧ ∀ n ∈ r, 0 ≤ n ∧ n < 10000000000)) (zhb fuel t) := by
 unfold zhb
 refine zaw (fun r => r = [] ∨ (zb9 r = t ∧ ∀ n ∈ r, 0 ≤ n ∧ n < 10000000000)) ?_ (fun r hr => zd hr)
 refine zay (fun (s : List Int × Int) => ∃ i : Nat, s.2 = (i : Int) ∧ i ≤ t.length ∧ t.take i = zb9 s.1 ∧ s.1.length ≤ i ∧ ∀ n ∈ s.1, 0 ≤ n ∧ n < 10000000000) (fun s => t.length - s.2.toNat) (fun s hT => ?_) _ _ (by simp; omega) ⟨0, rfl, by omega, by simp [zb9], by simp, by simp⟩
 obtain ⟨out, at'⟩ := s
 obtain ⟨i, h1, h2, h3, h4, h5⟩ := hT
 simp only at h1 h3 h4 h5
 subst h1
 refine zi (fun hc => ?_) (fun hc => ?_)
 ·have hc : i < t.length := by have := of_decide_eq_true hc; simp only at this; omega
  refine ze (by simp only; omega) (zn fun x hx => zi (fun _ => zd (.inl rfl)) (fun h32 => ze (by simp only; omega) ?_))
  have hx32 : t[i] = 32 := by
   have h0 : ix t (i : Int) = t[i] := by simp [ix, hc]
   have h32 : (((x.toNat : Nat) : Int) != 32) = false := h32
   have := bne_eq_false_iff_eq.1 h32
   rw [← h0, hx]
   exact UInt8.toNat_inj.1 (by show x.toNat = 32; omega)
  have hl : (t.drop (i + 1)).length = t.length - (i + 1) := List.length_drop
  obtain ⟨l, hle⟩ : ∃ l, l = t.drop (i + 1) := ⟨_, rfl⟩
  rw [← hle] at hl
  refine zaw (fun (s : Int × Int) => ∃ k n : Nat, s.2 = ((i + 1 + k : Nat) : Int) ∧ s.1 = (n : Int) ∧ k ≤ l.length ∧ k ≤ 10 ∧ Lib.decFrom 0 (l.take k) = some n) ?_ (fun s hs => ?_)
  ·refine zay (fun (s : Int × Int) => ∃ k n : Nat, s.2 = ((i + 1 + k : Nat) : Int) ∧ s.1 = (n : Int) ∧ k ≤ l.length ∧ k ≤ 10 ∧ Lib.decFrom 0 (l.take k) = some n) (fun s => t.length - s.2.toNat) (fun s hU => ?_) _ _ (by simp; omega) ⟨0, 0, by simp, rfl, by omega, by omega, rfl⟩
   obtain ⟨nn, kk⟩ := s
   obtain ⟨k, n, g1, g2, g3, g4, g5⟩ := hU
   simp only at g1 g2
   subst g1 g2
   have hlt := Lib.decFrom_lt _ _ _ g5
   have hn10 : n < 10000000000 := by
    have h1 : (l.take k).length ≤ 10 := by simp; omega
    have h2 : 10 ^ (l.take k).length ≤ 10 ^ 10 := Nat.pow_le_pow_right (by decide) h1
    have h3 : (10 : Nat) ^ 10 = 10000000000 := by decide
    omega
   have stop : Ok (cutQ (fun s' : Int × Int => (∃ k n : Nat, s'.2 = ((i + 1 + k : Nat) : Int) ∧ s'.1 = (n : Int) ∧ k ≤ l.length ∧ k ≤ 10 ∧ Lib.decFrom 0 (l.take k) = some n) ∧ t.length - s'.2.toNat < t.length - ((i + 1 + k : Nat) : Int).toNat) (cutQ (fun (s : Int × Int) => ∃ k n : Nat, s.2 = ((i + 1 + k : Nat) : Int) ∧ s.1 = (n : Int) ∧ k ≤ l.length ∧ k ≤ 10 ∧ Lib.decFrom 0 (l.take k) = some n) (cutQ (fun s' : List Int × Int => (∃ i : Nat, s'.2 = (i : Int) ∧ i ≤ t.length ∧ t.take i = zb9 s'.1 ∧ s'.1.length ≤ i ∧ ∀ n ∈ s'.1, 0 ≤ n ∧ n < 10000000000) ∧ t.length - s'.2.toNat < t.length - ((i : Nat) : Int).toNat) (cutQ (fun r : List Int => r = [] ∨ (zb9 r = t ∧ ∀ n ∈ r, 0 ≤ n ∧ n < 10000000000)) (fun r : List Int => r = [] ∨ (zb9 r = t ∧ ∀ n ∈ r, 0 ≤ n ∧ n < 10000000000)))))) (some (Sum.inr (Sum.inl ((n : Int), ((i + 1 + k : Nat) : Int))))) := zd ⟨k, n, rfl, rfl, g3, g4, g5⟩
   refine zi (fun hd => ?_) (fun _ => stop)
   have hd : i + 1 + k < t.length := by have := of_decide_eq_true hd; simp only at this; omega
   have hck : 0 ≤ ((i + 1 + k : Nat) : Int) ∧ ((i + 1 + k : Nat) : Int) < (t.length : Int) := by omega
   refine ze hck (zn fun y hy => zi (fun h48 => ze hck (zn fun z hz => zi (fun h57 => ze (by simp only; omega) (zi (fun h11 => ?_) (fun _ => stop))) (fun _ => stop))) (fun _ => stop))
   have h11 : k < 10 := by have := of_decide_eq_true h11; simp only at this; omega
   have hzy : z = y := by rw [← hz, ← hy]
   subst hzy
   have y48 : 48 ≤ z.toNat := by have := of_decide_eq_true h48; omega
   have y57 : z.toNat ≤ 57 := by have := of_decide_eq_true h57; omega
   have hlk : l[k]? = some z := by
    rw [hle, List.getElem?_drop, List.getElem?_eq_getElem hd, ← hz]
    exact congrArg some (zrp t _ hd).symm
   have hdv : Lib.digitVal z = some (z.toNat - 48) := by unfold Lib.digitVal; rw [if_pos ⟨y48, y57⟩]
   have hstep := Lib.decFrom_take l k 0 n z _ g5 hlk hdv
   refine ze (by simp only; omega) (ze hck (zn fun w hw => ?_))
   have hwy : w = z := by rw [← hw, ← hy]
   subst hwy
   refine ze (by omega) (ze (by simp only; omega) (ze (by simp only; omega) (ze (by simp only; omega) (zd ⟨⟨k + 1, n * 10 + (w.toNat - 48), ?_, ?_, by omega, by omega, hstep⟩, ?_⟩))))
   ·simp only; omega
   ·simp only; omega
   ·simp only; omega
  ·obtain ⟨nn, kk⟩ := s
   obtain ⟨k, n, g1, g2, g3, g4, g5⟩ := hs
   simp only at g1 g2
   subst g1 g2
   have hlt := Lib.decFrom_lt _ _ _ g5
   have hn10 : n < 10000000000 := by
    have h1 : (l.take k).length ≤ 10 := by simp; omega
    have h2 : 10 ^ (l.take k).length ≤ 10 ^ 10 := Nat.pow_le_pow_right (by decide) h1
    have h3 : (10 : Nat) ^ 10 = 10000000000 := by decide
    omega
   have fin : k ≠ 0 → (ix t ((i : Int) + 1) ≠ 48 ∨ k = 1) → Ok (cutQ (fun s' : List Int × Int => (∃ i : Nat, s'.2 = (i : Int) ∧ i ≤ t.length ∧ t.take i = zb9 s'.1 ∧ s'.1.length ≤ i ∧ ∀ n ∈ s'.1, 0 ≤ n ∧ n < 10000000000) ∧ t.length - s'.2.toNat < t.length - ((i : Nat) : Int).toNat) (cutQ (fun r : List Int => r = [] ∨ (zb9 r = t ∧ ∀ n ∈ r, 0 ≤ n ∧ n < 10000000000)) (fun r : List Int => r = [] ∨ (zb9 r = t ∧ ∀ n ∈ r, 0 ≤ n ∧ n < 10000000000)))) (Go.Ab.chk ((List.length out + List.length [(n : Int)]) * 8 ≤ 140737488355328) (some (Sum.inl ((out ++ [(n : Int)]), ((i + 1 + k : Nat) : Int))))) := fun k0 hz => by
    refine ze (by simp only [List.length_cons, List.length_nil]; omega) (zd ⟨⟨i + 1 + k, rfl, by omega, ?_, ?_, ?_⟩, ?_⟩)
    ·have hds : (l.take k).length = k := by simp; omega
     have hh : (l.take k).head? ≠ some 48 ∨ (l.take k).length = 1 := by
      rcases hz with hz | hz
      ·refine .inl fun e => hz ?_
       have hi1 : i + 1 < t.length := by omega
       rw [List.head?_take, if_neg k0, hle, List.head?_drop, List.getElem?_eq_getElem hi1] at e
       rw [ix_nat' t (i + 1) _ (by omega) hi1]; exact Option.some.inj e
      ·exact .inr (by omega)
     obtain ⟨r1, _⟩ := zsb k (l.take k) n hds g5 (fun e => by rw [e] at hds; simp at hds; omega) hh
     simp only
     rw [zb9, List.flatMap_append, show i + 1 + k = (i + 1) + k from rfl, List.take_add, ← hle, List.take_succ_eq_append_getElem hc, h3, hx32]
     simp only [List.flatMap_cons, List.flatMap_nil, List.append_nil]
     rw [zgb (by omega), Int.toNat_natCast, r1, List.append_assoc]
     rfl
    ·simp only [List.length_append, List.length_cons, List.length_nil]; omega
    ·intro m hm
     rcases List.mem_append.1 hm with hm | hm
     ·exact h5 m hm
     ·have := List.mem_singleton.1 hm; subst this; omega
    ·simp only; omega
   refine zaw (fun _ => k ≠ 0 ∧ (ix t ((i : Int) + 1) ≠ 48 ∨ k = 1)) ?_ (fun _ hq => fin hq.1 hq.2)
   refine ze (by simp only; omega) (zi (fun _ => zd (.inl rfl)) (fun hk0 => ?_))
   have hk0 : k ≠ 0 := fun e => by subst e; have := ne_of_beq_false hk0; apply this; simp
   refine ze (by simp only; omega) (ze (by simp only; omega) (zn fun z hz => zi (fun hz48 => ?_) (fun hz48 => zd ⟨hk0, .inl ?_⟩)))
   ·refine ze (by simp only; omega) (zi (fun _ => zd (.inl rfl)) (fun h => zd ⟨hk0, .inr ?_⟩))
    have := of_decide_eq_false h; simp only at this; omega
   ·rw [hz]
    intro e
    subst e
    simp at hz48
 ·have hc : i = t.length := by have := of_decide_eq_false hc; simp only at this; omega
  subst hc
  rw [List.take_length] at h3
  exact zd (.inr ⟨h3.symm, h5⟩)
theorem zuo (fuel : Nat) (l : List Int) (hl : ∀ n ∈ l, 0 ≤ n ∧ n < 10000000000) (hf : (zb9 l).length < fuel) (hf2 : 20 < fuel) (ht : (zb9 l).length ≤ 1000000000) : zhb fuel (zb9 l) = some l := by
 unfold zhb
 refine Ok.eq (zaw (fun r => r = l) ?_ (fun r hr => zd hr))
 have hsplit : ∀ j, (zb9 l) = zb9 (l.take j) ++ zb9 (l.drop j) := fun j => by unfold zb9; rw [← List.flatMap_append, List.take_append_drop]
 have hlen : l.length ≤ (zb9 l).length := by
  clear hl hf ht hsplit
  induction l with
  | nil => simp
  | cons a l ih => simp only [zb9, List.flatMap_cons, List.length_append, List.length_cons] at ih ⊢; omega
 refine zay (fun (s : List Int × Int) => ∃ j : Nat, j ≤ l.length ∧ s.1 = l.take j ∧ s.2 = ((zb9 (l.take j)).length : Int)) (fun s => (zb9 l).length - s.2.toNat) (fun s hT => ?_) _ _ (by simp; omega) ⟨0, by omega, by simp, by simp [zb9]⟩
 obtain ⟨out, at'⟩ := s
 obtain ⟨j, h1, h2, h3⟩ := hT
 simp only at h2 h3
 subst h2 h3
 have hsp := hsplit j
 have hspl := congrArg List.length hsp
 rw [List.length_append] at hspl
 have hdrop : (zb9 l).drop (zb9 (l.take j)).length = zb9 (l.drop j) := by
  conv => lhs; rw [hsp]
  exact List.drop_left
 obtain ⟨i, hi⟩ : ∃ i, i = (zb9 (l.take j)).length := ⟨_, rfl⟩
 rw [← hi] at hdrop hspl ⊢
 obtain ⟨t, ht0⟩ : ∃ t, t = zb9 l := ⟨_, rfl⟩
 rw [← ht0] at hdrop hspl ht hf hlen hsp ⊢
 refine zi (fun hc => ?_) (fun hc => ?_)
 ·have hc : i < t.length := by have := of_decide_eq_true hc; simp only at this; omega
  have hj : j < l.length := by
   rcases Nat.lt_or_ge j l.length with h | h
   ·exact h
   ·rw [List.drop_of_length_le h] at hspl; simp [zb9] at hspl; omega
  have hlj := hl l[j] (List.getElem_mem hj)
  rw [List.drop_eq_getElem_cons hj] at hdrop
  obtain ⟨ds, hds⟩ : ∃ ds, ds = Lib.itoa l[j] := ⟨_, rfl⟩
  have hcan : ds = Lib.decDigits l[j].toNat := by rw [hds, zgb hlj.1]
  have hd10 : ds.length ≤ 10 := by rw [hcan]; exact ztd 9 _ (by omega)
  have hdec : Lib.decFrom 0 ds = some l[j].toNat := by rw [hcan]; exact zzt _
  have hdne : 0 < ds.length := by
   obtain ⟨b, r, e⟩ := zy2 l[j].toNat
   rw [hcan, e]; simp
  have hdm : ∀ x ∈ ds, 48 ≤ x.toNat ∧ x.toNat ≤ 57 := by rw [hds]; exact zu2 hlj.1
  have hdrop2 : t.drop i = 32 :: (ds ++ zb9 (l.drop (j + 1))) := by rw [hdrop, hds]; rfl
  obtain ⟨k1, k2⟩ := znv hdrop2
  have hdrop3 : t.drop (i + 1) = ds ++ zb9 (l.drop (j + 1)) := by
   have : t.drop (i + 1) = (t.drop i).drop 1 := by rw [List.drop_drop]
   rw [this, hdrop2]; rfl
  have hl3 := congrArg List.length hdrop3
  rw [List.length_drop, List.length_append] at hl3
  have hnx : ∀ k (hk : k < ds.length), i + 1 + k < t.length ∧ ix t ((i + 1 + k : Nat) : Int) = ds[k] := fun k hk => by
   have h0 : i + 1 + k < t.length := by omega
   refine ⟨h0, ?_⟩
   have h1 : (t.drop (i + 1))[k]? = ds[k]? := by rw [hdrop3, List.getElem?_append_left hk]
   rw [List.getElem?_drop, List.getElem?_eq_getElem h0, List.getElem?_eq_getElem hk] at h1
   rw [zrp t _ h0]
   exact Option.some.inj h1
  refine ze (by simp only; omega) (zn fun x hx => zi (fun h32 => ?_) (fun _ => ze (by simp only; omega) ?_))
  ·rw [← hx, k1] at h32; simp at h32
  refine zaw (fun (s : Int × Int) => s.2 = ((i + 1 + ds.length : Nat) : Int) ∧ s.1 = l[j]) ?_ (fun s hs => ?_)
  ·refine zay (fun (s : Int × Int) => ∃ k n : Nat, s.2 = ((i + 1 + k : Nat) : Int) ∧ s.1 = (n : Int) ∧ k ≤ ds.length ∧ Lib.decFrom 0 (ds.take k) = some n) (fun s => t.length - s.2.toNat) (fun s hU => ?_) _ _ (by simp; omega) ⟨0, 0, by simp, rfl, by omega, rfl⟩
   obtain ⟨nn, kk⟩ := s
   obtain ⟨k, n, g1, g2, g3, g5⟩ := hU
   simp only at g1 g2
   subst g1 g2
   have hlt := Lib.decFrom_lt _ _ _ g5
   have hn10 : n < 10000000000 := by
    have h1 : (ds.take k).length ≤ 10 := by simp; omega
    have h2 : 10 ^ (ds.take k).length ≤ 10 ^ 10 := Nat.pow_le_pow_right (by decide) h1
    have h3 : (10 : Nat) ^ 10 = 10000000000 := by decide
    omega
   by_cases hk : k = ds.length
   ·subst hk
    rw [List.take_length, hdec] at g5
    have hn : (n : Int) = l[j] := by have := Option.some.inj g5; omega
    have fin : ∀ {α β : Type} {A : α → Prop} {B : β → Prop}, Ok (cutQ A (cutQ (fun (s : Int × Int) => s.2 = ((i + 1 + ds.length : Nat) : Int) ∧ s.1 = l[j]) B)) (some (Sum.inr (Sum.inl ((n : Int), ((i + 1 + ds.length : Nat) : Int))))) := zd ⟨rfl, hn⟩
    refine zi (fun hd => ?_) (fun _ => fin)
    have hd : i + 1 + ds.length < t.length := by have := of_decide_eq_true hd; simp only at this; omega
    have hck : 0 ≤ ((i + 1 + ds.length : Nat) : Int) ∧ ((i + 1 + ds.length : Nat) : Int) < (t.length : Int) := by omega
    refine ze hck (zn fun y hy => zi (fun h48 => ?_) (fun _ => fin))
    exfalso
    have hy32 : y = 32 := by
     have h0 : ix t ((i + 1 + ds.length : Nat) : Int) = t[i + 1 + ds.length] := zrp t _ hd
     rw [← hy, h0]
     have h1 : (t.drop (i + 1))[ds.length]? = (zb9 (l.drop (j + 1)))[0]? := by rw [hdrop3, List.getElem?_append_right (Nat.le_refl _), Nat.sub_self]
     rw [List.getElem?_drop, List.getElem?_eq_getElem hd] at h1
     have hne : l.drop (j + 1) ≠ [] := fun e => by rw [e] at hl3; simp [zb9] at hl3; omega
     obtain ⟨a, r, e⟩ := List.exists_cons_of_ne_nil hne
     rw [e] at h1
     exact Option.some.inj h1
    subst hy32
    simp at h48
   ·have hk : k < ds.length := by omega
    obtain ⟨hb, hxx⟩ := hnx k hk
    have hmem := hdm ds[k] (List.getElem_mem hk)
    have hdv : Lib.digitVal ds[k] = some (ds[k].toNat - 48) := by unfold Lib.digitVal; rw [if_pos hmem]
    have hstep := Lib.decFrom_take ds k 0 n ds[k] _ g5 (List.getElem?_eq_getElem hk) hdv
    have hck : 0 ≤ ((i + 1 + k : Nat) : Int) ∧ ((i + 1 + k : Nat) : Int) < (t.length : Int) := by omega
    refine zi (fun _ => ze hck (zn fun y hy => ?_)) (fun h => by have := of_decide_eq_false h; simp only at this; omega)
    rw [hxx] at hy
    subst hy
    refine zi (fun _ => ze hck (zn fun z hz => ?_)) (fun h => by have := of_decide_eq_false h; omega)
    rw [hxx] at hz
    subst hz
    refine zi (fun _ => ze (by simp only; omega) (zi (fun _ => ze (by simp only; omega) (ze hck (zn fun w hw => ?_))) (fun h => by have := of_decide_eq_false h; simp only at this; omega))) (fun h => by have := of_decide_eq_false h; omega)
    rw [hxx] at hw
    subst hw
    refine ze (by omega) (ze (by simp only; omega) (ze (by simp only; omega) (ze (by simp only; omega) (zd ⟨⟨k + 1, n * 10 + (ds[k].toNat - 48), ?_, ?_, by omega, hstep⟩, ?_⟩))))
    ·simp only; omega
    ·simp only; omega
    ·simp only; omega
  ·obtain ⟨nn, kk⟩ := s
   obtain ⟨rfl, rfl⟩ := hs
   simp only
   have fin : Ok (cutQ (fun s' : List Int × Int => (∃ j : Nat, j ≤ l.length ∧ s'.1 = l.take j ∧ s'.2 = ((zb9 (l.take j)).length : Int)) ∧ t.length - s'.2.toNat < t.length - ((i : Nat) : Int).toNat) (cutQ (fun r : List Int => r = l) (fun r : List Int => r = l))) (Go.Ab.chk ((List.length (l.take j) + List.length [l[j]]) * 8 ≤ 140737488355328) (some (Sum.inl ((l.take j ++ [l[j]]), ((i + 1 + ds.length : Nat) : Int))))) := by
    refine ze (by simp only [List.length_take, List.length_cons, List.length_nil]; omega) (zd ⟨⟨j + 1, by omega, ?_, ?_⟩, ?_⟩)
    ·simp only; rw [List.take_succ_eq_append_getElem hj]
    ·simp only
     rw [List.take_succ_eq_append_getElem hj, zb9, List.flatMap_append]
     have : (List.flatMap (fun n => 32 :: Lib.itoa n) (l.take j)).length = i := hi.symm
     simp only [List.length_append, List.flatMap_cons, List.flatMap_nil, List.append_nil, List.length_cons, this, ← hds]
     omega
    ·simp only; omega
   refine zaw (fun _ => True) ?_ (fun _ _ => fin)
   refine ze (by omega) (zi (fun h => by have := eq_of_beq h; omega) (fun _ => ze (by omega) (ze (by omega) (zn fun z hz => zi (fun hz48 => ?_) (fun _ => zd trivial)))))
   refine ze (by omega) (zi (fun hk2 => ?_) (fun _ => zd trivial))
   exfalso
   have hk2 : 1 < ds.length := by have := of_decide_eq_true hk2; omega
   obtain ⟨hb, hget⟩ := hnx 0 hdne
   have hz0 : z = ds[0] := by
    rw [← hz, ← hget]
    congr 1
   have hz48 : z = 48 := UInt8.toNat_inj.1 (by have := eq_of_beq hz48; show z.toNat = 48; omega)
   have h48 : ds.head? = some 48 := by
    rw [hz48] at hz0
    rw [List.head?_eq_getElem?, List.getElem?_eq_getElem hdne, ← hz0]
   exact zwh l[j].toNat (by rw [← hcan]; omega) (by rw [← hcan]; exact h48)
 ·have hc : i = t.length := by have := of_decide_eq_false hc; simp only at this; omega
  have hj : l.drop j = [] := by
   cases hd : l.drop j with
   | nil => rfl
   | cons a r => rw [hd] at hspl; simp [zb9] at hspl; omega
  refine zd ?_
  have := List.take_append_drop j l
  rw [hj, List.append_nil] at this
  exact this
end Go.Ab
