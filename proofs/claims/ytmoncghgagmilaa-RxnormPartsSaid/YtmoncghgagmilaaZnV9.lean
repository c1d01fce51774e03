/-
  rxnorm as plain functions: captured, alt; sizes.
-/
import Derived.Test.YtmoncghgagmilaaZnV7
set_option linter.unusedSimpArgs false
set_option linter.unusedVariables false
namespace Go.Ab
open Go Go.RowKit Go.Fwd Go.Proofs
theorem CS.mono {n m : Nat} {t : Tr} (h : CS n t) (hm : n ≤ m) : CS m t := ⟨h.1, by have := h.2; omega⟩
theorem CR.cs {t : Tr} (h : CR t) : CS (pre t).length t := ⟨h, Nat.le_refl _⟩
theorem zid {x : Tr} {lo hi : Int} {n : Nat} (h : CS n x) (hn : n ≤ 9999) (hb : zb7 lo hi = true) : CS (n + 1) (zb8 x lo hi) := by
 rw [zye (h.mono hn) hb]
 by_cases hk : x.k = 1
 ·rw [if_pos hk]; exact zyt (by omega)
 ·rw [if_neg hk]; exact cs_rep h hk hb
theorem zj6 {x : Tr} {b : Bd} {n : Nat} (h : CS n x) (hn : n ≤ 9999) (hb : zb7 b.lo b.mo = true) : CS (n + 1) (zd1 x b) := by
 unfold zd1
 split
 ·exact zid h hn hb
 split
 ·exact h.mono (by omega)
 split
 ·rename_i h1
  obtain ⟨y, e1, e2, e3, e4, e5, e6⟩ := zio h.1 h1.1
  have hy : CS n y := ⟨e4, by have := h.2; omega⟩
  rw [e5]
  split
  ·exact zid hy hn zhn
  ·exact zid hy hn hb
 split
 ·exact zid h hn zhn
 ·exact zid h hn hb
def zg0 (n o : Tr) : Bool := decide (n.k = 5) && decide (ofB n = zo8) && zeo (hdT n.l) o
theorem zvc (x y : Tr) (h : CS 9999 x) (hy : CS 9999 y) : zi4 x y = some (zg0 x y) := by
 have h1 := h.2; have h2 := hy.2
 unfold zi4 zg0
 by_cases hk : x.k = 5
 ·obtain ⟨z, e1, e2, e3, e4, e5, e6⟩ := zio h.1 hk
  have hl1 : (0 : Int) ≤ (0 : Int) ∧ (0 : Int) < (x.l.length : Int) := by rw [e1]; exact ⟨by decide, by simp [Tr.l]⟩
  have hix : ix x.l 0 = hdT x.l := rfl
  have hz : (pre (hdT x.l)).length < 2 ^ 61 ∧ (pre y).length < 2 ^ 61 := by rw [e5]; omega
  rw [show (((x.k : Nat) : Int) == 5) = true by simp [hk]]
  by_cases hb : ofB x = zo8
  ·have hb' : Bd.mk x.mn x.mx = Bd.mk 0 (-1) := hb
   simp only [hb', decide_true, cond_true, zat hl1, hix, zag, zat hz, hk, hb, Bool.true_and]
  ·have hb' : ¬ Bd.mk x.mn x.mx = Bd.mk 0 (-1) := hb
   simp [hb', hk, hb]
 ·rw [show (((x.k : Nat) : Int) == 5) = false by simp; omega]
  simp [hk]
theorem zoz {x y : Tr} (h : CR x) (hs : zg0 x y = true) : (pre x).length = (pre y).length + 1 ∧ hdT x.l = y := by
 simp only [zg0, Bool.and_eq_true, decide_eq_true_eq] at hs
 obtain ⟨z, e1, e2, e3, e4, e5, e6⟩ := zio h hs.1.1
 have h3 := hs.2
 rw [e5, zeo, Bool.and_eq_true] at h3
 have h4 := (zf6 _ _).1 h3.2
 subst h4
 exact ⟨e6, e5⟩
def ze1 (x y : Tr) : Option Tr :=
 if zcz x = false ∨ zcz y = false then none
 else if zg0 y x = true then some (zd1 x plusB)
 else if zg0 x y = true then some (zd1 y plusB)
 else if zeo x y = true ∧ x.k = 5 ∧ ofB x = zo8 then some x else none
theorem z1n (x y : Tr) (h : CS 9999 x) (hy : CS 9999 y) : zkt x y = some (match ze1 x y with | some o => (o, true) | none => (noneT, false)) := by
 have h1 := h.2; have h2 := hy.2
 unfold zkt ze1
 rw [zat (by omega), zag]
 cases hp : zcz x with
 | false => rw [if_pos (.inl rfl)]; rfl
 | true =>
  simp only [Bool.not_true, cond_false]
  rw [zat (by omega), zag]
  cases hq : zcz y with
  | false => rw [if_pos (.inr rfl)]; rfl
  | true =>
   rw [if_neg (by simp)]
   simp only [Bool.not_true, cond_false]
   rw [zvc y x hy h, bindE_some, zvc x y h hy]
   cases h3 : zg0 y x with
   | true => rw [if_pos rfl, cond_true, show Bd.mk 1 (-1) = plusB from rfl, zlc x plusB h]; rfl
   | false =>
    rw [if_neg (by decide), cond_false, bindE_some]
    cases h4 : zg0 x y with
    | true => rw [if_pos rfl, cond_true, show Bd.mk 1 (-1) = plusB from rfl, zlc y plusB hy]; rfl
    | false =>
     rw [if_neg (by decide), cond_false, zat ⟨by omega, by omega⟩, zag]
     cases h5 : zeo x y with
     | false => rw [if_neg (by simp)]; rfl
     | true =>
      by_cases hk : x.k = 5
      ·rw [show (((x.k : Nat) : Int) == 5) = true by simp [hk]]
       by_cases hb : ofB x = zo8
       ·have hb' : Bd.mk x.mn x.mx = Bd.mk 0 (-1) := hb
        rw [if_pos ⟨rfl, hk, hb⟩]
        simp [zag, hb']
       ·have hb' : ¬ Bd.mk x.mn x.mx = Bd.mk 0 (-1) := hb
        rw [if_neg (fun h => hb h.2.2)]
        simp [zag, hb']
      ·rw [show (((x.k : Nat) : Int) == 5) = false by simp; omega, if_neg (fun h => hk h.2.1)]
       rfl
theorem z3p {x y o : Tr} {n m : Nat} (h : CS n x) (hy : CS m y) (hn : n ≤ 9999 ∧ m ≤ 9999) (ho : ze1 x y = some o) : CR o ∧ (pre o).length < (pre x).length + (pre y).length := by
 have px := zgx x; have py := zgx y
 unfold ze1 at ho
 split at ho
 ·cases ho
 split at ho
 ·rename_i h1
  cases ho
  have hs := (zoz hy.1 h1).1
  have := zj6 (b := plusB) (h.1.cs) (by have := h.2; omega) zhy
  exact ⟨this.1, by have := this.2; omega⟩
 split at ho
 ·rename_i h1
  cases ho
  have hs := (zoz h.1 h1).1
  have := zj6 (b := plusB) (hy.1.cs) (by have := hy.2; omega) zhy
  exact ⟨this.1, by have := this.2; omega⟩
 split at ho
 ·cases ho; exact ⟨h.1, by omega⟩
 ·cases ho
def zci : List Tr → Option (List Tr)
 | x :: y :: l => match ze1 x y with
  | some o => some (o :: l)
  | none => (zci (y :: l)).map (x :: ·)
 | _ => none
def CLn (n : Nat) (l : List Tr) : Prop := CRL l ∧ (zal l).length ≤ n
theorem CLn.mem {n : Nat} {l : List Tr} {x : Tr} (h : CLn n l) (hx : x ∈ l) : CS n x := ⟨(zc7 l).1 h.1 x hx, by have := zcg hx; have := h.2; omega⟩
theorem zn5 : ∀ {l l' : List Tr} {n : Nat}, CLn n l → n ≤ 9999 → zci l = some l' → CRL l' ∧ (zal l').length < (zal l).length ∧ l' ≠ []
 | [], _, _, _, _, h => by cases h
 | [x], _, _, _, _, h => by cases h
 | x :: y :: l, l', n, hc, hn, h => by
  have hx := hc.mem (x := x) (by simp)
  have hy := hc.mem (x := y) (by simp)
  have h1 := hc.1; have h2 := hc.2
  rw [zaf, zaf] at h1
  simp only [zal, List.length_append] at h2 ⊢
  unfold zci at h
  cases hm : ze1 x y with
  | some o =>
   rw [hm] at h; cases h
   obtain ⟨q1, q2⟩ := z3p hx hy ⟨by omega, by omega⟩ hm
   refine ⟨(zaf _ _).2 ⟨q1, h1.2.2⟩, ?_, by simp⟩
   simp only [zal, List.length_append]; omega
  | none =>
   rw [hm] at h
   cases hr : zci (y :: l) with
   | none => rw [hr] at h; cases h
   | some r =>
    rw [hr] at h; cases h
    obtain ⟨q1, q2, q3⟩ := zn5 (n := n) ⟨(zaf _ _).2 h1.2, by simp only [zal, List.length_append]; omega⟩ hn hr
    refine ⟨(zaf _ _).2 ⟨h1.1, q1⟩, ?_, by simp⟩
    simp only [zal, List.length_append] at q2 ⊢; omega
def zjn : Nat → Tr → Tr
 | 0, t => t
 | n + 1, t => if t.k = 3 then match zci t.l with | some l' => zjn n (zm8 l') | none => t else t
theorem zyb {l : List Tr} {n : Nat} (h : CLn n l) (hn : n ≤ 1000) : CR (zm8 l) ∧ (pre (zm8 l)).length ≤ (zal l).length + 1 := by
 have h1 := h.2
 rw [z0v h.1 (by omega)]
 exact ⟨zqy (zi8 h.1), by have := zm6 3 (zcj 3 l); have := ze3 3 l; omega⟩
theorem zhe {t : Tr} {l' : List Tr} (h : CS 1000 t) (hs : zci t.l = some l') : CR (zm8 l') ∧ (pre (zm8 l')).length < (pre t).length ∧ CLn 1000 l' ∧ l' ≠ [] := by
 have hp : (pre t).length = 1 + (zal t.l).length := by rw [zc0, List.length_cons]; omega
 have hl : CLn 1000 t.l := ⟨((za7 t).1 h.1).2, by have := h.2; omega⟩
 obtain ⟨q1, q2, q3⟩ := zn5 hl (by omega) hs
 have hc : CLn 1000 l' := ⟨q1, by have := hl.2; omega⟩
 obtain ⟨r1, r2⟩ := zyb hc (by omega)
 exact ⟨r1, by omega, hc, q3⟩
theorem zh5 : ∀ (n : Nat) (t : Tr), CS 1000 t → (pre t).length ≤ n → zjn n t = zjn (pre t).length t
 | 0, t, h, hn => by have := zgx t; omega
 | n + 1, t, h, hn => by
  have hp := zgx t
  obtain ⟨m, hm⟩ : ∃ m, (pre t).length = m + 1 := ⟨(pre t).length - 1, by omega⟩
  rw [hm, zjn, zjn]
  split
  ·cases hs : zci t.l with
   | none => rfl
   | some l' =>
    obtain ⟨r1, r2, _⟩ := zhe h hs
    have hc : CS 1000 (zm8 l') := ⟨r1, by have := h.2; omega⟩
    simp only
    rw [zh5 n _ hc (by omega), zh5 m _ hc (by omega)]
  ·rfl
termination_by n t => (pre t).length
def zkn (t : Tr) : Tr := zjn (pre t).length t
theorem zh6 {t : Tr} (h : CS 1000 t) : zkn t = if t.k = 3 then match zci t.l with | some l' => zkn (zm8 l') | none => t else t := by
 have hp := zgx t
 unfold zkn
 obtain ⟨m, hm⟩ : ∃ m, (pre t).length = m + 1 := ⟨(pre t).length - 1, by omega⟩
 rw [hm, zjn]
 split
 ·cases hs : zci t.l with
  | none => rfl
  | some l' =>
   obtain ⟨r1, r2, _⟩ := zhe h hs
   exact zh5 m _ ⟨r1, by have := h.2; omega⟩ (by omega)
 ·rfl
def zyp (l : List Tr) : Tr := zkn (zm8 l)
theorem ztf : ∀ (n : Nat) (t : Tr), (pre t).length ≤ n → CS 1000 t → CR (zkn t) ∧ (pre (zkn t)).length ≤ (pre t).length
 | 0, t, hn, _ => by have := zgx t; omega
 | n + 1, t, hn, h => by
  rw [zh6 h]
  split
  ·cases hs : zci t.l with
   | none => exact ⟨h.1, Nat.le_refl _⟩
   | some l' =>
    obtain ⟨r1, r2, _⟩ := zhe h hs
    have := ztf n (zm8 l') (by omega) ⟨r1, by have := h.2; omega⟩
    exact ⟨this.1, Nat.le_trans this.2 (Nat.le_of_lt r2)⟩
  ·exact ⟨h.1, Nat.le_refl _⟩
theorem cat_cs {l : List Tr} (h : CLn 999 l) : CR (zyp l) ∧ (pre (zyp l)).length ≤ (zal l).length + 1 := by
 obtain ⟨r1, r2⟩ := zyb h (by omega)
 have hh := h.2
 obtain ⟨q1, q2⟩ := ztf _ (zm8 l) (Nat.le_refl _) ⟨r1, by omega⟩
 exact ⟨q1, by have : (pre (zyp l)).length ≤ (pre (zm8 l)).length := q2; omega⟩
theorem zyr (l : List Tr) (i : Nat) : sub l 0 (i : Int) = l.take i := by simp [sub]
theorem zsm (l : List Tr) (i : Nat) : sub l (i : Int) (l.length : Int) = l.drop i := by
 rw [sub, Int.toNat_natCast, Int.toNat_natCast, List.take_of_length_le (by rw [List.length_drop]; omega)]
theorem zww (x y : Tr) (l : List Tr) : zci (x :: y :: l) = match ze1 x y with | some o => some (o :: l) | none => (zci (y :: l)).map (x :: ·) := rfl
theorem cat_eq {fuel : Nat} (l : List Tr) (h : CLn 999 l) (hf : 1001 < fuel) : zxw fuel l = some (zyp l) := by
 have hh := h.2
 obtain ⟨r1, r2⟩ := zyb h (by omega)
 refine Ok.eq ?_
 unfold zxw
 refine zby (by omega) (ze6 fun x1 e1 => ?_)
 subst e1
 refine zqj (fun t => t = zyp l) ?_ fun t ht => zd2 ht
 refine zn2 (T := fun t : Tr => CS 1000 t ∧ zkn t = zyp l) (m := fun t => (pre t).length) ?_ fuel _ (by omega) ⟨⟨r1, by omega⟩, rfl⟩
 rintro t ⟨hc, ht⟩
 refine zkg (fun hk => ?_) fun hk => zd2 ?_
 ·have hk : t.k = 3 := by have := of_decide_eq_true hk; omega
  have hp : (pre t).length = 1 + (zal t.l).length := by rw [zc0, List.length_cons]; omega
  have hcl : CLn 999 t.l := ⟨((za7 t).1 hc.1).2, by have := hc.2; omega⟩
  have hlen := zad t.l
  have h2 := (zka ((za7 t).1 hc.1).1 hk).1
  have hcs := hc.2
  rw [zh6 hc, if_pos hk] at ht
  refine zqj (fun _ => zci t.l = none) ?_ fun _ hn => zd2 ?_
  ·refine zby (by omega) ?_
   refine zn2 (T := fun s : Int => ∃ i : Nat, s = i ∧ i + 1 ≤ t.l.length ∧ zci t.l = (zci (t.l.drop i)).map (t.l.take i ++ ·)) (m := fun s => t.l.length - s.toNat) ?_ fuel 0 (by simp; omega) ⟨0, rfl, by omega, by simp⟩
   rintro s2 ⟨i, rfl, i1, i2⟩
   have hsub : sub t.l 1 (t.l.length : Int) = t.l.drop 1 := zsm t.l 1
   refine zkg (fun hi => ?_) fun hi => zd2 ?_
   ·have hi : i + 1 < t.l.length := by rw [hsub] at hi; have := of_decide_eq_true hi; rw [List.length_drop] at this; omega
    refine zby (by omega) (ze6 fun x2 e2 => zby (by omega) (zby (by omega) (ze6 fun x3 e3 => ?_)))
    rw [zeg (by omega)] at e2
    rw [show (i : Int) + 1 = ((i + 1 : Nat) : Int) by omega, zeg hi] at e3
    have hx := (hcl.mem (x := x2) (e2 ▸ List.getElem_mem _)).mono (m := 9999) (by omega)
    have hy := (hcl.mem (x := x3) (e3 ▸ List.getElem_mem _)).mono (m := 9999) (by omega)
    refine z5w (ok_eq (z1n x2 x3 hx hy)) ?_
    rintro x4 rfl
    have hd : t.l.drop i = x2 :: x3 :: t.l.drop (i + 2) := by rw [List.drop_eq_getElem_cons (by omega), List.drop_eq_getElem_cons hi, e2, e3]
    rw [hd, zww] at i2
    cases hm : ze1 x2 x3 with
    | some o =>
     rw [hm] at i2
     simp only [Option.map_some] at i2
     refine zkg (fun _ => ?_) fun h => by cases h
     obtain ⟨q1, q2, q3, q4⟩ := zhe hc i2
     rw [i2] at ht
     refine zby (by omega) (zby (by omega) (zby (by omega) (zby ?_ (ze6 fun x5 e5 => ?_))))
     ·rw [zyr, show (i : Int) + 2 = ((i + 2 : Nat) : Int) by omega, zsm, List.length_take, List.length_drop]
      simp only [List.length_cons, List.length_nil]; omega
     ·rw [zyr, show (i : Int) + 2 = ((i + 2 : Nat) : Int) by omega, zsm, List.append_assoc] at e5
      have e5 : x5 = t.l.take i ++ o :: t.l.drop (i + 2) := e5.symm
      rw [← e5] at q1 q2 q3 ht
      refine zby (by have := q3.2; omega) (ze6 fun x6 e6 => zd2 ?_)
      subst e6
      exact ⟨⟨⟨q1, by omega⟩, ht⟩, q2⟩
    | none =>
     rw [hm] at i2
     refine zkg (fun h => by cases h) fun _ => zby (by omega) (zd2 ?_)
     refine ⟨⟨i + 1, by omega, by omega, ?_⟩, by omega⟩
     have hd2 : t.l.drop (i + 1) = x3 :: t.l.drop (i + 2) := by rw [List.drop_eq_getElem_cons hi, e3]
     rw [i2, hd2, Option.map_map]
     congr 1
     funext z
     rw [List.take_succ_eq_append_getElem (by omega), e2]; simp
   ·have hi : ¬ i + 1 < t.l.length := by rw [hsub] at hi; have := of_decide_eq_false hi; rw [List.length_drop] at this; omega
    have hd : t.l.drop i = [t.l[i]] := by rw [List.drop_eq_getElem_cons (by omega), List.drop_of_length_le (by omega)]
    show zci t.l = none
    rw [i2, hd]; rfl
  ·rw [hn] at ht
   exact ht
 ·have hk : ¬ t.k = 3 := by have := of_decide_eq_false hk; omega
  rw [zh6 hc, if_neg hk] at ht
  exact ht
end Go.Ab
set_option linter.unusedSimpArgs false
set_option linter.unusedVariables false
namespace Go.Ab
open Go Go.RowKit Go.Fwd Go.Proofs
theorem CLn.nil {n : Nat} : CLn n [] := ⟨zbp, by simp [zal]⟩
theorem CLn.mono {n m : Nat} {l : List Tr} (h : CLn n l) (hm : n ≤ m) : CLn m l := ⟨h.1, by have := h.2; omega⟩
theorem zkb {l m : List Tr} (h : l.Sublist m) : (zal l).length ≤ (zal m).length := by
 induction h with
 | slnil => exact Nat.le_refl _
 | cons a h ih => simp only [zal, List.length_append]; omega
 | cons_cons a h ih => simp only [zal, List.length_append]; omega
theorem zta {l m : List Tr} (h : l.Perm m) : (zal l).length = (zal m).length := by
 induction h with
 | nil => rfl
 | cons a h ih => simp only [zal, List.length_append]; omega
 | swap a b l => simp only [zal, List.length_append]; omega
 | trans h k ih ih2 => omega
theorem CLn.sub {n : Nat} {l m : List Tr} (h : CLn n m) (hs : l.Sublist m) : CLn n l := ⟨(zc7 l).2 fun t ht => (zc7 m).1 h.1 t (hs.subset ht), by have := zkb hs; have := h.2; omega⟩
theorem CLn.perm {n : Nat} {l m : List Tr} (h : CLn n m) (hp : l.Perm m) : CLn n l := ⟨(zc7 l).2 fun t ht => (zc7 m).1 h.1 t (hp.subset ht), by have := zta hp; have := h.2; omega⟩
def zrf (out : List Tr) (x : Tr) : List Tr := if zcz x = false ∨ (out.any fun y => zeo x y) = false then out ++ [x] else out
def zc1 (l : List Tr) : List Tr := l.foldl zrf []
theorem zlj (l : List Tr) (i : Nat) (hi : i < l.length) : zc1 (l.take (i + 1)) = zrf (zc1 (l.take i)) l[i] := by
 unfold zc1; rw [List.take_succ_eq_append_getElem hi, List.foldl_append]; rfl
theorem zia (l : List Tr) : (zc1 l).Sublist l := by
 suffices ∀ i, i ≤ l.length → (zc1 (l.take i)).Sublist (l.take i) by have := this l.length (Nat.le_refl _); rwa [List.take_length] at this
 intro i
 induction i with
 | zero => intro _; simp [zc1]
 | succ i ih =>
  intro hi
  have := ih (by omega)
  rw [zlj l i hi, List.take_succ_eq_append_getElem hi, zrf]
  split
  ·exact this.append (List.Sublist.refl _)
  ·exact this.trans (List.sublist_append_left _ _)
theorem cap1_eq (y x : Tr) (hx : (pre x).length < 2 ^ 61) (hy : (pre y).length < 2 ^ 61) : zql y x = some (zeo x y) := by
 unfold zql; rw [zat ⟨hx, hy⟩]; rfl
theorem zw1 {fuel : Nat} (l : List Tr) (h : CLn 1000 l) (hf : 1001 < fuel) : zg2 fuel l = some (orT (zc1 l)) := by
 have hh := h.2
 have hlen := zad l
 have hd : ∀ i, (zal (zc1 (l.take i))).length ≤ 1000 ∧ (zc1 (l.take i)).length ≤ 1000 := fun i => by
  have h1 := zkb (zia (l.take i)); have h2 := zkb (List.take_sublist i l)
  have h3 := zad (zc1 (l.take i)); omega
 have hm : ∀ i, ∀ y ∈ zc1 (l.take i), y ∈ l := fun i y hy => List.mem_of_mem_take ((zia _).subset hy)
 unfold zg2
 refine zc9 (zc1 l) ?_ (zr ?_ rfl)
 ·refine zgy l.length (fun i => (zc1 (l.take i), (i : Int))) (by simp [zc1]) (fun i hi => ?_) ?_ (by omega)
  ·refine zbn (by simpa using hi) ?_
   refine zc9 (zc1 (l.take (i + 1))) ?_ (zr (by simp only; omega) (by simp))
   have hx := h.mem (x := l[i]) (List.getElem_mem hi)
   have h1 := hx.2
   obtain ⟨d1, d2⟩ := hd i
   refine zr (by simp only; omega) (z7 fun x1 e1 => ?_)
   simp only at e1
   rw [zeg hi] at e1
   subst e1
   rw [zlj l i hi, zrf]
   refine zr (by omega) (z7 fun x2 e2 => ?_)
   rw [e2]
   cases x2 with
   | false => rw [if_pos (.inl rfl)]; exact zr (by simp only [List.length_cons, List.length_nil]; omega) rfl
   | true =>
    refine zei ((zc1 (l.take i)).any fun y => zeo l[i] y) (z62 _ (by simp only; omega) (by simp only; omega) fun y hy => cap1_eq _ _ (by omega) (by have := (h.mem (hm i y hy)).2; omega)) ?_
    cases hq : (zc1 (l.take i)).any fun y => zeo l[i] y with
    | false => rw [if_pos (.inr rfl)]; exact zr (by simp only [List.length_cons, List.length_nil]; omega) rfl
    | true => rw [if_neg (by simp)]; rfl
  ·exact zbo (by simp) (by simp)
 ·have := hd l.length; rw [List.take_length] at this; omega
def zb0 (l : List Tr) : List Tr := l.filter fun x => decide (x.k ≠ 2) && decide (x.k ≠ 1)
def zgu (l : List Tr) : BS := l.foldl (fun s x => if x.k = 2 then s ||| x.s else s) 0#256
def za4 (l : List Tr) : Bool := l.any fun x => decide (x.k = 1)
def zub (s : BS) : List Tr := if s = 0#256 then [] else [.mk 2 s 0 0 []]
def zc8 (l : List Tr) : List Tr := zb0 l ++ zub (zgu l)
def altP (l : List Tr) : Tr :=
 if za4 l = true then (if (orT (zex (zgm (zc8 l)))).k = 0 then emptyT else zd1 (orT (zex (zgm (zc8 l)))) zsu) else orT (zex (zgm (zc8 l)))
def zzs (l : List Tr) : Tr := if (orT l).k ≠ 4 then orT l else if zcz (orT l) = false then orT (zc1 (orT l).l) else altP (orT l).l
theorem zlm : ∀ (l : List Tr) (p : Tr), (zfl p l).Sublist l
 | [], _ => List.Sublist.slnil
 | y :: l, p => by
  unfold zfl
  split
  ·exact (zlm l y).cons y
  ·exact (zlm l y).cons_cons y
theorem ztl : ∀ l : List Tr, (zex l).Sublist l
 | [] => List.Sublist.slnil
 | x :: l => (zlm l x).cons_cons x
theorem cr_cls {s : BS} (h : s ≠ 0#256) : CR (.mk 2 s 0 0 []) := (za7 _).2 ⟨by simp [zdg, zji, h], zbp⟩
theorem zvt {l : List Tr} {n : Nat} (h : CLn n l) (hne : l ≠ []) (hn : n ≤ 1000) : CR (orT l) ∧ (pre (orT l)).length ≤ (zal l).length + 1 := by
 have h1 := h.2
 rw [or_eq h.1 hne (by omega)]
 exact ⟨zq6 (ziv h.1) , by have := zm6 4 (zcj 4 l); have := ze3 4 l; omega⟩
theorem zw0 (l : List Tr) (i : Nat) (hi : i < l.length) : zb0 (l.take (i + 1)) = zb0 (l.take i) ++ (if l[i].k = 2 ∨ l[i].k = 1 then [] else [l[i]]) := by
 unfold zb0
 rw [List.take_succ_eq_append_getElem hi, List.filter_append]
 congr 1
 by_cases h2 : l[i].k = 2
 ·simp [h2]
 ·by_cases h1 : l[i].k = 1
  ·simp [h1]
  ·simp [h1, h2]
theorem zy9 (l : List Tr) (i : Nat) (hi : i < l.length) : zgu (l.take (i + 1)) = if l[i].k = 2 then zgu (l.take i) ||| l[i].s else zgu (l.take i) := by
 unfold zgu
 rw [List.take_succ_eq_append_getElem hi, List.foldl_append]; rfl
theorem zzt (l : List Tr) (i : Nat) (hi : i < l.length) : za4 (l.take (i + 1)) = (za4 (l.take i) || decide (l[i].k = 1)) := by
 unfold za4
 rw [List.take_succ_eq_append_getElem hi, List.any_append]; simp
theorem zqh (l : List Tr) : (zb0 l).Sublist l := List.filter_sublist
theorem zx9 : ∀ (l : List Tr) (s : BS), (l.foldl (fun s x => if x.k = 2 then s ||| x.s else s) s) ≠ s → ∃ x ∈ l, x.k = 2
 | [], s, h => absurd rfl h
 | x :: l, s, h => by
  by_cases hk : x.k = 2
  ·exact ⟨x, by simp, hk⟩
  ·rw [List.foldl_cons, if_neg hk] at h
   obtain ⟨y, h1, h2⟩ := zx9 l s h
   exact ⟨y, by simp [h1], h2⟩
theorem zpz : ∀ l : List Tr, (zal (zb0 l)).length + (if l.any (fun x => decide (x.k = 2)) = true then 1 else 0) + (if za4 l = true then 1 else 0) ≤ (zal l).length
 | [] => by simp [zb0, za4, zal]
 | x :: l => by
  have ih := zpz l
  have hx := zgx x
  have hb : ∀ b : Bool, (if b = true then 1 else 0) ≤ 1 := fun b => by cases b <;> simp
  have b1 := hb (l.any fun x => decide (x.k = 2)); have b2 := hb (za4 l)
  by_cases h2 : x.k = 2
  ·have e : zb0 (x :: l) = zb0 l := by simp [zb0, h2]
   have e2 : ((x :: l).any fun x => decide (x.k = 2)) = true := by simp [h2]
   have e3 : za4 (x :: l) = za4 l := by simp [za4, h2]
   rw [e, e2, e3, if_pos rfl]
   simp only [zal, List.length_append]; omega
  ·by_cases h1 : x.k = 1
   ·have e : zb0 (x :: l) = zb0 l := by simp [zb0, h1]
    have e2 : ((x :: l).any fun x => decide (x.k = 2)) = l.any fun x => decide (x.k = 2) := by simp [h1]
    have e3 : za4 (x :: l) = true := by simp [za4, h1]
    rw [e, e2, e3, if_pos rfl]
    simp only [zal, List.length_append]; omega
   ·have e : zb0 (x :: l) = x :: zb0 l := by simp [zb0, h1, h2]
    have e2 : ((x :: l).any fun x => decide (x.k = 2)) = l.any fun x => decide (x.k = 2) := by simp [h2]
    have e3 : za4 (x :: l) = za4 l := by simp [za4, h1]
    rw [e, e2, e3]
    simp only [zal, List.length_append]; omega
theorem zso {l : List Tr} {n : Nat} (h : CLn n l) : CRL (zc8 l) ∧ (zal (zc8 l)).length + (if za4 l = true then 1 else 0) ≤ (zal l).length := by
 have hs := zpz l
 have ho := h.sub (zqh l)
 unfold zc8 zub
 split
 ·rw [List.append_nil]; exact ⟨ho.1, by omega⟩
 ·rename_i hb
  obtain ⟨x, hx, hk⟩ := zx9 l 0#256 hb
  have e2 : (l.any fun x => decide (x.k = 2)) = true := List.any_eq_true.2 ⟨x, hx, by simpa using hk⟩
  rw [e2, if_pos rfl] at hs
  refine ⟨(zcc _ _).2 ⟨ho.1, (zaf _ _).2 ⟨cr_cls hb, zbp⟩⟩, ?_⟩
  rw [za9, List.length_append]
  simp only [zal, pre, List.length_append, List.length_cons, List.length_nil]
  omega
theorem zz8 {l : List Tr} {n : Nat} (h : CLn n l) : CLn n (zex (zgm l)) := (h.perm (zdi l)).sub (ztl _)
theorem z5y {l : List Tr} (h : l ≠ []) : zex (zgm l) ≠ [] := by
 have h1 : 0 < (zgm l).length := by rw [(zdi l).length_eq]; exact List.length_pos_iff.2 h
 exact List.length_pos_iff.1 (z41 h1)
theorem class_s {t : Tr} (h : CR t) (hk : t.k = 2) : t.s ≠ 0#256 := by
 have hr := ((za7 t).1 h).1
 cases t with
 | mk k s mn mx l => simp only [Tr.k] at hk; subst hk; rw [zdg] at hr; simp at hr; exact hr.2
theorem or_zero {a b : BS} (h : a ||| b = 0#256) : b = 0#256 := by
 apply BitVec.eq_of_getLsbD_eq
 intro j hj
 have := congrArg (fun z => z.getLsbD j) h
 simp only [BitVec.getLsbD_or, BitVec.getLsbD_zero] at this ⊢
 simpa using (Bool.or_eq_false_iff.1 this).2
theorem zxg : ∀ (l : List Tr) (s : BS), (∀ x ∈ l, x.k = 2 → x.s ≠ 0#256) → (∃ x ∈ l, x.k = 2) ∨ s ≠ 0#256 → (l.foldl (fun s x => if x.k = 2 then s ||| x.s else s) s) ≠ 0#256
 | [], s, _, h => by
  rcases h with ⟨x, h, _⟩ | h
  ·cases h
  ·exact h
 | x :: l, s, hs, h => by
  rw [List.foldl_cons]
  refine zxg l _ (fun y hy => hs y (by simp [hy])) ?_
  by_cases hk : x.k = 2
  ·rw [if_pos hk]; exact .inr fun e => hs x (by simp) hk (or_zero e)
  ·rw [if_neg hk]
   rcases h with ⟨y, h1, h2⟩ | h
   ·rcases List.mem_cons.1 h1 with rfl | h1
    ·exact absurd h2 hk
    ·exact .inl ⟨y, h1, h2⟩
   ·exact .inr h
theorem zx3 {l : List Tr} (h : CRL l) (hne : l ≠ []) (he : za4 l = false) : zc8 l ≠ [] := by
 obtain ⟨x, hx⟩ := List.exists_mem_of_ne_nil _ hne
 have h1 : x.k ≠ 1 := fun e => by
  have : za4 l = true := List.any_eq_true.2 ⟨x, hx, by simpa using e⟩
  rw [he] at this; cases this
 intro hp
 obtain ⟨p1, p2⟩ := List.append_eq_nil_iff.1 hp
 by_cases h2 : x.k = 2
 ·have hb : zgu l ≠ 0#256 := zxg l _ (fun y hy hk => class_s ((zc7 l).1 h y hy) hk) (.inl ⟨x, hx, h2⟩)
  rw [zub, if_neg hb] at p2; cases p2
 ·have : x ∈ zb0 l := List.mem_filter.2 ⟨hx, by simp [h1, h2]⟩
  rw [p1] at this; cases this
theorem z2m : orT [] = noneT := by simp [orT, zge, zj1]
theorem altP_cs {l : List Tr} (h : CLn 999 l) (hne : l ≠ []) : CR (altP l) ∧ (pre (altP l)).length ≤ (zal l).length + 1 := by
 obtain ⟨p1, p2⟩ := zso h
 have hh := h.2
 unfold altP
 by_cases hp : zc8 l = []
 ·have he : za4 l = true := by
   cases he : za4 l with
   | true => rfl
   | false => exact absurd hp (zx3 h.1 hne he)
  have e : zex (zgm ([] : List Tr)) = [] := by simp [zgm, zex]
  rw [if_pos he, hp, e, z2m, if_pos (show noneT.k = 0 from rfl)]
  have := zyt (n := 1) (Nat.le_refl _)
  exact ⟨this.1, by have := this.2; omega⟩
 ·have hc : CLn 999 (zc8 l) := ⟨p1, by omega⟩
  obtain ⟨q1, q2⟩ := zvt (zz8 hc) (z5y hp) (by omega)
  have q3 : (zal (zex (zgm (zc8 l)))).length ≤ (zal (zc8 l)).length := by
   have a1 := zkb (ztl (zgm (zc8 l))); have a2 := zta (zdi (zc8 l)); omega
  by_cases he : za4 l = true
  ·rw [if_pos he, if_neg q1.k0]
   rw [if_pos he] at p2
   have := zj6 (b := zsu) q1.cs (by omega) zp1
   exact ⟨this.1, by have := this.2; omega⟩
  ·rw [if_neg he]
   exact ⟨q1, by omega⟩
theorem zyn {l : List Tr} (h : l ≠ []) : zc1 l ≠ [] := by
 match l, h with
 | x :: l, _ =>
  have key : ∀ (l out : List Tr), out ≠ [] → l.foldl zrf out ≠ [] := by
   intro l
   induction l with
   | nil => intro out h; exact h
   | cons y l ih =>
    intro out h
    rw [List.foldl_cons]
    refine ih _ ?_
    unfold zrf
    split
    ·simp
    ·exact h
  unfold zc1
  rw [List.foldl_cons]
  refine key l _ ?_
  unfold zrf
  rw [if_pos (.inr rfl)]; simp
theorem alt_cs {l : List Tr} (h : CLn 998 l) (hne : l ≠ []) : CR (zzs l) ∧ (pre (zzs l)).length ≤ (zal l).length + 1 := by
 obtain ⟨r1, r2⟩ := zvt h hne (by omega)
 have hh := h.2
 unfold zzs
 split
 ·exact ⟨r1, r2⟩
 rename_i hk
 have hk : (orT l).k = 4 := Decidable.byContradiction hk
 have hp : (pre (orT l)).length = 1 + (zal (orT l).l).length := by rw [zc0, List.length_cons]; omega
 have hc : CLn 999 (orT l).l := ⟨((za7 _).1 r1).2, by omega⟩
 have hl := (zcp ((za7 _).1 r1).1 hk).1
 have hn : (orT l).l ≠ [] := fun e => by rw [e] at hl; cases hl
 split
 ·obtain ⟨q1, q2⟩ := zvt (hc.sub (zia _)) (zyn hn) (by omega)
  have := zkb (zia (orT l).l)
  exact ⟨q1, by omega⟩
 ·obtain ⟨q1, q2⟩ := altP_cs hc hn
  exact ⟨q1, by omega⟩
theorem alt_eq {fuel : Nat} (l : List Tr) (h : CLn 998 l) (hne : l ≠ []) (hf : 1001 < fuel) : zy8 fuel l = some (zzs l) := by
 obtain ⟨r1, r2⟩ := zvt h hne (by omega)
 have hh := h.2
 unfold zy8 zzs
 refine zr (by omega) (z7 fun x1 e1 => ?_)
 subst e1
 by_cases hk : (orT l).k ≠ 4
 ·rw [if_pos hk]; exact zbn (by simp; omega) rfl
 rw [if_neg hk]
 have hk : (orT l).k = 4 := Decidable.byContradiction hk
 have hp : (pre (orT l)).length = 1 + (zal (orT l).l).length := by rw [zc0, List.length_cons]; omega
 have hc : CLn 999 (orT l).l := ⟨((za7 _).1 r1).2, by omega⟩
 have hl := (zcp ((za7 _).1 r1).1 hk).1
 have hn : (orT l).l ≠ [] := fun e => by rw [e] at hl; cases hl
 refine zbo (by simp [hk]) (zr (by omega) (z7 fun x2 e2 => ?_))
 rw [e2]
 cases x2 with
 | false =>
  rw [if_pos rfl]
  exact zbn rfl (zei _ (zw1 (orT l).l (hc.mono (by omega)) hf) rfl)
 | true =>
  rw [if_neg (by decide)]
  refine zbo rfl ?_
  obtain ⟨m, hm⟩ : ∃ m, m = (orT l).l := ⟨_, rfl⟩
  rw [← hm] at hc hn hp ⊢
  have hlen := zad m
  have hmm := hc.2
  have ho : ∀ i, (zb0 (m.take i)).length ≤ 999 := fun i => by
   have h1 := ((zqh (m.take i)).trans (List.take_sublist i m)).length_le; omega
  obtain ⟨p1, p2⟩ := zso hc
  have hpc : CLn 999 (zc8 m) := ⟨p1, by omega⟩
  have hpl := zad (zc8 m)
  refine zc9 (za4 m, zgu m, zb0 m) ?_ ?_
  ·refine zgy m.length (fun i => (za4 (m.take i), (i : Int), zgu (m.take i), zb0 (m.take i))) (by simp [za4, zgu, zb0]) (fun i hi => ?_) ?_ (by omega)
   ·refine zbn (by simpa using hi) ?_
    refine zc9 (za4 (m.take (i + 1)), zgu (m.take (i + 1)), zb0 (m.take (i + 1))) ?_ (zr (by simp only; omega) (by simp))
    have hoi := ho i
    rw [zw0 m i hi, zy9 m i hi, zzt m i hi]
    refine zr (by simp only; omega) (z7 fun x4 e4 => ?_)
    simp only at e4
    rw [zeg hi] at e4
    subst e4
    by_cases h2 : m[i].k = 2
    ·refine zbn (by simp [h2]) (z7 fun x5 e5 => ?_)
     subst e5
     simp [h2]
    ·refine zbo (by simp; omega) ?_
     by_cases h1 : m[i].k = 1
     ·refine zbn (by simp [h1]) ?_
      simp [h1]
     ·refine zbo (by simp; omega) ?_
      simp only [h1, h2, or_self, if_false, decide_false, Bool.or_false]
      refine zth (fun he => zr (by simp) ?_) fun he => zr ?_ rfl
      ·rw [List.isEmpty_iff.1 he]; rfl
      ·have := zee he
       simp only [List.length_cons, List.length_nil] at *
       exact ⟨trivial, this, by omega, by omega⟩
   ·exact zbo (by simp) (by simp)
  ·refine zc9 (zc8 m) ?_ ?_
   ·refine z7 fun x6 e6 => ?_
    unfold zc8 zub
    have hom := ho m.length
    rw [List.take_length] at hom
    by_cases hb : zgu m = 0#256
    ·have : x6 = noneT := by rw [← e6]; simp only; rw [ofT, if_pos hb]
     rw [this, if_pos hb, List.append_nil]; rfl
    ·have : x6 = .mk 2 (zgu m) 0 0 [] := by rw [← e6]; simp only; rw [ofT, if_neg hb]
     rw [this, if_neg hb]
     refine zbn rfl (zth (fun he => zr (by simp) ?_) fun he => zr ?_ rfl)
     ·simp only at he; rw [List.isEmpty_iff.1 he]; rfl
     ·have := zee he
      simp only [List.length_cons, List.length_nil] at *
      exact ⟨trivial, this, by omega, by omega⟩
   ·unfold altP
    have hfin : ∀ z : Tr, (z.k ≠ 0 → CS 9999 z) → (bif za4 m then (bif (((z.k : Nat) : Int) == 0) then some (Tr.mk 1 0#256 0 0 []) else zax (zfy z (Bd.mk 0 1)) (fun x => some x)) else some z) = some (if za4 m = true then (if z.k = 0 then emptyT else zd1 z zsu) else z) := by
     intro z hz
     cases za4 m with
     | false => rfl
     | true =>
      by_cases h0 : z.k = 0
      ·rw [show (((z.k : Nat) : Int) == 0) = true by simp [h0]]
       simp [h0]; rfl
      ·rw [show (((z.k : Nat) : Int) == 0) = false by simp; omega]
       rw [show Bd.mk 0 1 = zsu from rfl, zlc z zsu (hz h0)]
       simp [h0]
    refine zth (fun he => ?_) fun he => ?_
    ·have he : zc8 m = [] := List.isEmpty_iff.1 he
     have e : zex (zgm ([] : List Tr)) = [] := by simp [zgm, zex]
     refine zr (by simp [zal]) (z7 fun x7 e7 => ?_)
     rw [he, e]
     have := hfin x7 (fun h0 => by rw [← e7, z2m] at h0; exact absurd rfl h0)
     rw [e7]
     exact this
    ·have hpos := zee he
     have hne' : zc8 m ≠ [] := List.length_pos_iff.1 hpos
     have hsl := (zdi (zc8 m)).length_eq
     obtain ⟨q1, q2⟩ := zvt (zz8 hpc) (z5y hne') (by omega)
     have hscl := (zz8 hpc).2
     refine zr ⟨⟨hpos, by omega⟩, fun y hy => (hpc.mem hy).clean (by omega)⟩ (z7 fun x9 e9 => ?_)
     subst e9
     refine zr hsl (zr ⟨⟨by omega, by omega⟩, fun y hy => ?_⟩ (z7 fun x10 e10 => ?_))
     ·have := (hpc.mem ((zdi (zc8 m)).subset hy)).2; omega
     subst e10
     refine zr (by omega) (z7 fun x11 e11 => ?_)
     subst e11
     exact hfin _ fun _ => ⟨q1, by omega⟩
end Go.Ab
