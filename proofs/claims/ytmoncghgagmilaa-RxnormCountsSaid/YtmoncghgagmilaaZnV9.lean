/-
  rxnorm as plain functions: captured, alt; sizes.
-/
import Derived.Test.YtmoncghgagmilaaZnV7
set_option linter.unusedSimpArgs false
set_option linter.unusedVariables false
namespace Go.Ab
open Go Go.RowKit Go.Fwd Go.Proofs
theorem CS.mono {n m : Nat} {t : Tr} (h : CS n t) (hm : n ≤ m) : CS m t := ⟨h.1, by have := h.2; omega⟩
theorem CR.cs {t : Tr} (h : CR t) : CS (pre t).length t := ⟨h, Nat.le_refl _⟩
theorem zi3 {x : Tr} {lo hi : Int} {n : Nat} (h : CS n x) (hn : n ≤ 9999) (hb : zbk lo hi = true) : CS (n + 1) (zbd x lo hi) := by
 rw [zgh (h.mono hn) hb]
 by_cases hk : x.k = 1
 ·rw [if_pos hk]; exact zzp (by omega)
 ·rw [if_neg hk]; exact cs_rep h hk hb
theorem zgt {x : Tr} {b : Bd} {n : Nat} (h : CS n x) (hn : n ≤ 9999) (hb : zbk b.lo b.mo = true) : CS (n + 1) (z8 x b) := by
 unfold z8
 split
 ·exact zi3 h hn hb
 split
 ·exact h.mono (by omega)
 split
 ·rename_i h1
  obtain ⟨y, e1, e2, e3, e4, e5, e6⟩ := zg2 h.1 h1.1
  have hy : CS n y := ⟨e4, by have := h.2; omega⟩
  rw [e5]
  split
  ·exact zi3 hy hn za6
  ·exact zi3 hy hn hb
 split
 ·exact zi3 h hn za6
 ·exact zi3 h hn hb
def zes (n o : Tr) : Bool := decide (n.k = 5) && decide (ofB n = starB) && zdz (hdT n.l) o
theorem zt7 (x y : Tr) (h : CS 9999 x) (hy : CS 9999 y) : zji x y = some (zes x y) := by
 have h1 := h.2; have h2 := hy.2
 unfold zji zes
 by_cases hk : x.k = 5
 ·obtain ⟨z, e1, e2, e3, e4, e5, e6⟩ := zg2 h.1 hk
  have hl1 : (0 : Int) ≤ (0 : Int) ∧ (0 : Int) < (x.l.length : Int) := by rw [e1]; exact ⟨by decide, by simp [Tr.l]⟩
  have hix : ix x.l 0 = hdT x.l := rfl
  have hz : (pre (hdT x.l)).length < 2 ^ 61 ∧ (pre y).length < 2 ^ 61 := by rw [e5]; omega
  rw [show (((x.k : Nat) : Int) == 5) = true by simp [hk]]
  by_cases hb : ofB x = starB
  ·have hb' : Bd.mk x.mn x.mx = Bd.mk 0 (-1) := hb
   simp only [hb', decide_true, cond_true, za2 hl1, hix, zal, za2 hz, hk, hb, Bool.true_and]
  ·have hb' : ¬ Bd.mk x.mn x.mx = Bd.mk 0 (-1) := hb
   simp [hb', hk, hb]
 ·rw [show (((x.k : Nat) : Int) == 5) = false by simp; omega]
  simp [hk]
theorem zj2 {x y : Tr} (h : CR x) (hs : zes x y = true) : (pre x).length = (pre y).length + 1 ∧ hdT x.l = y := by
 simp only [zes, Bool.and_eq_true, decide_eq_true_eq] at hs
 obtain ⟨z, e1, e2, e3, e4, e5, e6⟩ := zg2 h hs.1.1
 have h3 := hs.2
 rw [e5, zdz, Bool.and_eq_true] at h3
 have h4 := (ziv _ _).1 h3.2
 subst h4
 exact ⟨e6, e5⟩
def zdc (x y : Tr) : Option Tr :=
 if plainT x = false ∨ plainT y = false then none
 else if zes y x = true then some (z8 x plusB)
 else if zes x y = true then some (z8 y plusB)
 else if zdz x y = true ∧ x.k = 5 ∧ ofB x = starB then some x else none
theorem z2k (x y : Tr) (h : CS 9999 x) (hy : CS 9999 y) : zle x y = some (match zdc x y with | some o => (o, true) | none => (noneT, false)) := by
 have h1 := h.2; have h2 := hy.2
 unfold zle zdc
 rw [za2 (by omega), zal]
 cases hp : plainT x with
 | false => rw [if_pos (.inl rfl)]; rfl
 | true =>
  simp only [Bool.not_true, cond_false]
  rw [za2 (by omega), zal]
  cases hq : plainT y with
  | false => rw [if_pos (.inr rfl)]; rfl
  | true =>
   rw [if_neg (by simp)]
   simp only [Bool.not_true, cond_false]
   rw [zt7 y x hy h, bindE_some, zt7 x y h hy]
   cases h3 : zes y x with
   | true => rw [if_pos rfl, cond_true, show Bd.mk 1 (-1) = plusB from rfl, zkp x plusB h]; rfl
   | false =>
    rw [if_neg (by decide), cond_false, bindE_some]
    cases h4 : zes x y with
    | true => rw [if_pos rfl, cond_true, show Bd.mk 1 (-1) = plusB from rfl, zkp y plusB hy]; rfl
    | false =>
     rw [if_neg (by decide), cond_false, za2 ⟨by omega, by omega⟩, zal]
     cases h5 : zdz x y with
     | false => rw [if_neg (by simp)]; rfl
     | true =>
      by_cases hk : x.k = 5
      ·rw [show (((x.k : Nat) : Int) == 5) = true by simp [hk]]
       by_cases hb : ofB x = starB
       ·have hb' : Bd.mk x.mn x.mx = Bd.mk 0 (-1) := hb
        rw [if_pos ⟨rfl, hk, hb⟩]
        simp [zal, hb']
       ·have hb' : ¬ Bd.mk x.mn x.mx = Bd.mk 0 (-1) := hb
        rw [if_neg (fun h => hb h.2.2)]
        simp [zal, hb']
      ·rw [show (((x.k : Nat) : Int) == 5) = false by simp; omega, if_neg (fun h => hk h.2.1)]
       rfl
theorem z2x {x y o : Tr} {n m : Nat} (h : CS n x) (hy : CS m y) (hn : n ≤ 9999 ∧ m ≤ 9999) (ho : zdc x y = some o) : CR o ∧ (pre o).length < (pre x).length + (pre y).length := by
 have px := zfk x; have py := zfk y
 unfold zdc at ho
 split at ho
 ·cases ho
 split at ho
 ·rename_i h1
  cases ho
  have hs := (zj2 hy.1 h1).1
  have := zgt (b := plusB) (h.1.cs) (by have := h.2; omega) zb7
  exact ⟨this.1, by have := this.2; omega⟩
 split at ho
 ·rename_i h1
  cases ho
  have hs := (zj2 h.1 h1).1
  have := zgt (b := plusB) (hy.1.cs) (by have := hy.2; omega) zb7
  exact ⟨this.1, by have := this.2; omega⟩
 split at ho
 ·cases ho; exact ⟨h.1, by omega⟩
 ·cases ho
def zcb : List Tr → Option (List Tr)
 | x :: y :: l => match zdc x y with
  | some o => some (o :: l)
  | none => (zcb (y :: l)).map (x :: ·)
 | _ => none
def CLn (n : Nat) (l : List Tr) : Prop := CRL l ∧ (zam l).length ≤ n
theorem CLn.mem {n : Nat} {l : List Tr} {x : Tr} (h : CLn n l) (hx : x ∈ l) : CS n x := ⟨(zcu l).1 h.1 x hx, by have := zbu hx; have := h.2; omega⟩
theorem zoh : ∀ {l l' : List Tr} {n : Nat}, CLn n l → n ≤ 9999 → zcb l = some l' → CRL l' ∧ (zam l').length < (zam l).length ∧ l' ≠ []
 | [], _, _, _, _, h => by cases h
 | [x], _, _, _, _, h => by cases h
 | x :: y :: l, l', n, hc, hn, h => by
  have hx := hc.mem (x := x) (by simp)
  have hy := hc.mem (x := y) (by simp)
  have h1 := hc.1; have h2 := hc.2
  rw [zao, zao] at h1
  simp only [zam, List.length_append] at h2 ⊢
  unfold zcb at h
  cases hm : zdc x y with
  | some o =>
   rw [hm] at h; cases h
   obtain ⟨q1, q2⟩ := z2x hx hy ⟨by omega, by omega⟩ hm
   refine ⟨(zao _ _).2 ⟨q1, h1.2.2⟩, ?_, by simp⟩
   simp only [zam, List.length_append]; omega
  | none =>
   rw [hm] at h
   cases hr : zcb (y :: l) with
   | none => rw [hr] at h; cases h
   | some r =>
    rw [hr] at h; cases h
    obtain ⟨q1, q2, q3⟩ := zoh (n := n) ⟨(zao _ _).2 h1.2, by simp only [zam, List.length_append]; omega⟩ hn hr
    refine ⟨(zao _ _).2 ⟨h1.1, q1⟩, ?_, by simp⟩
    simp only [zam, List.length_append] at q2 ⊢; omega
def zkg : Nat → Tr → Tr
 | 0, t => t
 | n + 1, t => if t.k = 3 then match zcb t.l with | some l' => zkg n (zhi l') | none => t else t
theorem zuc {l : List Tr} {n : Nat} (h : CLn n l) (hn : n ≤ 1000) : CR (zhi l) ∧ (pre (zhi l)).length ≤ (zam l).length + 1 := by
 have h1 := h.2
 rw [zof h.1 (by omega)]
 exact ⟨zr4 (zhl h.1), by have := zn5 3 (zb2 3 l); have := zey 3 l; omega⟩
theorem zgk {t : Tr} {l' : List Tr} (h : CS 1000 t) (hs : zcb t.l = some l') : CR (zhi l') ∧ (pre (zhi l')).length < (pre t).length ∧ CLn 1000 l' ∧ l' ≠ [] := by
 have hp : (pre t).length = 1 + (zam t.l).length := by rw [zcv, List.length_cons]; omega
 have hl : CLn 1000 t.l := ⟨((zbc t).1 h.1).2, by have := h.2; omega⟩
 obtain ⟨q1, q2, q3⟩ := zoh hl (by omega) hs
 have hc : CLn 1000 l' := ⟨q1, by have := hl.2; omega⟩
 obtain ⟨r1, r2⟩ := zuc hc (by omega)
 exact ⟨r1, by omega, hc, q3⟩
theorem zit : ∀ (n : Nat) (t : Tr), CS 1000 t → (pre t).length ≤ n → zkg n t = zkg (pre t).length t
 | 0, t, h, hn => by have := zfk t; omega
 | n + 1, t, h, hn => by
  have hp := zfk t
  obtain ⟨m, hm⟩ : ∃ m, (pre t).length = m + 1 := ⟨(pre t).length - 1, by omega⟩
  rw [hm, zkg, zkg]
  split
  ·cases hs : zcb t.l with
   | none => rfl
   | some l' =>
    obtain ⟨r1, r2, _⟩ := zgk h hs
    have hc : CS 1000 (zhi l') := ⟨r1, by have := h.2; omega⟩
    simp only
    rw [zit n _ hc (by omega), zit m _ hc (by omega)]
  ·rfl
termination_by n t => (pre t).length
def zi4 (t : Tr) : Tr := zkg (pre t).length t
theorem zf4 {t : Tr} (h : CS 1000 t) : zi4 t = if t.k = 3 then match zcb t.l with | some l' => zi4 (zhi l') | none => t else t := by
 have hp := zfk t
 unfold zi4
 obtain ⟨m, hm⟩ : ∃ m, (pre t).length = m + 1 := ⟨(pre t).length - 1, by omega⟩
 rw [hm, zkg]
 split
 ·cases hs : zcb t.l with
  | none => rfl
  | some l' =>
   obtain ⟨r1, r2, _⟩ := zgk h hs
   exact zit m _ ⟨r1, by have := h.2; omega⟩ (by omega)
 ·rfl
def zzo (l : List Tr) : Tr := zi4 (zhi l)
theorem ztt : ∀ (n : Nat) (t : Tr), (pre t).length ≤ n → CS 1000 t → CR (zi4 t) ∧ (pre (zi4 t)).length ≤ (pre t).length
 | 0, t, hn, _ => by have := zfk t; omega
 | n + 1, t, hn, h => by
  rw [zf4 h]
  split
  ·cases hs : zcb t.l with
   | none => exact ⟨h.1, Nat.le_refl _⟩
   | some l' =>
    obtain ⟨r1, r2, _⟩ := zgk h hs
    have := ztt n (zhi l') (by omega) ⟨r1, by have := h.2; omega⟩
    exact ⟨this.1, Nat.le_trans this.2 (Nat.le_of_lt r2)⟩
  ·exact ⟨h.1, Nat.le_refl _⟩
theorem cat_cs {l : List Tr} (h : CLn 999 l) : CR (zzo l) ∧ (pre (zzo l)).length ≤ (zam l).length + 1 := by
 obtain ⟨r1, r2⟩ := zuc h (by omega)
 have hh := h.2
 obtain ⟨q1, q2⟩ := ztt _ (zhi l) (Nat.le_refl _) ⟨r1, by omega⟩
 exact ⟨q1, by have : (pre (zzo l)).length ≤ (pre (zhi l)).length := q2; omega⟩
theorem zxz (l : List Tr) (i : Nat) : sub l 0 (i : Int) = l.take i := by simp [sub]
theorem zsb (l : List Tr) (i : Nat) : sub l (i : Int) (l.length : Int) = l.drop i := by
 rw [sub, Int.toNat_natCast, Int.toNat_natCast, List.take_of_length_le (by rw [List.length_drop]; omega)]
theorem zh4 (x y : Tr) (l : List Tr) : zcb (x :: y :: l) = match zdc x y with | some o => some (o :: l) | none => (zcb (y :: l)).map (x :: ·) := rfl
theorem cat_eq {fuel : Nat} (l : List Tr) (h : CLn 999 l) (hf : 1001 < fuel) : zzf fuel l = some (zzo l) := by
 have hh := h.2
 obtain ⟨r1, r2⟩ := zuc h (by omega)
 refine Ok.eq ?_
 unfold zzf
 refine zcc (by omega) (zfn fun x1 e1 => ?_)
 subst e1
 refine zqm (fun t => t = zzo l) ?_ fun t ht => zee ht
 refine zpf (T := fun t : Tr => CS 1000 t ∧ zi4 t = zzo l) (m := fun t => (pre t).length) ?_ fuel _ (by omega) ⟨⟨r1, by omega⟩, rfl⟩
 rintro t ⟨hc, ht⟩
 refine zkv (fun hk => ?_) fun hk => zee ?_
 ·have hk : t.k = 3 := by have := of_decide_eq_true hk; omega
  have hp : (pre t).length = 1 + (zam t.l).length := by rw [zcv, List.length_cons]; omega
  have hcl : CLn 999 t.l := ⟨((zbc t).1 hc.1).2, by have := hc.2; omega⟩
  have hlen := zag t.l
  have h2 := (zib ((zbc t).1 hc.1).1 hk).1
  have hcs := hc.2
  rw [zf4 hc, if_pos hk] at ht
  refine zqm (fun _ => zcb t.l = none) ?_ fun _ hn => zee ?_
  ·refine zcc (by omega) ?_
   refine zpf (T := fun s : Int => ∃ i : Nat, s = i ∧ i + 1 ≤ t.l.length ∧ zcb t.l = (zcb (t.l.drop i)).map (t.l.take i ++ ·)) (m := fun s => t.l.length - s.toNat) ?_ fuel 0 (by simp; omega) ⟨0, rfl, by omega, by simp⟩
   rintro s2 ⟨i, rfl, i1, i2⟩
   have hsub : sub t.l 1 (t.l.length : Int) = t.l.drop 1 := zsb t.l 1
   refine zkv (fun hi => ?_) fun hi => zee ?_
   ·have hi : i + 1 < t.l.length := by rw [hsub] at hi; have := of_decide_eq_true hi; rw [List.length_drop] at this; omega
    refine zcc (by omega) (zfn fun x2 e2 => zcc (by omega) (zcc (by omega) (zfn fun x3 e3 => ?_)))
    rw [zef (by omega)] at e2
    rw [show (i : Int) + 1 = ((i + 1 : Nat) : Int) by omega, zef hi] at e3
    have hx := (hcl.mem (x := x2) (e2 ▸ List.getElem_mem _)).mono (m := 9999) (by omega)
    have hy := (hcl.mem (x := x3) (e3 ▸ List.getElem_mem _)).mono (m := 9999) (by omega)
    refine z6m (ok_eq (z2k x2 x3 hx hy)) ?_
    rintro x4 rfl
    have hd : t.l.drop i = x2 :: x3 :: t.l.drop (i + 2) := by rw [List.drop_eq_getElem_cons (by omega), List.drop_eq_getElem_cons hi, e2, e3]
    rw [hd, zh4] at i2
    cases hm : zdc x2 x3 with
    | some o =>
     rw [hm] at i2
     simp only [Option.map_some] at i2
     refine zkv (fun _ => ?_) fun h => by cases h
     obtain ⟨q1, q2, q3, q4⟩ := zgk hc i2
     rw [i2] at ht
     refine zcc (by omega) (zcc (by omega) (zcc (by omega) (zcc ?_ (zfn fun x5 e5 => ?_))))
     ·rw [zxz, show (i : Int) + 2 = ((i + 2 : Nat) : Int) by omega, zsb, List.length_take, List.length_drop]
      simp only [List.length_cons, List.length_nil]; omega
     ·rw [zxz, show (i : Int) + 2 = ((i + 2 : Nat) : Int) by omega, zsb, List.append_assoc] at e5
      have e5 : x5 = t.l.take i ++ o :: t.l.drop (i + 2) := e5.symm
      rw [← e5] at q1 q2 q3 ht
      refine zcc (by have := q3.2; omega) (zfn fun x6 e6 => zee ?_)
      subst e6
      exact ⟨⟨⟨q1, by omega⟩, ht⟩, q2⟩
    | none =>
     rw [hm] at i2
     refine zkv (fun h => by cases h) fun _ => zcc (by omega) (zee ?_)
     refine ⟨⟨i + 1, by omega, by omega, ?_⟩, by omega⟩
     have hd2 : t.l.drop (i + 1) = x3 :: t.l.drop (i + 2) := by rw [List.drop_eq_getElem_cons hi, e3]
     rw [i2, hd2, Option.map_map]
     congr 1
     funext z
     rw [List.take_succ_eq_append_getElem (by omega), e2]; simp
   ·have hi : ¬ i + 1 < t.l.length := by rw [hsub] at hi; have := of_decide_eq_false hi; rw [List.length_drop] at this; omega
    have hd : t.l.drop i = [t.l[i]] := by rw [List.drop_eq_getElem_cons (by omega), List.drop_of_length_le (by omega)]
    show zcb t.l = none
    rw [i2, hd]; rfl
  ·rw [hn] at ht
   exact ht
 ·have hk : ¬ t.k = 3 := by have := of_decide_eq_false hk; omega
  rw [zf4 hc, if_neg hk] at ht
  exact ht
end Go.Ab
set_option linter.unusedSimpArgs false
set_option linter.unusedVariables false
namespace Go.Ab
open Go Go.RowKit Go.Fwd Go.Proofs
theorem CLn.nil {n : Nat} : CLn n [] := ⟨zbz, by simp [zam]⟩
theorem CLn.mono {n m : Nat} {l : List Tr} (h : CLn n l) (hm : n ≤ m) : CLn m l := ⟨h.1, by have := h.2; omega⟩
theorem zjr {l m : List Tr} (h : l.Sublist m) : (zam l).length ≤ (zam m).length := by
 induction h with
 | slnil => exact Nat.le_refl _
 | cons a h ih => simp only [zam, List.length_append]; omega
 | cons_cons a h ih => simp only [zam, List.length_append]; omega
theorem zpj {l m : List Tr} (h : l.Perm m) : (zam l).length = (zam m).length := by
 induction h with
 | nil => rfl
 | cons a h ih => simp only [zam, List.length_append]; omega
 | swap a b l => simp only [zam, List.length_append]; omega
 | trans h k ih ih2 => omega
theorem CLn.sub {n : Nat} {l m : List Tr} (h : CLn n m) (hs : l.Sublist m) : CLn n l := ⟨(zcu l).2 fun t ht => (zcu m).1 h.1 t (hs.subset ht), by have := zjr hs; have := h.2; omega⟩
theorem CLn.perm {n : Nat} {l m : List Tr} (h : CLn n m) (hp : l.Perm m) : CLn n l := ⟨(zcu l).2 fun t ht => (zcu m).1 h.1 t (hp.subset ht), by have := zpj hp; have := h.2; omega⟩
def zr0 (out : List Tr) (x : Tr) : List Tr := if plainT x = false ∨ (out.any fun y => zdz x y) = false then out ++ [x] else out
def zej (l : List Tr) : List Tr := l.foldl zr0 []
theorem zqh (l : List Tr) (i : Nat) (hi : i < l.length) : zej (l.take (i + 1)) = zr0 (zej (l.take i)) l[i] := by
 unfold zej; rw [List.take_succ_eq_append_getElem hi, List.foldl_append]; rfl
theorem zin (l : List Tr) : (zej l).Sublist l := by
 suffices ∀ i, i ≤ l.length → (zej (l.take i)).Sublist (l.take i) by have := this l.length (Nat.le_refl _); rwa [List.take_length] at this
 intro i
 induction i with
 | zero => intro _; simp [zej]
 | succ i ih =>
  intro hi
  have := ih (by omega)
  rw [zqh l i hi, List.take_succ_eq_append_getElem hi, zr0]
  split
  ·exact this.append (List.Sublist.refl _)
  ·exact this.trans (List.sublist_append_left _ _)
theorem cap1_eq (y x : Tr) (hx : (pre x).length < 2 ^ 61) (hy : (pre y).length < 2 ^ 61) : zqt y x = some (zdz x y) := by
 unfold zqt; rw [za2 ⟨hx, hy⟩]; rfl
theorem zwr {fuel : Nat} (l : List Tr) (h : CLn 1000 l) (hf : 1001 < fuel) : zhs fuel l = some (orT (zej l)) := by
 have hh := h.2
 have hlen := zag l
 have hd : ∀ i, (zam (zej (l.take i))).length ≤ 1000 ∧ (zej (l.take i)).length ≤ 1000 := fun i => by
  have h1 := zjr (zin (l.take i)); have h2 := zjr (List.take_sublist i l)
  have h3 := zag (zej (l.take i)); omega
 have hm : ∀ i, ∀ y ∈ zej (l.take i), y ∈ l := fun i y hy => List.mem_of_mem_take ((zin _).subset hy)
 unfold zhs
 refine zda (zej l) ?_ (zz ?_ rfl)
 ·refine zg8 l.length (fun i => (zej (l.take i), (i : Int))) (by simp [zej]) (fun i hi => ?_) ?_ (by omega)
  ·refine zby (by simpa using hi) ?_
   refine zda (zej (l.take (i + 1))) ?_ (zz (by simp only; omega) (by simp))
   have hx := h.mem (x := l[i]) (List.getElem_mem hi)
   have h1 := hx.2
   obtain ⟨d1, d2⟩ := hd i
   refine zz (by simp only; omega) (zan fun x1 e1 => ?_)
   simp only at e1
   rw [zef hi] at e1
   subst e1
   rw [zqh l i hi, zr0]
   refine zz (by omega) (zan fun x2 e2 => ?_)
   rw [e2]
   cases x2 with
   | false => rw [if_pos (.inl rfl)]; exact zz (by simp only [List.length_cons, List.length_nil]; omega) rfl
   | true =>
    refine zdn ((zej (l.take i)).any fun y => zdz l[i] y) (z7q _ (by simp only; omega) (by simp only; omega) fun y hy => cap1_eq _ _ (by omega) (by have := (h.mem (hm i y hy)).2; omega)) ?_
    cases hq : (zej (l.take i)).any fun y => zdz l[i] y with
    | false => rw [if_pos (.inr rfl)]; exact zz (by simp only [List.length_cons, List.length_nil]; omega) rfl
    | true => rw [if_neg (by simp)]; rfl
  ·exact zbw (by simp) (by simp)
 ·have := hd l.length; rw [List.take_length] at this; omega
def zb4 (l : List Tr) : List Tr := l.filter fun x => decide (x.k ≠ 2) && decide (x.k ≠ 1)
def zdx (l : List Tr) : BS := l.foldl (fun s x => if x.k = 2 then s ||| x.s else s) 0#256
def zbg (l : List Tr) : Bool := l.any fun x => decide (x.k = 1)
def zsr (s : BS) : List Tr := if s = 0#256 then [] else [.mk 2 s 0 0 []]
def za8 (l : List Tr) : List Tr := zb4 l ++ zsr (zdx l)
def zya (l : List Tr) : Tr :=
 if zbg l = true then (if (orT (zfh (zgf (za8 l)))).k = 0 then emptyT else z8 (orT (zfh (zgf (za8 l)))) optB) else orT (zfh (zgf (za8 l)))
def z00 (l : List Tr) : Tr := if (orT l).k ≠ 4 then orT l else if plainT (orT l) = false then orT (zej (orT l).l) else zya (orT l).l
theorem zmh : ∀ (l : List Tr) (p : Tr), (zfc p l).Sublist l
 | [], _ => List.Sublist.slnil
 | y :: l, p => by
  unfold zfc
  split
  ·exact (zmh l y).cons y
  ·exact (zmh l y).cons_cons y
theorem zpo : ∀ l : List Tr, (zfh l).Sublist l
 | [] => List.Sublist.slnil
 | x :: l => (zmh l x).cons_cons x
theorem z41 {s : BS} (h : s ≠ 0#256) : CR (.mk 2 s 0 0 []) := (zbc _).2 ⟨by simp [zck, zg6, h], zbz⟩
theorem zxg {l : List Tr} {n : Nat} (h : CLn n l) (hne : l ≠ []) (hn : n ≤ 1000) : CR (orT l) ∧ (pre (orT l)).length ≤ (zam l).length + 1 := by
 have h1 := h.2
 rw [z13 h.1 hne (by omega)]
 exact ⟨ztg (zgm h.1) , by have := zn5 4 (zb2 4 l); have := zey 4 l; omega⟩
theorem zwn (l : List Tr) (i : Nat) (hi : i < l.length) : zb4 (l.take (i + 1)) = zb4 (l.take i) ++ (if l[i].k = 2 ∨ l[i].k = 1 then [] else [l[i]]) := by
 unfold zb4
 rw [List.take_succ_eq_append_getElem hi, List.filter_append]
 congr 1
 by_cases h2 : l[i].k = 2
 ·simp [h2]
 ·by_cases h1 : l[i].k = 1
  ·simp [h1]
  ·simp [h1, h2]
theorem z0b (l : List Tr) (i : Nat) (hi : i < l.length) : zdx (l.take (i + 1)) = if l[i].k = 2 then zdx (l.take i) ||| l[i].s else zdx (l.take i) := by
 unfold zdx
 rw [List.take_succ_eq_append_getElem hi, List.foldl_append]; rfl
theorem z0v (l : List Tr) (i : Nat) (hi : i < l.length) : zbg (l.take (i + 1)) = (zbg (l.take i) || decide (l[i].k = 1)) := by
 unfold zbg
 rw [List.take_succ_eq_append_getElem hi, List.any_append]; simp
theorem zq1 (l : List Tr) : (zb4 l).Sublist l := List.filter_sublist
theorem zyd : ∀ (l : List Tr) (s : BS), (l.foldl (fun s x => if x.k = 2 then s ||| x.s else s) s) ≠ s → ∃ x ∈ l, x.k = 2
 | [], s, h => absurd rfl h
 | x :: l, s, h => by
  by_cases hk : x.k = 2
  ·exact ⟨x, by simp, hk⟩
  ·rw [List.foldl_cons, if_neg hk] at h
   obtain ⟨y, h1, h2⟩ := zyd l s h
   exact ⟨y, by simp [h1], h2⟩
theorem zqd : ∀ l : List Tr, (zam (zb4 l)).length + (if l.any (fun x => decide (x.k = 2)) = true then 1 else 0) + (if zbg l = true then 1 else 0) ≤ (zam l).length
 | [] => by simp [zb4, zbg, zam]
 | x :: l => by
  have ih := zqd l
  have hx := zfk x
  have hb : ∀ b : Bool, (if b = true then 1 else 0) ≤ 1 := fun b => by cases b <;> simp
  have b1 := hb (l.any fun x => decide (x.k = 2)); have b2 := hb (zbg l)
  by_cases h2 : x.k = 2
  ·have e : zb4 (x :: l) = zb4 l := by simp [zb4, h2]
   have e2 : ((x :: l).any fun x => decide (x.k = 2)) = true := by simp [h2]
   have e3 : zbg (x :: l) = zbg l := by simp [zbg, h2]
   rw [e, e2, e3, if_pos rfl]
   simp only [zam, List.length_append]; omega
  ·by_cases h1 : x.k = 1
   ·have e : zb4 (x :: l) = zb4 l := by simp [zb4, h1]
    have e2 : ((x :: l).any fun x => decide (x.k = 2)) = l.any fun x => decide (x.k = 2) := by simp [h1]
    have e3 : zbg (x :: l) = true := by simp [zbg, h1]
    rw [e, e2, e3, if_pos rfl]
    simp only [zam, List.length_append]; omega
   ·have e : zb4 (x :: l) = x :: zb4 l := by simp [zb4, h1, h2]
    have e2 : ((x :: l).any fun x => decide (x.k = 2)) = l.any fun x => decide (x.k = 2) := by simp [h2]
    have e3 : zbg (x :: l) = zbg l := by simp [zbg, h1]
    rw [e, e2, e3]
    simp only [zam, List.length_append]; omega
theorem ztc {l : List Tr} {n : Nat} (h : CLn n l) : CRL (za8 l) ∧ (zam (za8 l)).length + (if zbg l = true then 1 else 0) ≤ (zam l).length := by
 have hs := zqd l
 have ho := h.sub (zq1 l)
 unfold za8 zsr
 split
 ·rw [List.append_nil]; exact ⟨ho.1, by omega⟩
 ·rename_i hb
  obtain ⟨x, hx, hk⟩ := zyd l 0#256 hb
  have e2 : (l.any fun x => decide (x.k = 2)) = true := List.any_eq_true.2 ⟨x, hx, by simpa using hk⟩
  rw [e2, if_pos rfl] at hs
  refine ⟨(zcr _ _).2 ⟨ho.1, (zao _ _).2 ⟨z41 hb, zbz⟩⟩, ?_⟩
  rw [zbp, List.length_append]
  simp only [zam, pre, List.length_append, List.length_cons, List.length_nil]
  omega
theorem sc_cl {l : List Tr} {n : Nat} (h : CLn n l) : CLn n (zfh (zgf l)) := (h.perm (zdi l)).sub (zpo _)
theorem sc_ne {l : List Tr} (h : l ≠ []) : zfh (zgf l) ≠ [] := by
 have h1 : 0 < (zgf l).length := by rw [(zdi l).length_eq]; exact List.length_pos_iff.2 h
 exact List.length_pos_iff.1 (z54 h1)
theorem z1q {t : Tr} (h : CR t) (hk : t.k = 2) : t.s ≠ 0#256 := by
 have hr := ((zbc t).1 h).1
 cases t with
 | mk k s mn mx l => simp only [Tr.k] at hk; subst hk; rw [zck] at hr; simp at hr; exact hr.2
theorem or_zero {a b : BS} (h : a ||| b = 0#256) : b = 0#256 := by
 apply BitVec.eq_of_getLsbD_eq
 intro j hj
 have := congrArg (fun z => z.getLsbD j) h
 simp only [BitVec.getLsbD_or, BitVec.getLsbD_zero] at this ⊢
 simpa using (Bool.or_eq_false_iff.1 this).2
theorem zy6 : ∀ (l : List Tr) (s : BS), (∀ x ∈ l, x.k = 2 → x.s ≠ 0#256) → (∃ x ∈ l, x.k = 2) ∨ s ≠ 0#256 → (l.foldl (fun s x => if x.k = 2 then s ||| x.s else s) s) ≠ 0#256
 | [], s, _, h => by
  rcases h with ⟨x, h, _⟩ | h
  ·cases h
  ·exact h
 | x :: l, s, hs, h => by
  rw [List.foldl_cons]
  refine zy6 l _ (fun y hy => hs y (by simp [hy])) ?_
  by_cases hk : x.k = 2
  ·rw [if_pos hk]; exact .inr fun e => hs x (by simp) hk (or_zero e)
  ·rw [if_neg hk]
   rcases h with ⟨y, h1, h2⟩ | h
   ·rcases List.mem_cons.1 h1 with rfl | h1
    ·exact absurd h2 hk
    ·exact .inl ⟨y, h1, h2⟩
   ·exact .inr h
theorem zzs {l : List Tr} (h : CRL l) (hne : l ≠ []) (he : zbg l = false) : za8 l ≠ [] := by
 obtain ⟨x, hx⟩ := List.exists_mem_of_ne_nil _ hne
 have h1 : x.k ≠ 1 := fun e => by
  have : zbg l = true := List.any_eq_true.2 ⟨x, hx, by simpa using e⟩
  rw [he] at this; cases this
 intro hp
 obtain ⟨p1, p2⟩ := List.append_eq_nil_iff.1 hp
 by_cases h2 : x.k = 2
 ·have hb : zdx l ≠ 0#256 := zy6 l _ (fun y hy hk => z1q ((zcu l).1 h y hy) hk) (.inl ⟨x, hx, h2⟩)
  rw [zsr, if_neg hb] at p2; cases p2
 ·have : x ∈ zb4 l := List.mem_filter.2 ⟨hx, by simp [h1, h2]⟩
  rw [p1] at this; cases this
theorem zyw : orT [] = noneT := by simp [orT, zgw, zkf]
theorem altP_cs {l : List Tr} (h : CLn 999 l) (hne : l ≠ []) : CR (zya l) ∧ (pre (zya l)).length ≤ (zam l).length + 1 := by
 obtain ⟨p1, p2⟩ := ztc h
 have hh := h.2
 unfold zya
 by_cases hp : za8 l = []
 ·have he : zbg l = true := by
   cases he : zbg l with
   | true => rfl
   | false => exact absurd hp (zzs h.1 hne he)
  have e : zfh (zgf ([] : List Tr)) = [] := by simp [zgf, zfh]
  rw [if_pos he, hp, e, zyw, if_pos (show noneT.k = 0 from rfl)]
  have := zzp (n := 1) (Nat.le_refl _)
  exact ⟨this.1, by have := this.2; omega⟩
 ·have hc : CLn 999 (za8 l) := ⟨p1, by omega⟩
  obtain ⟨q1, q2⟩ := zxg (sc_cl hc) (sc_ne hp) (by omega)
  have q3 : (zam (zfh (zgf (za8 l)))).length ≤ (zam (za8 l)).length := by
   have a1 := zjr (zpo (zgf (za8 l))); have a2 := zpj (zdi (za8 l)); omega
  by_cases he : zbg l = true
  ·rw [if_pos he, if_neg q1.k0]
   rw [if_pos he] at p2
   have := zgt (b := optB) q1.cs (by omega) zc0
   exact ⟨this.1, by have := this.2; omega⟩
  ·rw [if_neg he]
   exact ⟨q1, by omega⟩
theorem zzg {l : List Tr} (h : l ≠ []) : zej l ≠ [] := by
 match l, h with
 | x :: l, _ =>
  have key : ∀ (l out : List Tr), out ≠ [] → l.foldl zr0 out ≠ [] := by
   intro l
   induction l with
   | nil => intro out h; exact h
   | cons y l ih =>
    intro out h
    rw [List.foldl_cons]
    refine ih _ ?_
    unfold zr0
    split
    ·simp
    ·exact h
  unfold zej
  rw [List.foldl_cons]
  refine key l _ ?_
  unfold zr0
  rw [if_pos (.inr rfl)]; simp
theorem alt_cs {l : List Tr} (h : CLn 998 l) (hne : l ≠ []) : CR (z00 l) ∧ (pre (z00 l)).length ≤ (zam l).length + 1 := by
 obtain ⟨r1, r2⟩ := zxg h hne (by omega)
 have hh := h.2
 unfold z00
 split
 ·exact ⟨r1, r2⟩
 rename_i hk
 have hk : (orT l).k = 4 := Decidable.byContradiction hk
 have hp : (pre (orT l)).length = 1 + (zam (orT l).l).length := by rw [zcv, List.length_cons]; omega
 have hc : CLn 999 (orT l).l := ⟨((zbc _).1 r1).2, by omega⟩
 have hl := (zb9 ((zbc _).1 r1).1 hk).1
 have hn : (orT l).l ≠ [] := fun e => by rw [e] at hl; cases hl
 split
 ·obtain ⟨q1, q2⟩ := zxg (hc.sub (zin _)) (zzg hn) (by omega)
  have := zjr (zin (orT l).l)
  exact ⟨q1, by omega⟩
 ·obtain ⟨q1, q2⟩ := altP_cs hc hn
  exact ⟨q1, by omega⟩
theorem alt_eq {fuel : Nat} (l : List Tr) (h : CLn 998 l) (hne : l ≠ []) (hf : 1001 < fuel) : zys fuel l = some (z00 l) := by
 obtain ⟨r1, r2⟩ := zxg h hne (by omega)
 have hh := h.2
 unfold zys z00
 refine zz (by omega) (zan fun x1 e1 => ?_)
 subst e1
 by_cases hk : (orT l).k ≠ 4
 ·rw [if_pos hk]; exact zby (by simp; omega) rfl
 rw [if_neg hk]
 have hk : (orT l).k = 4 := Decidable.byContradiction hk
 have hp : (pre (orT l)).length = 1 + (zam (orT l).l).length := by rw [zcv, List.length_cons]; omega
 have hc : CLn 999 (orT l).l := ⟨((zbc _).1 r1).2, by omega⟩
 have hl := (zb9 ((zbc _).1 r1).1 hk).1
 have hn : (orT l).l ≠ [] := fun e => by rw [e] at hl; cases hl
 refine zbw (by simp [hk]) (zz (by omega) (zan fun x2 e2 => ?_))
 rw [e2]
 cases x2 with
 | false =>
  rw [if_pos rfl]
  exact zby rfl (zdn _ (zwr (orT l).l (hc.mono (by omega)) hf) rfl)
 | true =>
  rw [if_neg (by decide)]
  refine zbw rfl ?_
  obtain ⟨m, hm⟩ : ∃ m, m = (orT l).l := ⟨_, rfl⟩
  rw [← hm] at hc hn hp ⊢
  have hlen := zag m
  have hmm := hc.2
  have ho : ∀ i, (zb4 (m.take i)).length ≤ 999 := fun i => by
   have h1 := ((zq1 (m.take i)).trans (List.take_sublist i m)).length_le; omega
  obtain ⟨p1, p2⟩ := ztc hc
  have hpc : CLn 999 (za8 m) := ⟨p1, by omega⟩
  have hpl := zag (za8 m)
  refine zda (zbg m, zdx m, zb4 m) ?_ ?_
  ·refine zg8 m.length (fun i => (zbg (m.take i), (i : Int), zdx (m.take i), zb4 (m.take i))) (by simp [zbg, zdx, zb4]) (fun i hi => ?_) ?_ (by omega)
   ·refine zby (by simpa using hi) ?_
    refine zda (zbg (m.take (i + 1)), zdx (m.take (i + 1)), zb4 (m.take (i + 1))) ?_ (zz (by simp only; omega) (by simp))
    have hoi := ho i
    rw [zwn m i hi, z0b m i hi, z0v m i hi]
    refine zz (by simp only; omega) (zan fun x4 e4 => ?_)
    simp only at e4
    rw [zef hi] at e4
    subst e4
    by_cases h2 : m[i].k = 2
    ·refine zby (by simp [h2]) (zan fun x5 e5 => ?_)
     subst e5
     simp [h2]
    ·refine zbw (by simp; omega) ?_
     by_cases h1 : m[i].k = 1
     ·refine zby (by simp [h1]) ?_
      simp [h1]
     ·refine zbw (by simp; omega) ?_
      simp only [h1, h2, or_self, if_false, decide_false, Bool.or_false]
      refine zvc (fun he => zz (by simp) ?_) fun he => zz ?_ rfl
      ·rw [List.isEmpty_iff.1 he]; rfl
      ·have := zev he
       simp only [List.length_cons, List.length_nil] at *
       exact ⟨trivial, this, by omega, by omega⟩
   ·exact zbw (by simp) (by simp)
  ·refine zda (za8 m) ?_ ?_
   ·refine zan fun x6 e6 => ?_
    unfold za8 zsr
    have hom := ho m.length
    rw [List.take_length] at hom
    by_cases hb : zdx m = 0#256
    ·have : x6 = noneT := by rw [← e6]; simp only; rw [ofT, if_pos hb]
     rw [this, if_pos hb, List.append_nil]; rfl
    ·have : x6 = .mk 2 (zdx m) 0 0 [] := by rw [← e6]; simp only; rw [ofT, if_neg hb]
     rw [this, if_neg hb]
     refine zby rfl (zvc (fun he => zz (by simp) ?_) fun he => zz ?_ rfl)
     ·simp only at he; rw [List.isEmpty_iff.1 he]; rfl
     ·have := zev he
      simp only [List.length_cons, List.length_nil] at *
      exact ⟨trivial, this, by omega, by omega⟩
   ·unfold zya
    have hfin : ∀ z : Tr, (z.k ≠ 0 → CS 9999 z) → (bif zbg m then (bif (((z.k : Nat) : Int) == 0) then some (Tr.mk 1 0#256 0 0 []) else zau (zgb z (Bd.mk 0 1)) (fun x => some x)) else some z) = some (if zbg m = true then (if z.k = 0 then emptyT else z8 z optB) else z) := by
     intro z hz
     cases zbg m with
     | false => rfl
     | true =>
      by_cases h0 : z.k = 0
      ·rw [show (((z.k : Nat) : Int) == 0) = true by simp [h0]]
       simp [h0]; rfl
      ·rw [show (((z.k : Nat) : Int) == 0) = false by simp; omega]
       rw [show Bd.mk 0 1 = optB from rfl, zkp z optB (hz h0)]
       simp [h0]
    refine zvc (fun he => ?_) fun he => ?_
    ·have he : za8 m = [] := List.isEmpty_iff.1 he
     have e : zfh (zgf ([] : List Tr)) = [] := by simp [zgf, zfh]
     refine zz (by simp [zam]) (zan fun x7 e7 => ?_)
     rw [he, e]
     have := hfin x7 (fun h0 => by rw [← e7, zyw] at h0; exact absurd rfl h0)
     rw [e7]
     exact this
    ·have hpos := zev he
     have hne' : za8 m ≠ [] := List.length_pos_iff.1 hpos
     have hsl := (zdi (za8 m)).length_eq
     obtain ⟨q1, q2⟩ := zxg (sc_cl hpc) (sc_ne hne') (by omega)
     have hscl := (sc_cl hpc).2
     refine zz ⟨⟨hpos, by omega⟩, fun y hy => (hpc.mem hy).clean (by omega)⟩ (zan fun x9 e9 => ?_)
     subst e9
     refine zz hsl (zz ⟨⟨by omega, by omega⟩, fun y hy => ?_⟩ (zan fun x10 e10 => ?_))
     ·have := (hpc.mem ((zdi (za8 m)).subset hy)).2; omega
     subst e10
     refine zz (by omega) (zan fun x11 e11 => ?_)
     subst e11
     exact hfin _ fun _ => ⟨q1, by omega⟩
end Go.Ab
