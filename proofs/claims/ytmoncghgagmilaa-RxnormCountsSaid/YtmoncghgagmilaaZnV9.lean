/-
  rxnorm as plain functions: captured, alt; sizes.
-/
import Derived.Test.YtmoncghgagmilaaZnV7
set_option linter.unusedSimpArgs false
set_option linter.unusedVariables false
namespace Go.Ab
open Go Go.RowKit Go.Fwd Go.Proofs
theorem CS.mono {n m : Nat} {t : Tr} (h : CS n t) (hm : n ≤ m) : CS m t := ⟨h.1, by have := h.2; omega⟩
theorem CR.cs {t : Tr} (h : CR t) : CS (pre t).length t := ⟨h, Nat.le_refl _⟩
theorem ziy {x : Tr} {lo hi : Int} {n : Nat} (h : CS n x) (hn : n ≤ 9999) (hb : zbl lo hi = true) : CS (n + 1) (zbd x lo hi) := by
 rw [zgg (h.mono hn) hb]
 by_cases hk : x.k = 1
 ·rw [if_pos hk]; exact zzo (by omega)
 ·rw [if_neg hk]; exact cs_rep h hk hb
theorem zg2 {x : Tr} {b : Bd} {n : Nat} (h : CS n x) (hn : n ≤ 9999) (hb : zbl b.lo b.mo = true) : CS (n + 1) (z8 x b) := by
 unfold z8
 split
 ·exact ziy h hn hb
 split
 ·exact h.mono (by omega)
 split
 ·rename_i h1
  obtain ⟨y, e1, e2, e3, e4, e5, e6⟩ := zg5 h.1 h1.1
  have hy : CS n y := ⟨e4, by have := h.2; omega⟩
  rw [e5]
  split
  ·exact ziy hy hn za6
  ·exact ziy hy hn hb
 split
 ·exact ziy h hn za6
 ·exact ziy h hn hb
def zet (n o : Tr) : Bool := decide (n.k = 5) && decide (ofB n = starB) && zd0 (hdT n.l) o
theorem zur (x y : Tr) (h : CS 9999 x) (hy : CS 9999 y) : zjg x y = some (zet x y) := by
 have h1 := h.2; have h2 := hy.2
 unfold zjg zet
 by_cases hk : x.k = 5
 ·obtain ⟨z, e1, e2, e3, e4, e5, e6⟩ := zg5 h.1 hk
  have hl1 : (0 : Int) ≤ (0 : Int) ∧ (0 : Int) < (x.l.length : Int) := by rw [e1]; exact ⟨by decide, by simp [Tr.l]⟩
  have hix : ix x.l 0 = hdT x.l := rfl
  have hz : (pre (hdT x.l)).length < 2 ^ 61 ∧ (pre y).length < 2 ^ 61 := by rw [e5]; omega
  rw [show (((x.k : Nat) : Int) == 5) = true by simp [hk]]
  by_cases hb : ofB x = starB
  ·have hb' : Bd.mk x.mn x.mx = Bd.mk 0 (-1) := hb
   simp only [hb', decide_true, cond_true, za2 hl1, hix, zal, za2 hz, hk, hb, Bool.true_and]
  ·have hb' : ¬ Bd.mk x.mn x.mx = Bd.mk 0 (-1) := hb
   simp [hb', hk, hb]
 ·rw [show (((x.k : Nat) : Int) == 5) = false by simp; omega]
  simp [hk]
theorem zkg {x y : Tr} (h : CR x) (hs : zet x y = true) : (pre x).length = (pre y).length + 1 ∧ hdT x.l = y := by
 simp only [zet, Bool.and_eq_true, decide_eq_true_eq] at hs
 obtain ⟨z, e1, e2, e3, e4, e5, e6⟩ := zg5 h hs.1.1
 have h3 := hs.2
 rw [e5, zd0, Bool.and_eq_true] at h3
 have h4 := (zi0 _ _).1 h3.2
 subst h4
 exact ⟨e6, e5⟩
def zde (x y : Tr) : Option Tr :=
 if plainT x = false ∨ plainT y = false then none
 else if zet y x = true then some (z8 x plusB)
 else if zet x y = true then some (z8 y plusB)
 else if zd0 x y = true ∧ x.k = 5 ∧ ofB x = starB then some x else none
theorem z37 (x y : Tr) (h : CS 9999 x) (hy : CS 9999 y) : zku x y = some (match zde x y with | some o => (o, true) | none => (noneT, false)) := by
 have h1 := h.2; have h2 := hy.2
 unfold zku zde
 rw [za2 (by omega), zal]
 cases hp : plainT x with
 | false => rw [if_pos (.inl rfl)]; rfl
 | true =>
  simp only [Bool.not_true, cond_false]
  rw [za2 (by omega), zal]
  cases hq : plainT y with
  | false => rw [if_pos (.inr rfl)]; rfl
  | true =>
   rw [if_neg (by simp)]
   simp only [Bool.not_true, cond_false]
   rw [zur y x hy h, bindE_some, zur x y h hy]
   cases h3 : zet y x with
   | true => rw [if_pos rfl, cond_true, show Bd.mk 1 (-1) = plusB from rfl, zks x plusB h]; rfl
   | false =>
    rw [if_neg (by decide), cond_false, bindE_some]
    cases h4 : zet x y with
    | true => rw [if_pos rfl, cond_true, show Bd.mk 1 (-1) = plusB from rfl, zks y plusB hy]; rfl
    | false =>
     rw [if_neg (by decide), cond_false, za2 ⟨by omega, by omega⟩, zal]
     cases h5 : zd0 x y with
     | false => rw [if_neg (by simp)]; rfl
     | true =>
      by_cases hk : x.k = 5
      ·rw [show (((x.k : Nat) : Int) == 5) = true by simp [hk]]
       by_cases hb : ofB x = starB
       ·have hb' : Bd.mk x.mn x.mx = Bd.mk 0 (-1) := hb
        rw [if_pos ⟨rfl, hk, hb⟩]
        simp [zal, hb']
       ·have hb' : ¬ Bd.mk x.mn x.mx = Bd.mk 0 (-1) := hb
        rw [if_neg (fun h => hb h.2.2)]
        simp [zal, hb']
      ·rw [show (((x.k : Nat) : Int) == 5) = false by simp; omega, if_neg (fun h => hk h.2.1)]
       rfl
theorem z3u {x y o : Tr} {n m : Nat} (h : CS n x) (hy : CS m y) (hn : n ≤ 9999 ∧ m ≤ 9999) (ho : zde x y = some o) : CR o ∧ (pre o).length < (pre x).length + (pre y).length := by
 have px := zfl x; have py := zfl y
 unfold zde at ho
 split at ho
 ·cases ho
 split at ho
 ·rename_i h1
  cases ho
  have hs := (zkg hy.1 h1).1
  have := zg2 (b := plusB) (h.1.cs) (by have := h.2; omega) zb8
  exact ⟨this.1, by have := this.2; omega⟩
 split at ho
 ·rename_i h1
  cases ho
  have hs := (zkg h.1 h1).1
  have := zg2 (b := plusB) (hy.1.cs) (by have := hy.2; omega) zb8
  exact ⟨this.1, by have := this.2; omega⟩
 split at ho
 ·cases ho; exact ⟨h.1, by omega⟩
 ·cases ho
def zcb : List Tr → Option (List Tr)
 | x :: y :: l => match zde x y with
  | some o => some (o :: l)
  | none => (zcb (y :: l)).map (x :: ·)
 | _ => none
def CLn (n : Nat) (l : List Tr) : Prop := CRL l ∧ (zam l).length ≤ n
theorem CLn.mem {n : Nat} {l : List Tr} {x : Tr} (h : CLn n l) (hx : x ∈ l) : CS n x := ⟨(zcu l).1 h.1 x hx, by have := zbt hx; have := h.2; omega⟩
theorem zox : ∀ {l l' : List Tr} {n : Nat}, CLn n l → n ≤ 9999 → zcb l = some l' → CRL l' ∧ (zam l').length < (zam l).length ∧ l' ≠ []
 | [], _, _, _, _, h => by cases h
 | [x], _, _, _, _, h => by cases h
 | x :: y :: l, l', n, hc, hn, h => by
  have hx := hc.mem (x := x) (by simp)
  have hy := hc.mem (x := y) (by simp)
  have h1 := hc.1; have h2 := hc.2
  rw [zao, zao] at h1
  simp only [zam, List.length_append] at h2 ⊢
  unfold zcb at h
  cases hm : zde x y with
  | some o =>
   rw [hm] at h; cases h
   obtain ⟨q1, q2⟩ := z3u hx hy ⟨by omega, by omega⟩ hm
   refine ⟨(zao _ _).2 ⟨q1, h1.2.2⟩, ?_, by simp⟩
   simp only [zam, List.length_append]; omega
  | none =>
   rw [hm] at h
   cases hr : zcb (y :: l) with
   | none => rw [hr] at h; cases h
   | some r =>
    rw [hr] at h; cases h
    obtain ⟨q1, q2, q3⟩ := zox (n := n) ⟨(zao _ _).2 h1.2, by simp only [zam, List.length_append]; omega⟩ hn hr
    refine ⟨(zao _ _).2 ⟨h1.1, q1⟩, ?_, by simp⟩
    simp only [zam, List.length_append] at q2 ⊢; omega
def zkh : Nat → Tr → Tr
 | 0, t => t
 | n + 1, t => if t.k = 3 then match zcb t.l with | some l' => zkh n (zhi l') | none => t else t
theorem zuh {l : List Tr} {n : Nat} (h : CLn n l) (hn : n ≤ 1000) : CR (zhi l) ∧ (pre (zhi l)).length ≤ (zam l).length + 1 := by
 have h1 := h.2
 rw [zpe h.1 (by omega)]
 exact ⟨ztc (zhl h.1), by have := znp 3 (zbz 3 l); have := ze0 3 l; omega⟩
theorem zgl {t : Tr} {l' : List Tr} (h : CS 1000 t) (hs : zcb t.l = some l') : CR (zhi l') ∧ (pre (zhi l')).length < (pre t).length ∧ CLn 1000 l' ∧ l' ≠ [] := by
 have hp : (pre t).length = 1 + (zam t.l).length := by rw [zcw, List.length_cons]; omega
 have hl : CLn 1000 t.l := ⟨((zbc t).1 h.1).2, by have := h.2; omega⟩
 obtain ⟨q1, q2, q3⟩ := zox hl (by omega) hs
 have hc : CLn 1000 l' := ⟨q1, by have := hl.2; omega⟩
 obtain ⟨r1, r2⟩ := zuh hc (by omega)
 exact ⟨r1, by omega, hc, q3⟩
theorem zi3 : ∀ (n : Nat) (t : Tr), CS 1000 t → (pre t).length ≤ n → zkh n t = zkh (pre t).length t
 | 0, t, h, hn => by have := zfl t; omega
 | n + 1, t, h, hn => by
  have hp := zfl t
  obtain ⟨m, hm⟩ : ∃ m, (pre t).length = m + 1 := ⟨(pre t).length - 1, by omega⟩
  rw [hm, zkh, zkh]
  split
  ·cases hs : zcb t.l with
   | none => rfl
   | some l' =>
    obtain ⟨r1, r2, _⟩ := zgl h hs
    have hc : CS 1000 (zhi l') := ⟨r1, by have := h.2; omega⟩
    simp only
    rw [zi3 n _ hc (by omega), zi3 m _ hc (by omega)]
  ·rfl
termination_by n t => (pre t).length
def ziv (t : Tr) : Tr := zkh (pre t).length t
theorem zf0 {t : Tr} (h : CS 1000 t) : ziv t = if t.k = 3 then match zcb t.l with | some l' => ziv (zhi l') | none => t else t := by
 have hp := zfl t
 unfold ziv
 obtain ⟨m, hm⟩ : ∃ m, (pre t).length = m + 1 := ⟨(pre t).length - 1, by omega⟩
 rw [hm, zkh]
 split
 ·cases hs : zcb t.l with
  | none => rfl
  | some l' =>
   obtain ⟨r1, r2, _⟩ := zgl h hs
   exact zi3 m _ ⟨r1, by have := h.2; omega⟩ (by omega)
 ·rfl
def zyd (l : List Tr) : Tr := ziv (zhi l)
theorem zvb : ∀ (n : Nat) (t : Tr), (pre t).length ≤ n → CS 1000 t → CR (ziv t) ∧ (pre (ziv t)).length ≤ (pre t).length
 | 0, t, hn, _ => by have := zfl t; omega
 | n + 1, t, hn, h => by
  rw [zf0 h]
  split
  ·cases hs : zcb t.l with
   | none => exact ⟨h.1, Nat.le_refl _⟩
   | some l' =>
    obtain ⟨r1, r2, _⟩ := zgl h hs
    have := zvb n (zhi l') (by omega) ⟨r1, by have := h.2; omega⟩
    exact ⟨this.1, Nat.le_trans this.2 (Nat.le_of_lt r2)⟩
  ·exact ⟨h.1, Nat.le_refl _⟩
theorem cat_cs {l : List Tr} (h : CLn 999 l) : CR (zyd l) ∧ (pre (zyd l)).length ≤ (zam l).length + 1 := by
 obtain ⟨r1, r2⟩ := zuh h (by omega)
 have hh := h.2
 obtain ⟨q1, q2⟩ := zvb _ (zhi l) (Nat.le_refl _) ⟨r1, by omega⟩
 exact ⟨q1, by have : (pre (zyd l)).length ≤ (pre (zhi l)).length := q2; omega⟩
theorem zyg (l : List Tr) (i : Nat) : sub l 0 (i : Int) = l.take i := by simp [sub]
theorem zs4 (l : List Tr) (i : Nat) : sub l (i : Int) (l.length : Int) = l.drop i := by
 rw [sub, Int.toNat_natCast, Int.toNat_natCast, List.take_of_length_le (by rw [List.length_drop]; omega)]
theorem zh3 (x y : Tr) (l : List Tr) : zcb (x :: y :: l) = match zde x y with | some o => some (o :: l) | none => (zcb (y :: l)).map (x :: ·) := rfl
theorem cat_eq {fuel : Nat} (l : List Tr) (h : CLn 999 l) (hf : 1001 < fuel) : zyb fuel l = some (zyd l) := by
 have hh := h.2
 obtain ⟨r1, r2⟩ := zuh h (by omega)
 refine Ok.eq ?_
 unfold zyb
 refine zcc (by omega) (zfm fun x1 e1 => ?_)
 subst e1
 refine zq3 (fun t => t = zyd l) ?_ fun t ht => zef ht
 refine zol (T := fun t : Tr => CS 1000 t ∧ ziv t = zyd l) (m := fun t => (pre t).length) ?_ fuel _ (by omega) ⟨⟨r1, by omega⟩, rfl⟩
 rintro t ⟨hc, ht⟩
 refine zli (fun hk => ?_) fun hk => zef ?_
 ·have hk : t.k = 3 := by have := of_decide_eq_true hk; omega
  have hp : (pre t).length = 1 + (zam t.l).length := by rw [zcw, List.length_cons]; omega
  have hcl : CLn 999 t.l := ⟨((zbc t).1 hc.1).2, by have := hc.2; omega⟩
  have hlen := zag t.l
  have h2 := (zig ((zbc t).1 hc.1).1 hk).1
  have hcs := hc.2
  rw [zf0 hc, if_pos hk] at ht
  refine zq3 (fun _ => zcb t.l = none) ?_ fun _ hn => zef ?_
  ·refine zcc (by omega) ?_
   refine zol (T := fun s : Int => ∃ i : Nat, s = i ∧ i + 1 ≤ t.l.length ∧ zcb t.l = (zcb (t.l.drop i)).map (t.l.take i ++ ·)) (m := fun s => t.l.length - s.toNat) ?_ fuel 0 (by simp; omega) ⟨0, rfl, by omega, by simp⟩
   rintro s2 ⟨i, rfl, i1, i2⟩
   have hsub : sub t.l 1 (t.l.length : Int) = t.l.drop 1 := zs4 t.l 1
   refine zli (fun hi => ?_) fun hi => zef ?_
   ·have hi : i + 1 < t.l.length := by rw [hsub] at hi; have := of_decide_eq_true hi; rw [List.length_drop] at this; omega
    refine zcc (by omega) (zfm fun x2 e2 => zcc (by omega) (zcc (by omega) (zfm fun x3 e3 => ?_)))
    rw [zeg (by omega)] at e2
    rw [show (i : Int) + 1 = ((i + 1 : Nat) : Int) by omega, zeg hi] at e3
    have hx := (hcl.mem (x := x2) (e2 ▸ List.getElem_mem _)).mono (m := 9999) (by omega)
    have hy := (hcl.mem (x := x3) (e3 ▸ List.getElem_mem _)).mono (m := 9999) (by omega)
    refine z5z (ok_eq (z37 x2 x3 hx hy)) ?_
    rintro x4 rfl
    have hd : t.l.drop i = x2 :: x3 :: t.l.drop (i + 2) := by rw [List.drop_eq_getElem_cons (by omega), List.drop_eq_getElem_cons hi, e2, e3]
    rw [hd, zh3] at i2
    cases hm : zde x2 x3 with
    | some o =>
     rw [hm] at i2
     simp only [Option.map_some] at i2
     refine zli (fun _ => ?_) fun h => by cases h
     obtain ⟨q1, q2, q3, q4⟩ := zgl hc i2
     rw [i2] at ht
     refine zcc (by omega) (zcc (by omega) (zcc (by omega) (zcc ?_ (zfm fun x5 e5 => ?_))))
     ·rw [zyg, show (i : Int) + 2 = ((i + 2 : Nat) : Int) by omega, zs4, List.length_take, List.length_drop]
      simp only [List.length_cons, List.length_nil]; omega
     ·rw [zyg, show (i : Int) + 2 = ((i + 2 : Nat) : Int) by omega, zs4, List.append_assoc] at e5
      have e5 : x5 = t.l.take i ++ o :: t.l.drop (i + 2) := e5.symm
      rw [← e5] at q1 q2 q3 ht
      refine zcc (by have := q3.2; omega) (zfm fun x6 e6 => zef ?_)
      subst e6
      exact ⟨⟨⟨q1, by omega⟩, ht⟩, q2⟩
    | none =>
     rw [hm] at i2
     refine zli (fun h => by cases h) fun _ => zcc (by omega) (zef ?_)
     refine ⟨⟨i + 1, by omega, by omega, ?_⟩, by omega⟩
     have hd2 : t.l.drop (i + 1) = x3 :: t.l.drop (i + 2) := by rw [List.drop_eq_getElem_cons hi, e3]
     rw [i2, hd2, Option.map_map]
     congr 1
     funext z
     rw [List.take_succ_eq_append_getElem (by omega), e2]; simp
   ·have hi : ¬ i + 1 < t.l.length := by rw [hsub] at hi; have := of_decide_eq_false hi; rw [List.length_drop] at this; omega
    have hd : t.l.drop i = [t.l[i]] := by rw [List.drop_eq_getElem_cons (by omega), List.drop_of_length_le (by omega)]
    show zcb t.l = none
    rw [i2, hd]; rfl
  ·rw [hn] at ht
   exact ht
 ·have hk : ¬ t.k = 3 := by have := of_decide_eq_false hk; omega
  rw [zf0 hc, if_neg hk] at ht
  exact ht
end Go.Ab
set_option linter.unusedSimpArgs false
set_option linter.unusedVariables false
namespace Go.Ab
open Go Go.RowKit Go.Fwd Go.Proofs
theorem CLn.nil {n : Nat} : CLn n [] := ⟨zb0, by simp [zam]⟩
theorem CLn.mono {n m : Nat} {l : List Tr} (h : CLn n l) (hm : n ≤ m) : CLn m l := ⟨h.1, by have := h.2; omega⟩
theorem zji {l m : List Tr} (h : l.Sublist m) : (zam l).length ≤ (zam m).length := by
 induction h with
 | slnil => exact Nat.le_refl _
 | cons a h ih => simp only [zam, List.length_append]; omega
 | cons_cons a h ih => simp only [zam, List.length_append]; omega
theorem zpo {l m : List Tr} (h : l.Perm m) : (zam l).length = (zam m).length := by
 induction h with
 | nil => rfl
 | cons a h ih => simp only [zam, List.length_append]; omega
 | swap a b l => simp only [zam, List.length_append]; omega
 | trans h k ih ih2 => omega
theorem CLn.sub {n : Nat} {l m : List Tr} (h : CLn n m) (hs : l.Sublist m) : CLn n l := ⟨(zcu l).2 fun t ht => (zcu m).1 h.1 t (hs.subset ht), by have := zji hs; have := h.2; omega⟩
theorem CLn.perm {n : Nat} {l m : List Tr} (h : CLn n m) (hp : l.Perm m) : CLn n l := ⟨(zcu l).2 fun t ht => (zcu m).1 h.1 t (hp.subset ht), by have := zpo hp; have := h.2; omega⟩
def zsq (out : List Tr) (x : Tr) : List Tr := if plainT x = false ∨ (out.any fun y => zd0 x y) = false then out ++ [x] else out
def zek (l : List Tr) : List Tr := l.foldl zsq []
theorem zrb (l : List Tr) (i : Nat) (hi : i < l.length) : zek (l.take (i + 1)) = zsq (zek (l.take i)) l[i] := by
 unfold zek; rw [List.take_succ_eq_append_getElem hi, List.foldl_append]; rfl
theorem zi4 (l : List Tr) : (zek l).Sublist l := by
 suffices ∀ i, i ≤ l.length → (zek (l.take i)).Sublist (l.take i) by have := this l.length (Nat.le_refl _); rwa [List.take_length] at this
 intro i
 induction i with
 | zero => intro _; simp [zek]
 | succ i ih =>
  intro hi
  have := ih (by omega)
  rw [zrb l i hi, List.take_succ_eq_append_getElem hi, zsq]
  split
  ·exact this.append (List.Sublist.refl _)
  ·exact this.trans (List.sublist_append_left _ _)
theorem cap1_eq (y x : Tr) (hx : (pre x).length < 2 ^ 61) (hy : (pre y).length < 2 ^ 61) : zqh y x = some (zd0 x y) := by
 unfold zqh; rw [za2 ⟨hx, hy⟩]; rfl
theorem zwo {fuel : Nat} (l : List Tr) (h : CLn 1000 l) (hf : 1001 < fuel) : zhp fuel l = some (orT (zek l)) := by
 have hh := h.2
 have hlen := zag l
 have hd : ∀ i, (zam (zek (l.take i))).length ≤ 1000 ∧ (zek (l.take i)).length ≤ 1000 := fun i => by
  have h1 := zji (zi4 (l.take i)); have h2 := zji (List.take_sublist i l)
  have h3 := zag (zek (l.take i)); omega
 have hm : ∀ i, ∀ y ∈ zek (l.take i), y ∈ l := fun i y hy => List.mem_of_mem_take ((zi4 _).subset hy)
 unfold zhp
 refine zc8 (zek l) ?_ (zz ?_ rfl)
 ·refine zgy l.length (fun i => (zek (l.take i), (i : Int))) (by simp [zek]) (fun i hi => ?_) ?_ (by omega)
  ·refine zby (by simpa using hi) ?_
   refine zc8 (zek (l.take (i + 1))) ?_ (zz (by simp only; omega) (by simp))
   have hx := h.mem (x := l[i]) (List.getElem_mem hi)
   have h1 := hx.2
   obtain ⟨d1, d2⟩ := hd i
   refine zz (by simp only; omega) (zan fun x1 e1 => ?_)
   simp only at e1
   rw [zeg hi] at e1
   subst e1
   rw [zrb l i hi, zsq]
   refine zz (by omega) (zan fun x2 e2 => ?_)
   rw [e2]
   cases x2 with
   | false => rw [if_pos (.inl rfl)]; exact zz (by simp only [List.length_cons, List.length_nil]; omega) rfl
   | true =>
    refine zdl ((zek (l.take i)).any fun y => zd0 l[i] y) (z7m _ (by simp only; omega) (by simp only; omega) fun y hy => cap1_eq _ _ (by omega) (by have := (h.mem (hm i y hy)).2; omega)) ?_
    cases hq : (zek (l.take i)).any fun y => zd0 l[i] y with
    | false => rw [if_pos (.inr rfl)]; exact zz (by simp only [List.length_cons, List.length_nil]; omega) rfl
    | true => rw [if_neg (by simp)]; rfl
  ·exact zbw (by simp) (by simp)
 ·have := hd l.length; rw [List.take_length] at this; omega
def zb4 (l : List Tr) : List Tr := l.filter fun x => decide (x.k ≠ 2) && decide (x.k ≠ 1)
def zdx (l : List Tr) : BS := l.foldl (fun s x => if x.k = 2 then s ||| x.s else s) 0#256
def zbg (l : List Tr) : Bool := l.any fun x => decide (x.k = 1)
def zsz (s : BS) : List Tr := if s = 0#256 then [] else [.mk 2 s 0 0 []]
def za9 (l : List Tr) : List Tr := zb4 l ++ zsz (zdx l)
def zy4 (l : List Tr) : Tr :=
 if zbg l = true then (if (orT (zfr (zgd (za9 l)))).k = 0 then emptyT else z8 (orT (zfr (zgd (za9 l)))) optB) else orT (zfr (zgd (za9 l)))
def z0o (l : List Tr) : Tr := if (orT l).k ≠ 4 then orT l else if plainT (orT l) = false then orT (zek (orT l).l) else zy4 (orT l).l
theorem zl7 : ∀ (l : List Tr) (p : Tr), (ze3 p l).Sublist l
 | [], _ => List.Sublist.slnil
 | y :: l, p => by
  unfold ze3
  split
  ·exact (zl7 l y).cons y
  ·exact (zl7 l y).cons_cons y
theorem zpw : ∀ l : List Tr, (zfr l).Sublist l
 | [] => List.Sublist.slnil
 | x :: l => (zl7 l x).cons_cons x
theorem z2a {s : BS} (h : s ≠ 0#256) : CR (.mk 2 s 0 0 []) := (zbc _).2 ⟨by simp [zcj, zg8, h], zb0⟩
theorem zxi {l : List Tr} {n : Nat} (h : CLn n l) (hne : l ≠ []) (hn : n ≤ 1000) : CR (orT l) ∧ (pre (orT l)).length ≤ (zam l).length + 1 := by
 have h1 := h.2
 rw [z2x h.1 hne (by omega)]
 exact ⟨zsp (zgn h.1) , by have := znp 4 (zbz 4 l); have := ze0 4 l; omega⟩
theorem zv3 (l : List Tr) (i : Nat) (hi : i < l.length) : zb4 (l.take (i + 1)) = zb4 (l.take i) ++ (if l[i].k = 2 ∨ l[i].k = 1 then [] else [l[i]]) := by
 unfold zb4
 rw [List.take_succ_eq_append_getElem hi, List.filter_append]
 congr 1
 by_cases h2 : l[i].k = 2
 ·simp [h2]
 ·by_cases h1 : l[i].k = 1
  ·simp [h1]
  ·simp [h1, h2]
theorem z0i (l : List Tr) (i : Nat) (hi : i < l.length) : zdx (l.take (i + 1)) = if l[i].k = 2 then zdx (l.take i) ||| l[i].s else zdx (l.take i) := by
 unfold zdx
 rw [List.take_succ_eq_append_getElem hi, List.foldl_append]; rfl
theorem z0u (l : List Tr) (i : Nat) (hi : i < l.length) : zbg (l.take (i + 1)) = (zbg (l.take i) || decide (l[i].k = 1)) := by
 unfold zbg
 rw [List.take_succ_eq_append_getElem hi, List.any_append]; simp
theorem zqz (l : List Tr) : (zb4 l).Sublist l := List.filter_sublist
theorem zyh : ∀ (l : List Tr) (s : BS), (l.foldl (fun s x => if x.k = 2 then s ||| x.s else s) s) ≠ s → ∃ x ∈ l, x.k = 2
 | [], s, h => absurd rfl h
 | x :: l, s, h => by
  by_cases hk : x.k = 2
  ·exact ⟨x, by simp, hk⟩
  ·rw [List.foldl_cons, if_neg hk] at h
   obtain ⟨y, h1, h2⟩ := zyh l s h
   exact ⟨y, by simp [h1], h2⟩
theorem zqs : ∀ l : List Tr, (zam (zb4 l)).length + (if l.any (fun x => decide (x.k = 2)) = true then 1 else 0) + (if zbg l = true then 1 else 0) ≤ (zam l).length
 | [] => by simp [zb4, zbg, zam]
 | x :: l => by
  have ih := zqs l
  have hx := zfl x
  have hb : ∀ b : Bool, (if b = true then 1 else 0) ≤ 1 := fun b => by cases b <;> simp
  have b1 := hb (l.any fun x => decide (x.k = 2)); have b2 := hb (zbg l)
  by_cases h2 : x.k = 2
  ·have e : zb4 (x :: l) = zb4 l := by simp [zb4, h2]
   have e2 : ((x :: l).any fun x => decide (x.k = 2)) = true := by simp [h2]
   have e3 : zbg (x :: l) = zbg l := by simp [zbg, h2]
   rw [e, e2, e3, if_pos rfl]
   simp only [zam, List.length_append]; omega
  ·by_cases h1 : x.k = 1
   ·have e : zb4 (x :: l) = zb4 l := by simp [zb4, h1]
    have e2 : ((x :: l).any fun x => decide (x.k = 2)) = l.any fun x => decide (x.k = 2) := by simp [h1]
    have e3 : zbg (x :: l) = true := by simp [zbg, h1]
    rw [e, e2, e3, if_pos rfl]
    simp only [zam, List.length_append]; omega
   ·have e : zb4 (x :: l) = x :: zb4 l := by simp [zb4, h1, h2]
    have e2 : ((x :: l).any fun x => decide (x.k = 2)) = l.any fun x => decide (x.k = 2) := by simp [h2]
    have e3 : zbg (x :: l) = zbg l := by simp [zbg, h1]
    rw [e, e2, e3]
    simp only [zam, List.length_append]; omega
theorem zsm {l : List Tr} {n : Nat} (h : CLn n l) : CRL (za9 l) ∧ (zam (za9 l)).length + (if zbg l = true then 1 else 0) ≤ (zam l).length := by
 have hs := zqs l
 have ho := h.sub (zqz l)
 unfold za9 zsz
 split
 ·rw [List.append_nil]; exact ⟨ho.1, by omega⟩
 ·rename_i hb
  obtain ⟨x, hx, hk⟩ := zyh l 0#256 hb
  have e2 : (l.any fun x => decide (x.k = 2)) = true := List.any_eq_true.2 ⟨x, hx, by simpa using hk⟩
  rw [e2, if_pos rfl] at hs
  refine ⟨(zct _ _).2 ⟨ho.1, (zao _ _).2 ⟨z2a hb, zb0⟩⟩, ?_⟩
  rw [zbo, List.length_append]
  simp only [zam, pre, List.length_append, List.length_cons, List.length_nil]
  omega
theorem sc_cl {l : List Tr} {n : Nat} (h : CLn n l) : CLn n (zfr (zgd l)) := (h.perm (zdd l)).sub (zpw _)
theorem sc_ne {l : List Tr} (h : l ≠ []) : zfr (zgd l) ≠ [] := by
 have h1 : 0 < (zgd l).length := by rw [(zdd l).length_eq]; exact List.length_pos_iff.2 h
 exact List.length_pos_iff.1 (z6m h1)
theorem z1v {t : Tr} (h : CR t) (hk : t.k = 2) : t.s ≠ 0#256 := by
 have hr := ((zbc t).1 h).1
 cases t with
 | mk k s mn mx l => simp only [Tr.k] at hk; subst hk; rw [zcj] at hr; simp at hr; exact hr.2
theorem or_zero {a b : BS} (h : a ||| b = 0#256) : b = 0#256 := by
 apply BitVec.eq_of_getLsbD_eq
 intro j hj
 have := congrArg (fun z => z.getLsbD j) h
 simp only [BitVec.getLsbD_or, BitVec.getLsbD_zero] at this ⊢
 simpa using (Bool.or_eq_false_iff.1 this).2
theorem zzq : ∀ (l : List Tr) (s : BS), (∀ x ∈ l, x.k = 2 → x.s ≠ 0#256) → (∃ x ∈ l, x.k = 2) ∨ s ≠ 0#256 → (l.foldl (fun s x => if x.k = 2 then s ||| x.s else s) s) ≠ 0#256
 | [], s, _, h => by
  rcases h with ⟨x, h, _⟩ | h
  ·cases h
  ·exact h
 | x :: l, s, hs, h => by
  rw [List.foldl_cons]
  refine zzq l _ (fun y hy => hs y (by simp [hy])) ?_
  by_cases hk : x.k = 2
  ·rw [if_pos hk]; exact .inr fun e => hs x (by simp) hk (or_zero e)
  ·rw [if_neg hk]
   rcases h with ⟨y, h1, h2⟩ | h
   ·rcases List.mem_cons.1 h1 with rfl | h1
    ·exact absurd h2 hk
    ·exact .inl ⟨y, h1, h2⟩
   ·exact .inr h
theorem zyq {l : List Tr} (h : CRL l) (hne : l ≠ []) (he : zbg l = false) : za9 l ≠ [] := by
 obtain ⟨x, hx⟩ := List.exists_mem_of_ne_nil _ hne
 have h1 : x.k ≠ 1 := fun e => by
  have : zbg l = true := List.any_eq_true.2 ⟨x, hx, by simpa using e⟩
  rw [he] at this; cases this
 intro hp
 obtain ⟨p1, p2⟩ := List.append_eq_nil_iff.1 hp
 by_cases h2 : x.k = 2
 ·have hb : zdx l ≠ 0#256 := zzq l _ (fun y hy hk => z1v ((zcu l).1 h y hy) hk) (.inl ⟨x, hx, h2⟩)
  rw [zsz, if_neg hb] at p2; cases p2
 ·have : x ∈ zb4 l := List.mem_filter.2 ⟨hx, by simp [h1, h2]⟩
  rw [p1] at this; cases this
theorem zyo : orT [] = noneT := by simp [orT, zg3, zkl]
theorem altP_cs {l : List Tr} (h : CLn 999 l) (hne : l ≠ []) : CR (zy4 l) ∧ (pre (zy4 l)).length ≤ (zam l).length + 1 := by
 obtain ⟨p1, p2⟩ := zsm h
 have hh := h.2
 unfold zy4
 by_cases hp : za9 l = []
 ·have he : zbg l = true := by
   cases he : zbg l with
   | true => rfl
   | false => exact absurd hp (zyq h.1 hne he)
  have e : zfr (zgd ([] : List Tr)) = [] := by simp [zgd, zfr]
  rw [if_pos he, hp, e, zyo, if_pos (show noneT.k = 0 from rfl)]
  have := zzo (n := 1) (Nat.le_refl _)
  exact ⟨this.1, by have := this.2; omega⟩
 ·have hc : CLn 999 (za9 l) := ⟨p1, by omega⟩
  obtain ⟨q1, q2⟩ := zxi (sc_cl hc) (sc_ne hp) (by omega)
  have q3 : (zam (zfr (zgd (za9 l)))).length ≤ (zam (za9 l)).length := by
   have a1 := zji (zpw (zgd (za9 l))); have a2 := zpo (zdd (za9 l)); omega
  by_cases he : zbg l = true
  ·rw [if_pos he, if_neg q1.k0]
   rw [if_pos he] at p2
   have := zg2 (b := optB) q1.cs (by omega) zc2
   exact ⟨this.1, by have := this.2; omega⟩
  ·rw [if_neg he]
   exact ⟨q1, by omega⟩
theorem zy2 {l : List Tr} (h : l ≠ []) : zek l ≠ [] := by
 match l, h with
 | x :: l, _ =>
  have key : ∀ (l out : List Tr), out ≠ [] → l.foldl zsq out ≠ [] := by
   intro l
   induction l with
   | nil => intro out h; exact h
   | cons y l ih =>
    intro out h
    rw [List.foldl_cons]
    refine ih _ ?_
    unfold zsq
    split
    ·simp
    ·exact h
  unfold zek
  rw [List.foldl_cons]
  refine key l _ ?_
  unfold zsq
  rw [if_pos (.inr rfl)]; simp
theorem alt_cs {l : List Tr} (h : CLn 998 l) (hne : l ≠ []) : CR (z0o l) ∧ (pre (z0o l)).length ≤ (zam l).length + 1 := by
 obtain ⟨r1, r2⟩ := zxi h hne (by omega)
 have hh := h.2
 unfold z0o
 split
 ·exact ⟨r1, r2⟩
 rename_i hk
 have hk : (orT l).k = 4 := Decidable.byContradiction hk
 have hp : (pre (orT l)).length = 1 + (zam (orT l).l).length := by rw [zcw, List.length_cons]; omega
 have hc : CLn 999 (orT l).l := ⟨((zbc _).1 r1).2, by omega⟩
 have hl := (zb9 ((zbc _).1 r1).1 hk).1
 have hn : (orT l).l ≠ [] := fun e => by rw [e] at hl; cases hl
 split
 ·obtain ⟨q1, q2⟩ := zxi (hc.sub (zi4 _)) (zy2 hn) (by omega)
  have := zji (zi4 (orT l).l)
  exact ⟨q1, by omega⟩
 ·obtain ⟨q1, q2⟩ := altP_cs hc hn
  exact ⟨q1, by omega⟩
theorem alt_eq {fuel : Nat} (l : List Tr) (h : CLn 998 l) (hne : l ≠ []) (hf : 1001 < fuel) : zym fuel l = some (z0o l) := by
 obtain ⟨r1, r2⟩ := zxi h hne (by omega)
 have hh := h.2
 unfold zym z0o
 refine zz (by omega) (zan fun x1 e1 => ?_)
 subst e1
 by_cases hk : (orT l).k ≠ 4
 ·rw [if_pos hk]; exact zby (by simp; omega) rfl
 rw [if_neg hk]
 have hk : (orT l).k = 4 := Decidable.byContradiction hk
 have hp : (pre (orT l)).length = 1 + (zam (orT l).l).length := by rw [zcw, List.length_cons]; omega
 have hc : CLn 999 (orT l).l := ⟨((zbc _).1 r1).2, by omega⟩
 have hl := (zb9 ((zbc _).1 r1).1 hk).1
 have hn : (orT l).l ≠ [] := fun e => by rw [e] at hl; cases hl
 refine zbw (by simp [hk]) (zz (by omega) (zan fun x2 e2 => ?_))
 rw [e2]
 cases x2 with
 | false =>
  rw [if_pos rfl]
  exact zby rfl (zdl _ (zwo (orT l).l (hc.mono (by omega)) hf) rfl)
 | true =>
  rw [if_neg (by decide)]
  refine zbw rfl ?_
  obtain ⟨m, hm⟩ : ∃ m, m = (orT l).l := ⟨_, rfl⟩
  rw [← hm] at hc hn hp ⊢
  have hlen := zag m
  have hmm := hc.2
  have ho : ∀ i, (zb4 (m.take i)).length ≤ 999 := fun i => by
   have h1 := ((zqz (m.take i)).trans (List.take_sublist i m)).length_le; omega
  obtain ⟨p1, p2⟩ := zsm hc
  have hpc : CLn 999 (za9 m) := ⟨p1, by omega⟩
  have hpl := zag (za9 m)
  refine zc8 (zbg m, zdx m, zb4 m) ?_ ?_
  ·refine zgy m.length (fun i => (zbg (m.take i), (i : Int), zdx (m.take i), zb4 (m.take i))) (by simp [zbg, zdx, zb4]) (fun i hi => ?_) ?_ (by omega)
   ·refine zby (by simpa using hi) ?_
    refine zc8 (zbg (m.take (i + 1)), zdx (m.take (i + 1)), zb4 (m.take (i + 1))) ?_ (zz (by simp only; omega) (by simp))
    have hoi := ho i
    rw [zv3 m i hi, z0i m i hi, z0u m i hi]
    refine zz (by simp only; omega) (zan fun x4 e4 => ?_)
    simp only at e4
    rw [zeg hi] at e4
    subst e4
    by_cases h2 : m[i].k = 2
    ·refine zby (by simp [h2]) (zan fun x5 e5 => ?_)
     subst e5
     simp [h2]
    ·refine zbw (by simp; omega) ?_
     by_cases h1 : m[i].k = 1
     ·refine zby (by simp [h1]) ?_
      simp [h1]
     ·refine zbw (by simp; omega) ?_
      simp only [h1, h2, or_self, if_false, decide_false, Bool.or_false]
      refine zvd (fun he => zz (by simp) ?_) fun he => zz ?_ rfl
      ·rw [List.isEmpty_iff.1 he]; rfl
      ·have := zep he
       simp only [List.length_cons, List.length_nil] at *
       exact ⟨trivial, this, by omega, by omega⟩
   ·exact zbw (by simp) (by simp)
  ·refine zc8 (za9 m) ?_ ?_
   ·refine zan fun x6 e6 => ?_
    unfold za9 zsz
    have hom := ho m.length
    rw [List.take_length] at hom
    by_cases hb : zdx m = 0#256
    ·have : x6 = noneT := by rw [← e6]; simp only; rw [ofT, if_pos hb]
     rw [this, if_pos hb, List.append_nil]; rfl
    ·have : x6 = .mk 2 (zdx m) 0 0 [] := by rw [← e6]; simp only; rw [ofT, if_neg hb]
     rw [this, if_neg hb]
     refine zby rfl (zvd (fun he => zz (by simp) ?_) fun he => zz ?_ rfl)
     ·simp only at he; rw [List.isEmpty_iff.1 he]; rfl
     ·have := zep he
      simp only [List.length_cons, List.length_nil] at *
      exact ⟨trivial, this, by omega, by omega⟩
   ·unfold zy4
    have hfin : ∀ z : Tr, (z.k ≠ 0 → CS 9999 z) → (bif zbg m then (bif (((z.k : Nat) : Int) == 0) then some (Tr.mk 1 0#256 0 0 []) else zau (zgj z (Bd.mk 0 1)) (fun x => some x)) else some z) = some (if zbg m = true then (if z.k = 0 then emptyT else z8 z optB) else z) := by
     intro z hz
     cases zbg m with
     | false => rfl
     | true =>
      by_cases h0 : z.k = 0
      ·rw [show (((z.k : Nat) : Int) == 0) = true by simp [h0]]
       simp [h0]; rfl
      ·rw [show (((z.k : Nat) : Int) == 0) = false by simp; omega]
       rw [show Bd.mk 0 1 = optB from rfl, zks z optB (hz h0)]
       simp [h0]
    refine zvd (fun he => ?_) fun he => ?_
    ·have he : za9 m = [] := List.isEmpty_iff.1 he
     have e : zfr (zgd ([] : List Tr)) = [] := by simp [zgd, zfr]
     refine zz (by simp [zam]) (zan fun x7 e7 => ?_)
     rw [he, e]
     have := hfin x7 (fun h0 => by rw [← e7, zyo] at h0; exact absurd rfl h0)
     rw [e7]
     exact this
    ·have hpos := zep he
     have hne' : za9 m ≠ [] := List.length_pos_iff.1 hpos
     have hsl := (zdd (za9 m)).length_eq
     obtain ⟨q1, q2⟩ := zxi (sc_cl hpc) (sc_ne hne') (by omega)
     have hscl := (sc_cl hpc).2
     refine zz ⟨⟨hpos, by omega⟩, fun y hy => (hpc.mem hy).clean (by omega)⟩ (zan fun x9 e9 => ?_)
     subst e9
     refine zz hsl (zz ⟨⟨by omega, by omega⟩, fun y hy => ?_⟩ (zan fun x10 e10 => ?_))
     ·have := (hpc.mem ((zdd (za9 m)).subset hy)).2; omega
     subst e10
     refine zz (by omega) (zan fun x11 e11 => ?_)
     subst e11
     exact hfin _ fun _ => ⟨q1, by omega⟩
end Go.Ab
