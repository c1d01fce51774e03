/-
  rxnorm as plain functions: captured, alt; sizes.
-/
import Derived.Test.YtmoncghgagmilaaZnV7
set_option linter.unusedSimpArgs false
set_option linter.unusedVariables false
namespace Go.Ab
open Go Go.RowKit Go.Fwd Go.Proofs
theorem CS.mono {n m : Nat} {t : Tr} (h : CS n t) (hm : n ≤ m) : CS m t := ⟨h.1, by have := h.2; omega⟩
theorem CR.cs {t : Tr} (h : CR t) : CS (pre t).length t := ⟨h, Nat.le_refl _⟩
theorem ziv {x : Tr} {lo hi : Int} {n : Nat} (h : CS n x) (hn : n ≤ 9999) (hb : zb4 lo hi = true) : CS (n + 1) (zb1 x lo hi) := by
 rw [zi7 (h.mono hn) hb]
 by_cases hk : x.k = 1
 ·rw [if_pos hk]; exact zx9 (by omega)
 ·rw [if_neg hk]; exact cs_rep h hk hb
theorem zk8 {x : Tr} {b : Bd} {n : Nat} (h : CS n x) (hn : n ≤ 9999) (hb : zb4 b.lo b.mo = true) : CS (n + 1) (zcx x b) := by
 unfold zcx
 split
 ·exact ziv h hn hb
 split
 ·exact h.mono (by omega)
 split
 ·rename_i h1
  obtain ⟨y, e1, e2, e3, e4, e5, e6⟩ := zh9 h.1 h1.1
  have hy : CS n y := ⟨e4, by have := h.2; omega⟩
  rw [e5]
  split
  ·exact ziv hy hn zdy
  ·exact ziv hy hn hb
 split
 ·exact ziv h hn zdy
 ·exact ziv h hn hb
def zi3 (n o : Tr) : Bool := decide (n.k = 5) && decide (ofB n = zih) && zfc (hdT n.l) o
theorem zt9 (x y : Tr) (h : CS 9999 x) (hy : CS 9999 y) : zjb x y = some (zi3 x y) := by
 have h1 := h.2; have h2 := hy.2
 unfold zjb zi3
 by_cases hk : x.k = 5
 ·obtain ⟨z, e1, e2, e3, e4, e5, e6⟩ := zh9 h.1 hk
  have hl1 : (0 : Int) ≤ (0 : Int) ∧ (0 : Int) < (x.l.length : Int) := by rw [e1]; exact ⟨by decide, by simp [Tr.l]⟩
  have hix : ix x.l 0 = hdT x.l := rfl
  have hz : (pre (hdT x.l)).length < 2 ^ 61 ∧ (pre y).length < 2 ^ 61 := by rw [e5]; omega
  rw [show (((x.k : Nat) : Int) == 5) = true by simp [hk]]
  by_cases hb : ofB x = zih
  ·have hb' : Bd.mk x.mn x.mx = Bd.mk 0 (-1) := hb
   simp only [hb', decide_true, cond_true, zaz hl1, hix, zan, zaz hz, hk, hb, Bool.true_and]
  ·have hb' : ¬ Bd.mk x.mn x.mx = Bd.mk 0 (-1) := hb
   simp [hb', hk, hb]
 ·rw [show (((x.k : Nat) : Int) == 5) = false by simp; omega]
  simp [hk]
theorem zop {x y : Tr} (h : CR x) (hs : zi3 x y = true) : (pre x).length = (pre y).length + 1 ∧ hdT x.l = y := by
 simp only [zi3, Bool.and_eq_true, decide_eq_true_eq] at hs
 obtain ⟨z, e1, e2, e3, e4, e5, e6⟩ := zh9 h hs.1.1
 have h3 := hs.2
 rw [e5, zfc, Bool.and_eq_true] at h3
 have h4 := (zho _ _).1 h3.2
 subst h4
 exact ⟨e6, e5⟩
def zgq (x y : Tr) : Option Tr :=
 if plainT x = false ∨ plainT y = false then none
 else if zi3 y x = true then some (zcx x zhr)
 else if zi3 x y = true then some (zcx y zhr)
 else if zfc x y = true ∧ x.k = 5 ∧ ofB x = zih then some x else none
theorem z28 (x y : Tr) (h : CS 9999 x) (hy : CS 9999 y) : zld x y = some (match zgq x y with | some o => (o, true) | none => (noneT, false)) := by
 have h1 := h.2; have h2 := hy.2
 unfold zld zgq
 rw [zaz (by omega), zan]
 cases hp : plainT x with
 | false => rw [if_pos (.inl rfl)]; rfl
 | true =>
  simp only [Bool.not_true, cond_false]
  rw [zaz (by omega), zan]
  cases hq : plainT y with
  | false => rw [if_pos (.inr rfl)]; rfl
  | true =>
   rw [if_neg (by simp)]
   simp only [Bool.not_true, cond_false]
   rw [zt9 y x hy h, bindE_some, zt9 x y h hy]
   cases h3 : zi3 y x with
   | true => rw [if_pos rfl, cond_true, show Bd.mk 1 (-1) = zhr from rfl, zk1 x zhr h]; rfl
   | false =>
    rw [if_neg (by decide), cond_false, bindE_some]
    cases h4 : zi3 x y with
    | true => rw [if_pos rfl, cond_true, show Bd.mk 1 (-1) = zhr from rfl, zk1 y zhr hy]; rfl
    | false =>
     rw [if_neg (by decide), cond_false, zaz ⟨by omega, by omega⟩, zan]
     cases h5 : zfc x y with
     | false => rw [if_neg (by simp)]; rfl
     | true =>
      by_cases hk : x.k = 5
      ·rw [show (((x.k : Nat) : Int) == 5) = true by simp [hk]]
       by_cases hb : ofB x = zih
       ·have hb' : Bd.mk x.mn x.mx = Bd.mk 0 (-1) := hb
        rw [if_pos ⟨rfl, hk, hb⟩]
        simp [zan, hb']
       ·have hb' : ¬ Bd.mk x.mn x.mx = Bd.mk 0 (-1) := hb
        rw [if_neg (fun h => hb h.2.2)]
        simp [zan, hb']
      ·rw [show (((x.k : Nat) : Int) == 5) = false by simp; omega, if_neg (fun h => hk h.2.1)]
       rfl
theorem z4m {x y o : Tr} {n m : Nat} (h : CS n x) (hy : CS m y) (hn : n ≤ 9999 ∧ m ≤ 9999) (ho : zgq x y = some o) : CR o ∧ (pre o).length < (pre x).length + (pre y).length := by
 have px := zg8 x; have py := zg8 y
 unfold zgq at ho
 split at ho
 ·cases ho
 split at ho
 ·rename_i h1
  cases ho
  have hs := (zop hy.1 h1).1
  have := zk8 (b := zhr) (h.1.cs) (by have := h.2; omega) zhx
  exact ⟨this.1, by have := this.2; omega⟩
 split at ho
 ·rename_i h1
  cases ho
  have hs := (zop h.1 h1).1
  have := zk8 (b := zhr) (hy.1.cs) (by have := hy.2; omega) zhx
  exact ⟨this.1, by have := this.2; omega⟩
 split at ho
 ·cases ho; exact ⟨h.1, by omega⟩
 ·cases ho
def zc5 : List Tr → Option (List Tr)
 | x :: y :: l => match zgq x y with
  | some o => some (o :: l)
  | none => (zc5 (y :: l)).map (x :: ·)
 | _ => none
def CLn (n : Nat) (l : List Tr) : Prop := CRL l ∧ (zai l).length ≤ n
theorem CLn.mem {n : Nat} {l : List Tr} {x : Tr} (h : CLn n l) (hx : x ∈ l) : CS n x := ⟨(zcq l).1 h.1 x hx, by have := zbr hx; have := h.2; omega⟩
theorem zob : ∀ {l l' : List Tr} {n : Nat}, CLn n l → n ≤ 9999 → zc5 l = some l' → CRL l' ∧ (zai l').length < (zai l).length ∧ l' ≠ []
 | [], _, _, _, _, h => by cases h
 | [x], _, _, _, _, h => by cases h
 | x :: y :: l, l', n, hc, hn, h => by
  have hx := hc.mem (x := x) (by simp)
  have hy := hc.mem (x := y) (by simp)
  have h1 := hc.1; have h2 := hc.2
  rw [zap, zap] at h1
  simp only [zai, List.length_append] at h2 ⊢
  unfold zc5 at h
  cases hm : zgq x y with
  | some o =>
   rw [hm] at h; cases h
   obtain ⟨q1, q2⟩ := z4m hx hy ⟨by omega, by omega⟩ hm
   refine ⟨(zap _ _).2 ⟨q1, h1.2.2⟩, ?_, by simp⟩
   simp only [zai, List.length_append]; omega
  | none =>
   rw [hm] at h
   cases hr : zc5 (y :: l) with
   | none => rw [hr] at h; cases h
   | some r =>
    rw [hr] at h; cases h
    obtain ⟨q1, q2, q3⟩ := zob (n := n) ⟨(zap _ _).2 h1.2, by simp only [zai, List.length_append]; omega⟩ hn hr
    refine ⟨(zap _ _).2 ⟨h1.1, q1⟩, ?_, by simp⟩
    simp only [zai, List.length_append] at q2 ⊢; omega
def zj3 : Nat → Tr → Tr
 | 0, t => t
 | n + 1, t => if t.k = 3 then match zc5 t.l with | some l' => zj3 n (zj9 l') | none => t else t
theorem zyy {l : List Tr} {n : Nat} (h : CLn n l) (hn : n ≤ 1000) : CR (zj9 l) ∧ (pre (zj9 l)).length ≤ (zai l).length + 1 := by
 have h1 := h.2
 rw [z1k h.1 (by omega)]
 exact ⟨zr0 (zhe h.1), by have := zno 3 (zbd 3 l); have := zeu 3 l; omega⟩
theorem zhi {t : Tr} {l' : List Tr} (h : CS 1000 t) (hs : zc5 t.l = some l') : CR (zj9 l') ∧ (pre (zj9 l')).length < (pre t).length ∧ CLn 1000 l' ∧ l' ≠ [] := by
 have hp : (pre t).length = 1 + (zai t.l).length := by rw [zc8, List.length_cons]; omega
 have hl : CLn 1000 t.l := ⟨((zbm t).1 h.1).2, by have := h.2; omega⟩
 obtain ⟨q1, q2, q3⟩ := zob hl (by omega) hs
 have hc : CLn 1000 l' := ⟨q1, by have := hl.2; omega⟩
 obtain ⟨r1, r2⟩ := zyy hc (by omega)
 exact ⟨r1, by omega, hc, q3⟩
theorem ziq : ∀ (n : Nat) (t : Tr), CS 1000 t → (pre t).length ≤ n → zj3 n t = zj3 (pre t).length t
 | 0, t, h, hn => by have := zg8 t; omega
 | n + 1, t, h, hn => by
  have hp := zg8 t
  obtain ⟨m, hm⟩ : ∃ m, (pre t).length = m + 1 := ⟨(pre t).length - 1, by omega⟩
  rw [hm, zj3, zj3]
  split
  ·cases hs : zc5 t.l with
   | none => rfl
   | some l' =>
    obtain ⟨r1, r2, _⟩ := zhi h hs
    have hc : CS 1000 (zj9 l') := ⟨r1, by have := h.2; omega⟩
    simp only
    rw [ziq n _ hc (by omega), ziq m _ hc (by omega)]
  ·rfl
termination_by n t => (pre t).length
def zm8 (t : Tr) : Tr := zj3 (pre t).length t
theorem zkx {t : Tr} (h : CS 1000 t) : zm8 t = if t.k = 3 then match zc5 t.l with | some l' => zm8 (zj9 l') | none => t else t := by
 have hp := zg8 t
 unfold zm8
 obtain ⟨m, hm⟩ : ∃ m, (pre t).length = m + 1 := ⟨(pre t).length - 1, by omega⟩
 rw [hm, zj3]
 split
 ·cases hs : zc5 t.l with
  | none => rfl
  | some l' =>
   obtain ⟨r1, r2, _⟩ := zhi h hs
   exact ziq m _ ⟨r1, by have := h.2; omega⟩ (by omega)
 ·rfl
def z40 (l : List Tr) : Tr := zm8 (zj9 l)
theorem ztw : ∀ (n : Nat) (t : Tr), (pre t).length ≤ n → CS 1000 t → CR (zm8 t) ∧ (pre (zm8 t)).length ≤ (pre t).length
 | 0, t, hn, _ => by have := zg8 t; omega
 | n + 1, t, hn, h => by
  rw [zkx h]
  split
  ·cases hs : zc5 t.l with
   | none => exact ⟨h.1, Nat.le_refl _⟩
   | some l' =>
    obtain ⟨r1, r2, _⟩ := zhi h hs
    have := ztw n (zj9 l') (by omega) ⟨r1, by have := h.2; omega⟩
    exact ⟨this.1, Nat.le_trans this.2 (Nat.le_of_lt r2)⟩
  ·exact ⟨h.1, Nat.le_refl _⟩
theorem cat_cs {l : List Tr} (h : CLn 999 l) : CR (z40 l) ∧ (pre (z40 l)).length ≤ (zai l).length + 1 := by
 obtain ⟨r1, r2⟩ := zyy h (by omega)
 have hh := h.2
 obtain ⟨q1, q2⟩ := ztw _ (zj9 l) (Nat.le_refl _) ⟨r1, by omega⟩
 exact ⟨q1, by have : (pre (z40 l)).length ≤ (pre (zj9 l)).length := q2; omega⟩
theorem zy4 (l : List Tr) (i : Nat) : sub l 0 (i : Int) = l.take i := by simp [sub]
theorem ztg (l : List Tr) (i : Nat) : sub l (i : Int) (l.length : Int) = l.drop i := by
 rw [sub, Int.toNat_natCast, Int.toNat_natCast, List.take_of_length_le (by rw [List.length_drop]; omega)]
theorem zo6 (x y : Tr) (l : List Tr) : zc5 (x :: y :: l) = match zgq x y with | some o => some (o :: l) | none => (zc5 (y :: l)).map (x :: ·) := rfl
theorem cat_eq {fuel : Nat} (l : List Tr) (h : CLn 999 l) (hf : 1001 < fuel) : zx0 fuel l = some (z40 l) := by
 have hh := h.2
 obtain ⟨r1, r2⟩ := zyy h (by omega)
 refine Ok.eq ?_
 unfold zx0
 refine zb8 (by omega) (zfe fun x1 e1 => ?_)
 subst e1
 refine zqi (fun t => t = z40 l) ?_ fun t ht => zef ht
 refine zoi (T := fun t : Tr => CS 1000 t ∧ zm8 t = z40 l) (m := fun t => (pre t).length) ?_ fuel _ (by omega) ⟨⟨r1, by omega⟩, rfl⟩
 rintro t ⟨hc, ht⟩
 refine zlg (fun hk => ?_) fun hk => zef ?_
 ·have hk : t.k = 3 := by have := of_decide_eq_true hk; omega
  have hp : (pre t).length = 1 + (zai t.l).length := by rw [zc8, List.length_cons]; omega
  have hcl : CLn 999 t.l := ⟨((zbm t).1 hc.1).2, by have := hc.2; omega⟩
  have hlen := zag t.l
  have h2 := (zkf ((zbm t).1 hc.1).1 hk).1
  have hcs := hc.2
  rw [zkx hc, if_pos hk] at ht
  refine zqi (fun _ => zc5 t.l = none) ?_ fun _ hn => zef ?_
  ·refine zb8 (by omega) ?_
   refine zoi (T := fun s : Int => ∃ i : Nat, s = i ∧ i + 1 ≤ t.l.length ∧ zc5 t.l = (zc5 (t.l.drop i)).map (t.l.take i ++ ·)) (m := fun s => t.l.length - s.toNat) ?_ fuel 0 (by simp; omega) ⟨0, rfl, by omega, by simp⟩
   rintro s2 ⟨i, rfl, i1, i2⟩
   have hsub : sub t.l 1 (t.l.length : Int) = t.l.drop 1 := ztg t.l 1
   refine zlg (fun hi => ?_) fun hi => zef ?_
   ·have hi : i + 1 < t.l.length := by rw [hsub] at hi; have := of_decide_eq_true hi; rw [List.length_drop] at this; omega
    refine zb8 (by omega) (zfe fun x2 e2 => zb8 (by omega) (zb8 (by omega) (zfe fun x3 e3 => ?_)))
    rw [zdz (by omega)] at e2
    rw [show (i : Int) + 1 = ((i + 1 : Nat) : Int) by omega, zdz hi] at e3
    have hx := (hcl.mem (x := x2) (e2 ▸ List.getElem_mem _)).mono (m := 9999) (by omega)
    have hy := (hcl.mem (x := x3) (e3 ▸ List.getElem_mem _)).mono (m := 9999) (by omega)
    refine z5n (ok_eq (z28 x2 x3 hx hy)) ?_
    rintro x4 rfl
    have hd : t.l.drop i = x2 :: x3 :: t.l.drop (i + 2) := by rw [List.drop_eq_getElem_cons (by omega), List.drop_eq_getElem_cons hi, e2, e3]
    rw [hd, zo6] at i2
    cases hm : zgq x2 x3 with
    | some o =>
     rw [hm] at i2
     simp only [Option.map_some] at i2
     refine zlg (fun _ => ?_) fun h => by cases h
     obtain ⟨q1, q2, q3, q4⟩ := zhi hc i2
     rw [i2] at ht
     refine zb8 (by omega) (zb8 (by omega) (zb8 (by omega) (zb8 ?_ (zfe fun x5 e5 => ?_))))
     ·rw [zy4, show (i : Int) + 2 = ((i + 2 : Nat) : Int) by omega, ztg, List.length_take, List.length_drop]
      simp only [List.length_cons, List.length_nil]; omega
     ·rw [zy4, show (i : Int) + 2 = ((i + 2 : Nat) : Int) by omega, ztg, List.append_assoc] at e5
      have e5 : x5 = t.l.take i ++ o :: t.l.drop (i + 2) := e5.symm
      rw [← e5] at q1 q2 q3 ht
      refine zb8 (by have := q3.2; omega) (zfe fun x6 e6 => zef ?_)
      subst e6
      exact ⟨⟨⟨q1, by omega⟩, ht⟩, q2⟩
    | none =>
     rw [hm] at i2
     refine zlg (fun h => by cases h) fun _ => zb8 (by omega) (zef ?_)
     refine ⟨⟨i + 1, by omega, by omega, ?_⟩, by omega⟩
     have hd2 : t.l.drop (i + 1) = x3 :: t.l.drop (i + 2) := by rw [List.drop_eq_getElem_cons hi, e3]
     rw [i2, hd2, Option.map_map]
     congr 1
     funext z
     rw [List.take_succ_eq_append_getElem (by omega), e2]; simp
   ·have hi : ¬ i + 1 < t.l.length := by rw [hsub] at hi; have := of_decide_eq_false hi; rw [List.length_drop] at this; omega
    have hd : t.l.drop i = [t.l[i]] := by rw [List.drop_eq_getElem_cons (by omega), List.drop_of_length_le (by omega)]
    show zc5 t.l = none
    rw [i2, hd]; rfl
  ·rw [hn] at ht
   exact ht
 ·have hk : ¬ t.k = 3 := by have := of_decide_eq_false hk; omega
  rw [zkx hc, if_neg hk] at ht
  exact ht
end Go.Ab
set_option linter.unusedSimpArgs false
set_option linter.unusedVariables false
namespace Go.Ab
open Go Go.RowKit Go.Fwd Go.Proofs
theorem CLn.nil {n : Nat} : CLn n [] := ⟨zcg, by simp [zai]⟩
theorem CLn.mono {n m : Nat} {l : List Tr} (h : CLn n l) (hm : n ≤ m) : CLn m l := ⟨h.1, by have := h.2; omega⟩
theorem zjc {l m : List Tr} (h : l.Sublist m) : (zai l).length ≤ (zai m).length := by
 induction h with
 | slnil => exact Nat.le_refl _
 | cons a h ih => simp only [zai, List.length_append]; omega
 | cons_cons a h ih => simp only [zai, List.length_append]; omega
theorem zod {l m : List Tr} (h : l.Perm m) : (zai l).length = (zai m).length := by
 induction h with
 | nil => rfl
 | cons a h ih => simp only [zai, List.length_append]; omega
 | swap a b l => simp only [zai, List.length_append]; omega
 | trans h k ih ih2 => omega
theorem CLn.sub {n : Nat} {l m : List Tr} (h : CLn n m) (hs : l.Sublist m) : CLn n l := ⟨(zcq l).2 fun t ht => (zcq m).1 h.1 t (hs.subset ht), by have := zjc hs; have := h.2; omega⟩
theorem CLn.perm {n : Nat} {l m : List Tr} (h : CLn n m) (hp : l.Perm m) : CLn n l := ⟨(zcq l).2 fun t ht => (zcq m).1 h.1 t (hp.subset ht), by have := zod hp; have := h.2; omega⟩
def zwg (out : List Tr) (x : Tr) : List Tr := if plainT x = false ∨ (out.any fun y => zfc x y) = false then out ++ [x] else out
def zey (l : List Tr) : List Tr := l.foldl zwg []
theorem zql (l : List Tr) (i : Nat) (hi : i < l.length) : zey (l.take (i + 1)) = zwg (zey (l.take i)) l[i] := by
 unfold zey; rw [List.take_succ_eq_append_getElem hi, List.foldl_append]; rfl
theorem zk9 (l : List Tr) : (zey l).Sublist l := by
 suffices ∀ i, i ≤ l.length → (zey (l.take i)).Sublist (l.take i) by have := this l.length (Nat.le_refl _); rwa [List.take_length] at this
 intro i
 induction i with
 | zero => intro _; simp [zey]
 | succ i ih =>
  intro hi
  have := ih (by omega)
  rw [zql l i hi, List.take_succ_eq_append_getElem hi, zwg]
  split
  ·exact this.append (List.Sublist.refl _)
  ·exact this.trans (List.sublist_append_left _ _)
theorem cap1_eq (y x : Tr) (hx : (pre x).length < 2 ^ 61) (hy : (pre y).length < 2 ^ 61) : zq2 y x = some (zfc x y) := by
 unfold zq2; rw [zaz ⟨hx, hy⟩]; rfl
theorem zxy {fuel : Nat} (l : List Tr) (h : CLn 1000 l) (hf : 1001 < fuel) : zhn fuel l = some (orT (zey l)) := by
 have hh := h.2
 have hlen := zag l
 have hd : ∀ i, (zai (zey (l.take i))).length ≤ 1000 ∧ (zey (l.take i)).length ≤ 1000 := fun i => by
  have h1 := zjc (zk9 (l.take i)); have h2 := zjc (List.take_sublist i l)
  have h3 := zag (zey (l.take i)); omega
 have hm : ∀ i, ∀ y ∈ zey (l.take i), y ∈ l := fun i y hy => List.mem_of_mem_take ((zk9 _).subset hy)
 unfold zhn
 refine zc1 (zey l) ?_ (zt ?_ rfl)
 ·refine zfz l.length (fun i => (zey (l.take i), (i : Int))) (by simp [zey]) (fun i hi => ?_) ?_ (by omega)
  ·refine zby (by simpa using hi) ?_
   refine zc1 (zey (l.take (i + 1))) ?_ (zt (by simp only; omega) (by simp))
   have hx := h.mem (x := l[i]) (List.getElem_mem hi)
   have h1 := hx.2
   obtain ⟨d1, d2⟩ := hd i
   refine zt (by simp only; omega) (zaj fun x1 e1 => ?_)
   simp only at e1
   rw [zdz hi] at e1
   subst e1
   rw [zql l i hi, zwg]
   refine zt (by omega) (zaj fun x2 e2 => ?_)
   rw [e2]
   cases x2 with
   | false => rw [if_pos (.inl rfl)]; exact zt (by simp only [List.length_cons, List.length_nil]; omega) rfl
   | true =>
    refine zet ((zey (l.take i)).any fun y => zfc l[i] y) (z8c _ (by simp only; omega) (by simp only; omega) fun y hy => cap1_eq _ _ (by omega) (by have := (h.mem (hm i y hy)).2; omega)) ?_
    cases hq : (zey (l.take i)).any fun y => zfc l[i] y with
    | false => rw [if_pos (.inr rfl)]; exact zt (by simp only [List.length_cons, List.length_nil]; omega) rfl
    | true => rw [if_neg (by simp)]; rfl
  ·exact zbv (by simp) (by simp)
 ·have := hd l.length; rw [List.take_length] at this; omega
def zbw (l : List Tr) : List Tr := l.filter fun x => decide (x.k ≠ 2) && decide (x.k ≠ 1)
def zda (l : List Tr) : BS := l.foldl (fun s x => if x.k = 2 then s ||| x.s else s) 0#256
def za7 (l : List Tr) : Bool := l.any fun x => decide (x.k = 1)
def zsp (s : BS) : List Tr := if s = 0#256 then [] else [.mk 2 s 0 0 []]
def zax (l : List Tr) : List Tr := zbw l ++ zsp (zda l)
def ztj (l : List Tr) : Tr :=
 if za7 l = true then (if (orT (ze0 (zfu (zax l)))).k = 0 then emptyT else zcx (orT (ze0 (zfu (zax l)))) zp6) else orT (ze0 (zfu (zax l)))
def z13 (l : List Tr) : Tr := if (orT l).k ≠ 4 then orT l else if plainT (orT l) = false then orT (zey (orT l).l) else ztj (orT l).l
theorem zlw : ∀ (l : List Tr) (p : Tr), (ze7 p l).Sublist l
 | [], _ => List.Sublist.slnil
 | y :: l, p => by
  unfold ze7
  split
  ·exact (zlw l y).cons y
  ·exact (zlw l y).cons_cons y
theorem zoc : ∀ l : List Tr, (ze0 l).Sublist l
 | [] => List.Sublist.slnil
 | x :: l => (zlw l x).cons_cons x
theorem z38 {s : BS} (h : s ≠ 0#256) : CR (.mk 2 s 0 0 []) := (zbm _).2 ⟨by simp [zct, zg7, h], zcg⟩
theorem zww {l : List Tr} {n : Nat} (h : CLn n l) (hne : l ≠ []) (hn : n ≤ 1000) : CR (orT l) ∧ (pre (orT l)).length ≤ (zai l).length + 1 := by
 have h1 := h.2
 rw [z3k h.1 hne (by omega)]
 exact ⟨ztb (zfg h.1) , by have := zno 4 (zbd 4 l); have := zeu 4 l; omega⟩
theorem zwz (l : List Tr) (i : Nat) (hi : i < l.length) : zbw (l.take (i + 1)) = zbw (l.take i) ++ (if l[i].k = 2 ∨ l[i].k = 1 then [] else [l[i]]) := by
 unfold zbw
 rw [List.take_succ_eq_append_getElem hi, List.filter_append]
 congr 1
 by_cases h2 : l[i].k = 2
 ·simp [h2]
 ·by_cases h1 : l[i].k = 1
  ·simp [h1]
  ·simp [h1, h2]
theorem z05 (l : List Tr) (i : Nat) (hi : i < l.length) : zda (l.take (i + 1)) = if l[i].k = 2 then zda (l.take i) ||| l[i].s else zda (l.take i) := by
 unfold zda
 rw [List.take_succ_eq_append_getElem hi, List.foldl_append]; rfl
theorem z0l (l : List Tr) (i : Nat) (hi : i < l.length) : za7 (l.take (i + 1)) = (za7 (l.take i) || decide (l[i].k = 1)) := by
 unfold za7
 rw [List.take_succ_eq_append_getElem hi, List.any_append]; simp
theorem zqx (l : List Tr) : (zbw l).Sublist l := List.filter_sublist
theorem zx3 : ∀ (l : List Tr) (s : BS), (l.foldl (fun s x => if x.k = 2 then s ||| x.s else s) s) ≠ s → ∃ x ∈ l, x.k = 2
 | [], s, h => absurd rfl h
 | x :: l, s, h => by
  by_cases hk : x.k = 2
  ·exact ⟨x, by simp, hk⟩
  ·rw [List.foldl_cons, if_neg hk] at h
   obtain ⟨y, h1, h2⟩ := zx3 l s h
   exact ⟨y, by simp [h1], h2⟩
theorem zrf : ∀ l : List Tr, (zai (zbw l)).length + (if l.any (fun x => decide (x.k = 2)) = true then 1 else 0) + (if za7 l = true then 1 else 0) ≤ (zai l).length
 | [] => by simp [zbw, za7, zai]
 | x :: l => by
  have ih := zrf l
  have hx := zg8 x
  have hb : ∀ b : Bool, (if b = true then 1 else 0) ≤ 1 := fun b => by cases b <;> simp
  have b1 := hb (l.any fun x => decide (x.k = 2)); have b2 := hb (za7 l)
  by_cases h2 : x.k = 2
  ·have e : zbw (x :: l) = zbw l := by simp [zbw, h2]
   have e2 : ((x :: l).any fun x => decide (x.k = 2)) = true := by simp [h2]
   have e3 : za7 (x :: l) = za7 l := by simp [za7, h2]
   rw [e, e2, e3, if_pos rfl]
   simp only [zai, List.length_append]; omega
  ·by_cases h1 : x.k = 1
   ·have e : zbw (x :: l) = zbw l := by simp [zbw, h1]
    have e2 : ((x :: l).any fun x => decide (x.k = 2)) = l.any fun x => decide (x.k = 2) := by simp [h1]
    have e3 : za7 (x :: l) = true := by simp [za7, h1]
    rw [e, e2, e3, if_pos rfl]
    simp only [zai, List.length_append]; omega
   ·have e : zbw (x :: l) = x :: zbw l := by simp [zbw, h1, h2]
    have e2 : ((x :: l).any fun x => decide (x.k = 2)) = l.any fun x => decide (x.k = 2) := by simp [h2]
    have e3 : za7 (x :: l) = za7 l := by simp [za7, h1]
    rw [e, e2, e3]
    simp only [zai, List.length_append]; omega
theorem zsw {l : List Tr} {n : Nat} (h : CLn n l) : CRL (zax l) ∧ (zai (zax l)).length + (if za7 l = true then 1 else 0) ≤ (zai l).length := by
 have hs := zrf l
 have ho := h.sub (zqx l)
 unfold zax zsp
 split
 ·rw [List.append_nil]; exact ⟨ho.1, by omega⟩
 ·rename_i hb
  obtain ⟨x, hx, hk⟩ := zx3 l 0#256 hb
  have e2 : (l.any fun x => decide (x.k = 2)) = true := List.any_eq_true.2 ⟨x, hx, by simpa using hk⟩
  rw [e2, if_pos rfl] at hs
  refine ⟨(zcn _ _).2 ⟨ho.1, (zap _ _).2 ⟨z38 hb, zcg⟩⟩, ?_⟩
  rw [zbi, List.length_append]
  simp only [zai, pre, List.length_append, List.length_cons, List.length_nil]
  omega
theorem sc_cl {l : List Tr} {n : Nat} (h : CLn n l) : CLn n (ze0 (zfu l)) := (h.perm (zde l)).sub (zoc _)
theorem sc_ne {l : List Tr} (h : l ≠ []) : ze0 (zfu l) ≠ [] := by
 have h1 : 0 < (zfu l).length := by rw [(zde l).length_eq]; exact List.length_pos_iff.2 h
 exact List.length_pos_iff.1 (z5u h1)
theorem z2q {t : Tr} (h : CR t) (hk : t.k = 2) : t.s ≠ 0#256 := by
 have hr := ((zbm t).1 h).1
 cases t with
 | mk k s mn mx l => simp only [Tr.k] at hk; subst hk; rw [zct] at hr; simp at hr; exact hr.2
theorem or_zero {a b : BS} (h : a ||| b = 0#256) : b = 0#256 := by
 apply BitVec.eq_of_getLsbD_eq
 intro j hj
 have := congrArg (fun z => z.getLsbD j) h
 simp only [BitVec.getLsbD_or, BitVec.getLsbD_zero] at this ⊢
 simpa using (Bool.or_eq_false_iff.1 this).2
theorem zyd : ∀ (l : List Tr) (s : BS), (∀ x ∈ l, x.k = 2 → x.s ≠ 0#256) → (∃ x ∈ l, x.k = 2) ∨ s ≠ 0#256 → (l.foldl (fun s x => if x.k = 2 then s ||| x.s else s) s) ≠ 0#256
 | [], s, _, h => by
  rcases h with ⟨x, h, _⟩ | h
  ·cases h
  ·exact h
 | x :: l, s, hs, h => by
  rw [List.foldl_cons]
  refine zyd l _ (fun y hy => hs y (by simp [hy])) ?_
  by_cases hk : x.k = 2
  ·rw [if_pos hk]; exact .inr fun e => hs x (by simp) hk (or_zero e)
  ·rw [if_neg hk]
   rcases h with ⟨y, h1, h2⟩ | h
   ·rcases List.mem_cons.1 h1 with rfl | h1
    ·exact absurd h2 hk
    ·exact .inl ⟨y, h1, h2⟩
   ·exact .inr h
theorem zzl {l : List Tr} (h : CRL l) (hne : l ≠ []) (he : za7 l = false) : zax l ≠ [] := by
 obtain ⟨x, hx⟩ := List.exists_mem_of_ne_nil _ hne
 have h1 : x.k ≠ 1 := fun e => by
  have : za7 l = true := List.any_eq_true.2 ⟨x, hx, by simpa using e⟩
  rw [he] at this; cases this
 intro hp
 obtain ⟨p1, p2⟩ := List.append_eq_nil_iff.1 hp
 by_cases h2 : x.k = 2
 ·have hb : zda l ≠ 0#256 := zyd l _ (fun y hy hk => z2q ((zcq l).1 h y hy) hk) (.inl ⟨x, hx, h2⟩)
  rw [zsp, if_neg hb] at p2; cases p2
 ·have : x ∈ zbw l := List.mem_filter.2 ⟨hx, by simp [h1, h2]⟩
  rw [p1] at this; cases this
theorem zvh : orT [] = noneT := by simp [orT, zgn, zj5]
theorem altP_cs {l : List Tr} (h : CLn 999 l) (hne : l ≠ []) : CR (ztj l) ∧ (pre (ztj l)).length ≤ (zai l).length + 1 := by
 obtain ⟨p1, p2⟩ := zsw h
 have hh := h.2
 unfold ztj
 by_cases hp : zax l = []
 ·have he : za7 l = true := by
   cases he : za7 l with
   | true => rfl
   | false => exact absurd hp (zzl h.1 hne he)
  have e : ze0 (zfu ([] : List Tr)) = [] := by simp [zfu, ze0]
  rw [if_pos he, hp, e, zvh, if_pos (show noneT.k = 0 from rfl)]
  have := zx9 (n := 1) (Nat.le_refl _)
  exact ⟨this.1, by have := this.2; omega⟩
 ·have hc : CLn 999 (zax l) := ⟨p1, by omega⟩
  obtain ⟨q1, q2⟩ := zww (sc_cl hc) (sc_ne hp) (by omega)
  have q3 : (zai (ze0 (zfu (zax l)))).length ≤ (zai (zax l)).length := by
   have a1 := zjc (zoc (zfu (zax l))); have a2 := zod (zde (zax l)); omega
  by_cases he : za7 l = true
  ·rw [if_pos he, if_neg q1.k0]
   rw [if_pos he] at p2
   have := zk8 (b := zp6) q1.cs (by omega) zqk
   exact ⟨this.1, by have := this.2; omega⟩
  ·rw [if_neg he]
   exact ⟨q1, by omega⟩
theorem z7a {l : List Tr} (h : l ≠ []) : zey l ≠ [] := by
 match l, h with
 | x :: l, _ =>
  have key : ∀ (l out : List Tr), out ≠ [] → l.foldl zwg out ≠ [] := by
   intro l
   induction l with
   | nil => intro out h; exact h
   | cons y l ih =>
    intro out h
    rw [List.foldl_cons]
    refine ih _ ?_
    unfold zwg
    split
    ·simp
    ·exact h
  unfold zey
  rw [List.foldl_cons]
  refine key l _ ?_
  unfold zwg
  rw [if_pos (.inr rfl)]; simp
theorem alt_cs {l : List Tr} (h : CLn 998 l) (hne : l ≠ []) : CR (z13 l) ∧ (pre (z13 l)).length ≤ (zai l).length + 1 := by
 obtain ⟨r1, r2⟩ := zww h hne (by omega)
 have hh := h.2
 unfold z13
 split
 ·exact ⟨r1, r2⟩
 rename_i hk
 have hk : (orT l).k = 4 := Decidable.byContradiction hk
 have hp : (pre (orT l)).length = 1 + (zai (orT l).l).length := by rw [zc8, List.length_cons]; omega
 have hc : CLn 999 (orT l).l := ⟨((zbm _).1 r1).2, by omega⟩
 have hl := (zdj ((zbm _).1 r1).1 hk).1
 have hn : (orT l).l ≠ [] := fun e => by rw [e] at hl; cases hl
 split
 ·obtain ⟨q1, q2⟩ := zww (hc.sub (zk9 _)) (z7a hn) (by omega)
  have := zjc (zk9 (orT l).l)
  exact ⟨q1, by omega⟩
 ·obtain ⟨q1, q2⟩ := altP_cs hc hn
  exact ⟨q1, by omega⟩
theorem alt_eq {fuel : Nat} (l : List Tr) (h : CLn 998 l) (hne : l ≠ []) (hf : 1001 < fuel) : zx7 fuel l = some (z13 l) := by
 obtain ⟨r1, r2⟩ := zww h hne (by omega)
 have hh := h.2
 unfold zx7 z13
 refine zt (by omega) (zaj fun x1 e1 => ?_)
 subst e1
 by_cases hk : (orT l).k ≠ 4
 ·rw [if_pos hk]; exact zby (by simp; omega) rfl
 rw [if_neg hk]
 have hk : (orT l).k = 4 := Decidable.byContradiction hk
 have hp : (pre (orT l)).length = 1 + (zai (orT l).l).length := by rw [zc8, List.length_cons]; omega
 have hc : CLn 999 (orT l).l := ⟨((zbm _).1 r1).2, by omega⟩
 have hl := (zdj ((zbm _).1 r1).1 hk).1
 have hn : (orT l).l ≠ [] := fun e => by rw [e] at hl; cases hl
 refine zbv (by simp [hk]) (zt (by omega) (zaj fun x2 e2 => ?_))
 rw [e2]
 cases x2 with
 | false =>
  rw [if_pos rfl]
  exact zby rfl (zet _ (zxy (orT l).l (hc.mono (by omega)) hf) rfl)
 | true =>
  rw [if_neg (by decide)]
  refine zbv rfl ?_
  obtain ⟨m, hm⟩ : ∃ m, m = (orT l).l := ⟨_, rfl⟩
  rw [← hm] at hc hn hp ⊢
  have hlen := zag m
  have hmm := hc.2
  have ho : ∀ i, (zbw (m.take i)).length ≤ 999 := fun i => by
   have h1 := ((zqx (m.take i)).trans (List.take_sublist i m)).length_le; omega
  obtain ⟨p1, p2⟩ := zsw hc
  have hpc : CLn 999 (zax m) := ⟨p1, by omega⟩
  have hpl := zag (zax m)
  refine zc1 (za7 m, zda m, zbw m) ?_ ?_
  ·refine zfz m.length (fun i => (za7 (m.take i), (i : Int), zda (m.take i), zbw (m.take i))) (by simp [za7, zda, zbw]) (fun i hi => ?_) ?_ (by omega)
   ·refine zby (by simpa using hi) ?_
    refine zc1 (za7 (m.take (i + 1)), zda (m.take (i + 1)), zbw (m.take (i + 1))) ?_ (zt (by simp only; omega) (by simp))
    have hoi := ho i
    rw [zwz m i hi, z05 m i hi, z0l m i hi]
    refine zt (by simp only; omega) (zaj fun x4 e4 => ?_)
    simp only at e4
    rw [zdz hi] at e4
    subst e4
    by_cases h2 : m[i].k = 2
    ·refine zby (by simp [h2]) (zaj fun x5 e5 => ?_)
     subst e5
     simp [h2]
    ·refine zbv (by simp; omega) ?_
     by_cases h1 : m[i].k = 1
     ·refine zby (by simp [h1]) ?_
      simp [h1]
     ·refine zbv (by simp; omega) ?_
      simp only [h1, h2, or_self, if_false, decide_false, Bool.or_false]
      refine zum (fun he => zt (by simp) ?_) fun he => zt ?_ rfl
      ·rw [List.isEmpty_iff.1 he]; rfl
      ·have := zep he
       simp only [List.length_cons, List.length_nil] at *
       exact ⟨trivial, this, by omega, by omega⟩
   ·exact zbv (by simp) (by simp)
  ·refine zc1 (zax m) ?_ ?_
   ·refine zaj fun x6 e6 => ?_
    unfold zax zsp
    have hom := ho m.length
    rw [List.take_length] at hom
    by_cases hb : zda m = 0#256
    ·have : x6 = noneT := by rw [← e6]; simp only; rw [ofT, if_pos hb]
     rw [this, if_pos hb, List.append_nil]; rfl
    ·have : x6 = .mk 2 (zda m) 0 0 [] := by rw [← e6]; simp only; rw [ofT, if_neg hb]
     rw [this, if_neg hb]
     refine zby rfl (zum (fun he => zt (by simp) ?_) fun he => zt ?_ rfl)
     ·simp only at he; rw [List.isEmpty_iff.1 he]; rfl
     ·have := zep he
      simp only [List.length_cons, List.length_nil] at *
      exact ⟨trivial, this, by omega, by omega⟩
   ·unfold ztj
    have hfin : ∀ z : Tr, (z.k ≠ 0 → CS 9999 z) → (bif za7 m then (bif (((z.k : Nat) : Int) == 0) then some (Tr.mk 1 0#256 0 0 []) else za3 (zf2 z (Bd.mk 0 1)) (fun x => some x)) else some z) = some (if za7 m = true then (if z.k = 0 then emptyT else zcx z zp6) else z) := by
     intro z hz
     cases za7 m with
     | false => rfl
     | true =>
      by_cases h0 : z.k = 0
      ·rw [show (((z.k : Nat) : Int) == 0) = true by simp [h0]]
       simp [h0]; rfl
      ·rw [show (((z.k : Nat) : Int) == 0) = false by simp; omega]
       rw [show Bd.mk 0 1 = zp6 from rfl, zk1 z zp6 (hz h0)]
       simp [h0]
    refine zum (fun he => ?_) fun he => ?_
    ·have he : zax m = [] := List.isEmpty_iff.1 he
     have e : ze0 (zfu ([] : List Tr)) = [] := by simp [zfu, ze0]
     refine zt (by simp [zai]) (zaj fun x7 e7 => ?_)
     rw [he, e]
     have := hfin x7 (fun h0 => by rw [← e7, zvh] at h0; exact absurd rfl h0)
     rw [e7]
     exact this
    ·have hpos := zep he
     have hne' : zax m ≠ [] := List.length_pos_iff.1 hpos
     have hsl := (zde (zax m)).length_eq
     obtain ⟨q1, q2⟩ := zww (sc_cl hpc) (sc_ne hne') (by omega)
     have hscl := (sc_cl hpc).2
     refine zt ⟨⟨hpos, by omega⟩, fun y hy => (hpc.mem hy).clean (by omega)⟩ (zaj fun x9 e9 => ?_)
     subst e9
     refine zt hsl (zt ⟨⟨by omega, by omega⟩, fun y hy => ?_⟩ (zaj fun x10 e10 => ?_))
     ·have := (hpc.mem ((zde (zax m)).subset hy)).2; omega
     subst e10
     refine zt (by omega) (zaj fun x11 e11 => ?_)
     subst e11
     exact hfin _ fun _ => ⟨q1, by omega⟩
end Go.Ab
