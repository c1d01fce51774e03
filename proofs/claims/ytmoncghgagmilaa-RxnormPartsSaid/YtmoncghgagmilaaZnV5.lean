/-
  rxnorm: plain, nullable, simple as plain functions.
-/
import Derived.Test.YtmoncghgagmilaaZnW6
import Derived.Test.YtmoncghgagmilaaZdQq
import Derived.Test.YtmoncghgagmilaaZnW1
set_option linter.unusedSimpArgs false
set_option linter.unusedVariables false
namespace Go.Ab
open Go Go.RowKit Go.Fwd Go.Proofs
theorem z2q : (pre noneT).length = 1 := by simp [noneT, pre, zal]
theorem copy_eq (t : Tr) (h : (pre t).length < 2 ^ 61) : zxj t = some (zz4 t) := by
 unfold zxj zz4
 rw [zat h, zag]
 cases hl : zb4 t with
 | false => rfl
 | true => have := zhk.1 hl; show chk _ _ = _; rw [zat (by omega)]; rfl
theorem k_copy (t : Tr) (h : (pre t).length < 2 ^ 61) : Pure (ITP Try.prog) Try.prog 27 [.agg (Enc.cells t)] (.agg (Enc.cells (zz4 t))) := copy_sh t _ (copy_eq t h)
theorem z0r (t : Tr) (h : (pre t).length < 2 ^ 60) : zlb t = some (zjt t) := by
 unfold zlb zjt
 rw [zat ⟨h, by rw [z2q]; omega⟩, zag]
 cases zja t noneT with
 | true => rfl
 | false => show chk _ _ = _; rw [zat (by omega)]; rfl
theorem zi5 (t : Tr) (h : (pre t).length < 2 ^ 61) : zdf t = some (zdt t) := by
 unfold zdf zdt
 rw [zat h, zag]
 cases hl : zbg t with
 | false => rfl
 | true => have := zd5 hl; show chk _ _ = _; rw [zat (by omega)]; rfl
theorem z2g {fuel : Nat} (k w : Nat) (l : List Tr) (hl : (zal l).length ≤ 2 ^ 40) (hf : l.length < fuel) : zmd fuel k w l = some (zge k w l) := by
 have hlen := zad l
 unfold zmd
 refine zc9 (zge k w l) ?_ rfl
 refine zgy l.length (fun i => (zge k w (l.take i), (i : Int))) (by simp [zge]) (fun i hi => ?_) ?_ hf
 ·have hp := zml l (i + 1)
  have hfl := zi2 k w (l.take (i + 1))
  have hlf : (zge k w (l.take (i + 1))).length ≤ (zal l).length := by have := zad (zge k w (l.take (i + 1))); omega
  have hs : zge k w (l.take (i + 1)) = zge k w (l.take i) ++ (bif (l[i].k : Int) == k then l[i].l else bif (l[i].k : Int) == w then [] else [l[i]]) := by
   rw [List.take_succ_eq_append_getElem hi, zge, List.flatMap_append]; simp [zge]
  refine zbn (by simp; omega) ?_
  refine zc9 (zge k w (l.take (i + 1))) ?_ ?_
  ·refine zr (by simp only; omega) (z7 fun x1 e1 => ?_)
   simp only at e1
   rw [zeg hi] at e1
   rw [← e1, hs]
   rw [hs, List.length_append] at hlf
   cases h1 : (l[i].k : Int) == k with
   | true =>
    rw [h1, cond_true] at hlf
    exact zbn rfl (zr (by simp only; omega) rfl)
   | false =>
    rw [h1, cond_false] at hlf
    cases h2 : (l[i].k : Int) == w with
    | true => exact zbo rfl (zbn rfl (by simp))
    | false =>
     rw [h2, cond_false] at hlf
     exact zbo rfl (zbo rfl (zr (by simp only; omega) rfl))
  ·refine zr (by simp only; omega) ?_
   simp only; rfl
 ·exact zbo (by simp) (by simp [List.take_length])
theorem zui (k : Nat) (l : List Tr) (z : Tr) (hl : (zal l).length ≤ 2 ^ 41) : zgo k l z = some (zj1 k l z) := by
 unfold zgo zj1
 cases h0 : (l.length : Int) == 0 with
 | true => rfl
 | false =>
  simp only [cond_false]
  cases h1 : (l.length : Int) == 1 with
  | true =>
   cases l with
   | nil => simp at h1
   | cons x l =>
    have hx : (pre x).length ≤ (zal (x :: l)).length := by simp [zal]
    refine zr (by simp) (z7 fun x1 e1 => ?_)
    have : x1 = x := by rw [← e1]; rfl
    subst this
    rw [zi5 _ (by omega)]; rfl
  | false =>
   simp only [cond_false]
   refine zr (by omega) ?_
   rw [Int.toNat_natCast, zi5 _ (by rw [pre, List.length_cons]; omega)]; rfl
theorem zxh {l : List Tr} {x : Tr} (h : x ∈ l) : (pre x).length ≤ (zal l).length := zel h
theorem z2b {ρ : Type} (q : Tr → Bool) (y : ρ) (l : List Tr) {body : Int → Option (Int ⊕ (Unit ⊕ ρ))} (hb : ∀ i (hi : i < l.length), body (i : Int) = some (if q l[i] = true then .inr (.inr y) else .inl ((i + 1 : Nat) : Int))) (he : body (l.length : Int) = some (.inr (.inl ()))) :
 ∀ (k i n : Nat), i + k = l.length → k < n → zb6 body n (i : Int) = some (if (l.drop i).any q = true then .inr y else .inl ()) := by
 intro k
 induction k with
 | zero =>
  intro i n hi hn
  match n, hn with
  | n + 1, _ =>
   have : i = l.length := by omega
   subst this
   rw [zb6, he, List.drop_length]; rfl
 | succ k ih =>
  intro i n hi hn
  match n, hn with
  | n + 1, hn =>
   have hil : i < l.length := by omega
   rw [zb6, hb i hil, List.drop_eq_getElem_cons hil, List.any_cons]
   by_cases hq : q l[i] = true
   ·simp [hq]
   ·rw [if_neg hq]
    simp only
    rw [ih (i + 1) n (by omega) (by omega)]
    simp [hq]
theorem seq_eqF {fuel : Nat} (l : List Tr) (hl : (zal l).length ≤ 2 ^ 40) (hf : l.length < fuel) : z44 fuel l = some (zm8 l) := by
 have hlen := zad l
 have hfl := zi2 3 1 l
 unfold z44 zm8
 rw [show (0 : Int) = ((0 : Nat) : Int) from rfl, z2b (fun x => (x.k : Int) == 0 || !zbg x) noneT l (fun i hi => ?_) ?_ l.length 0 fuel (by omega) hf, List.drop_zero]
 ·cases l.any (fun x => (x.k : Int) == 0 || !zbg x) with
  | true => rfl
  | false =>
   show zax (zmd fuel ((3 : Nat) : Int) ((1 : Nat) : Int) l) _ = _
   rw [z2g 3 1 l hl hf, bindE_some]
   show zax (zgo ((3 : Nat) : Int) _ _) _ = _
   rw [zui 3 _ _ (by omega)]; rfl
 ·exact zbo (by simp) rfl
 ·skip
  have hx := zxh (List.getElem_mem hi)
  refine zbn (by simp; omega) (zr (by omega) (z7 fun x1 e1 => ?_))
  rw [zeg hi] at e1
  subst e1
  cases h1 : (l[i].k : Int) == 0 with
  | true => exact zbn rfl (by simp)
  | false =>
   refine zbo rfl (zr (by omega) (z7 fun x2 e2 => ?_))
   subst e2
   cases h2 : zbg l[i] with
   | true => exact zbo rfl (zr (by omega) (by simp))
   | false => exact zbn rfl (by simp)
theorem or_eqF {fuel : Nat} (l : List Tr) (hl : (zal l).length ≤ 2 ^ 40) (hf : l.length < fuel) : F_or fuel l = some (orT l) := by
 have hlen := zad l
 have hfl := zi2 4 0 l
 unfold F_or orT
 rw [show (0 : Int) = ((0 : Nat) : Int) from rfl, z2b (fun x => !zjt x) noneT l (fun i hi => ?_) ?_ l.length 0 fuel (by omega) hf, List.drop_zero]
 ·cases l.any (fun x => !zjt x) with
  | true => rfl
  | false =>
   show zax (zmd fuel ((4 : Nat) : Int) ((0 : Nat) : Int) l) _ = _
   rw [z2g 4 0 l hl hf, bindE_some]
   show zax (zgo ((4 : Nat) : Int) _ _) _ = _
   rw [zui 4 _ _ (by omega)]; rfl
 ·exact zbo (by simp) rfl
 ·skip
  have hx := zxh (List.getElem_mem hi)
  refine zbn (by simp; omega) (zr (by omega) (z7 fun x1 e1 => ?_))
  rw [zeg hi] at e1
  subst e1
  refine zei (zjt l[i]) (z0r _ (by omega)) ?_
  cases h2 : zjt l[i] with
  | true => exact zbo rfl (zr (by omega) (by simp))
  | false => exact zbn rfl (by simp)
theorem z5i (l : List Tr) (h : (zal l).length ≤ 2 ^ 40) : Pure (ITP Try.prog) Try.prog 15 [.list l.length (Enc.cellsL l) .none] (.agg (Enc.cells (zm8 l))) := seq_sh (l.length + 1) l _ (seq_eqF l h (by omega))
theorem k_or (l : List Tr) (h : (zal l).length ≤ 2 ^ 40) : Pure (ITP Try.prog) Try.prog 10 [.list l.length (Enc.cellsL l) .none] (.agg (Enc.cells (orT l))) := or_sh (l.length + 1) l _ (or_eqF l h (by omega))
theorem zzk (t : Tr) (h : (pre t).length < 2 ^ 60) : zj5 t = some (zcr t) := by
 unfold zj5 zcr
 rw [zi5 _ (by rw [zgj]; omega)]; rfl
theorem zf7 (t : Tr) (h : (pre t).length < 2 ^ 60) : Pure (ITP Try.prog) Try.prog 13 [.agg (Enc.cells t)] (.agg (Enc.cells (zcr t))) := zzc t _ (zzk t h)
theorem z1v (t : Tr) (lo hi : Int) (h : (pre t).length < 2 ^ 40) : zsi t lo hi = some (zb8 t lo hi) := by
 have e1 := z0r t (by omega)
 have e2 := zpr lo hi
 have e3 : zdf (Tr.mk 5 0#256 lo hi [t]) = some (zdt (Tr.mk 5 0#256 lo hi [t])) := zi5 _ (by rw [zgj]; omega)
 unfold zsi zb8
 simp only [e1, e2, e3, bindE_some]
 have hE : emptyT = Tr.mk 1 0#256 0 0 [] := rfl
 rw [← hE]
 simp only [zat h, zag]
 generalize zjt t = G
 generalize zb7 lo hi = B
 generalize zdt (Tr.mk 5 0#256 lo hi [t]) = X
 generalize (lo == 0) = a
 generalize (lo == 1) = b
 generalize (hi == 0) = c
 generalize (hi == 1) = d
 generalize ((t.k : Int) == 0) = e
 generalize ((t.k : Int) == 1) = f
 generalize decide (lo > 0) = p
 generalize noneT = N
 generalize emptyT = M
 cases a <;> cases b <;> cases c <;> cases d <;> cases e <;> cases f <;> cases p <;> cases G <;> cases B <;> rfl
theorem zhu (t : Tr) (lo hi : Int) (h : (pre t).length < 2 ^ 40) : Pure (ITP Try.prog) Try.prog 17 [.agg (Enc.cells t), .raw (.int .i64 lo), .raw (.int .i64 hi)] (.agg (Enc.cells (zb8 t lo hi))) := z5f t lo hi _ (z1v t lo hi h)
theorem rxof_eq (s : BS) : zy0 s = some (ofT s) := by
 unfold zy0 ofT
 by_cases h : s = 0#256 <;> simp [h]
theorem k_of (s : BS) : Pure (ITP Try.prog) Try.prog 60 [.agg (Enc.cells s)] (.agg (Enc.cells (ofT s))) := rxof_sh s _ (rxof_eq s)
end Go.Ab
set_option linter.unusedSimpArgs false
set_option linter.unusedVariables false
set_option maxRecDepth 100000
set_option maxHeartbeats 4000000
namespace Go.Ab
open Go Go.RowKit Go.Fwd Go.Proofs
mutual
def nullT : Tr → Bool
 | .mk k s mn mx l => bif (k : Int) == 1 then true else bif (k : Int) == 2 then false else bif (k : Int) == 4 then zsd l else bif (k : Int) == 5 then mn == 0 || z1p l else zrm l
def zsd : List Tr → Bool
 | [] => false
 | x :: l => nullT x || zsd l
def zrm : List Tr → Bool
 | [] => true
 | x :: l => nullT x && zrm l
def z1p : List Tr → Bool
 | [] => false
 | x :: _ => nullT x
end
def zcz (t : Tr) : Bool := (pre t).all fun x => !decide (x.k = 6)
def zdj (b : Bd) : Bool := decide (b = Bd.mk 0 1) || decide (b = Bd.mk 0 (-1)) || decide (b = Bd.mk 1 (-1))
def crT (t : Tr) : Bool := (pre t).all zcm
def q1 (f : Tr → Bool) (n : Nat) (x : Tr) : Option Bool := if (pre x).length < n ∧ crT x = true then some (f x) else none
theorem q1_some {f : Tr → Bool} {n : Nat} {x : Tr} {z : Bool} (h : q1 f n x = some z) : ((pre x).length < n ∧ crT x = true) ∧ z = f x := by
 unfold q1 at h
 split at h
 ·rename_i h1; exact ⟨h1, (Option.some.inj h).symm⟩
 ·cases h
def zvs (n : Nat) (x : Tr) : Option Bool :=
 (chk ((pre x).length < n) (zag (zcz x) (fun x1 => (some (!x1)))))
theorem ent41 : Ent Try.prog 41 := enters_of Try.func41 (by kernel_rfl) rfl
theorem pl1_sh (n : Nat) (x : Tr) (r : Bool) (ih : ∀ x : Tr, (pre x).length < n → Pure (ITP Try.prog) Try.prog 26 [.A x] (.raw (.bool (zcz x)))) (h : zvs n x = some r) : Pure (ITP Try.prog) Try.prog 41 [.A (x : Tr)] (.raw (.bool r)) := by
 unfold zvs at h
 refine zaq 5 mix Try.func41 ent41 ?_
 refine ze (zd ?_)
 refine za6 (a := .ptr 0 0) (σ'' := (.B [(30, (Enc.cells (x : Tr)))])) ?_
 refine w_o (a := .b false) ?_
 refine zv [.v (.A (x : Tr))] ?_
 obtain ⟨g1, h⟩ := zh h
 obtain ⟨x1, hx1, h⟩ := zj h
 refine zbc (args' := [.A (x : Tr)]) (r := .b x1) (by rw [← hx1]; exact (ih x g1)) ?_
 refine w_r [.v (.b (!x1)), .m _] ?_
 exact zas h
def znl (fuel : Nat) (n : Nat) (t : Tr) : Option Bool :=
 (bif (((t.k : Nat) : Int) != 6) then (zax (zwk fuel (fun x => zvs n x) t.l) (fun x1 => (some (!x1)))) else (some false))
theorem ent26 : Ent Try.prog 26 := enters_of Try.func26 (by kernel_rfl) rfl
theorem z1i (fuel : Nat) (n : Nat) (t : Tr) (r : Bool) (ih : ∀ x : Tr, (pre x).length < n → Pure (ITP Try.prog) Try.prog 26 [.A x] (.raw (.bool (zcz x)))) (h : znl fuel n t = some r) : Pure (ITP Try.prog) Try.prog 26 [.A (t : Tr)] (.raw (.bool r)) := by
 unfold znl at h
 refine zaq 11 mix Try.func26 ent26 ?_
 refine ze (zd ?_)
 refine za6 (a := .ptr 0 0) (σ'' := (.B [(30, (Enc.cells (t : Tr)))])) ?_
 refine w_o (a := .b false) ?_
 refine zv [.v (.ptr 0 0), .v (.u ((t.k : Nat) : Int)), .v (.b (((t.k : Nat) : Int) != 6))] ?_
 refine zu h (fun hc1 h => ?_) (fun hc1 h => ?_)
 refine zam hc1 ?_
 refine w_r [.v (.ptr 0 7), .v (.L (t.l : List Tr))] ?_
 refine z1 rfl rfl ?_
 obtain ⟨x1, hx1, h⟩ := z6 h
 refine zbq (args' := [.L (t.l : List Tr), .clos 41 []]) (r := .b x1) (z2r fuel (fun x => zvs n x) t.l x1 41 (fun x y h => pl1_sh n x y ih h) hx1) rfl rfl (zg (zea (Enc.cloL _)) (zg (show AV.clos _ (stripL _) = _ from congrArg (AV.clos _) rfl) rfl)) (zb (zaj (Enc.cloL _)) (zb (show zz _ _ = true from rfl) rfl)) (by dsimp only [zo, List.set]) ?_
 refine w_r [.v (.b (!x1)), .v (.b (!x1)), .m _] ?_
 exact zas h
 refine zam hc1 ?_
 refine w_r [.p, .p, .p, .p, .v (.b false)] ?_
 refine w_r [.m _] ?_
 exact zas h
def zxa (n : Nat) (x : Tr) : Option Bool :=
 (chk (((pre x).length < n ∧ crT x = true)) (zag (nullT x) (fun x1 => (some (!x1)))))
theorem ent47 : Ent Try.prog 47 := enters_of Try.func47 (by kernel_rfl) rfl
theorem nu1_sh (n : Nat) (x : Tr) (r : Bool) (ih : ∀ x : Tr, ((pre x).length < n ∧ crT x = true) → Pure (ITP Try.prog) Try.prog 35 [.A x] (.raw (.bool (nullT x)))) (h : zxa n x = some r) : Pure (ITP Try.prog) Try.prog 47 [.A (x : Tr)] (.raw (.bool r)) := by
 unfold zxa at h
 refine zaq 5 mix Try.func47 ent47 ?_
 refine ze (zd ?_)
 refine za6 (a := .ptr 0 0) (σ'' := (.B [(30, (Enc.cells (x : Tr)))])) ?_
 refine w_o (a := .b false) ?_
 refine zv [.v (.A (x : Tr))] ?_
 obtain ⟨g1, h⟩ := zh h
 obtain ⟨x1, hx1, h⟩ := zj h
 refine zbc (args' := [.A (x : Tr)]) (r := .b x1) (by rw [← hx1]; exact (ih x g1)) ?_
 refine w_r [.v (.b (!x1)), .m _] ?_
 exact zas h
def zq0 (fuel : Nat) (n : Nat) (t : Tr) : Option Bool :=
 (bif (((t.k : Nat) : Int) == 1) then (some true) else (bif (((t.k : Nat) : Int) == 2) then (some false) else (bif (((t.k : Nat) : Int) == 4) then (zax (zwk fuel (q1 nullT n) t.l) (fun x1 => (some x1))) else (bif (((t.k : Nat) : Int) == 5) then (bif (t.mn == 0) then (some true) else (chk (0 ≤ (0 : Int) ∧ (0 : Int) < (List.length t.l : Int)) (zag (ix t.l (0 : Int)) (fun x2 => (chk (((pre x2).length < n ∧ crT x2 = true)) (zag (nullT x2) (fun x3 => (some x3)))))))) else (zax (zwk fuel (fun x => zxa n x) t.l) (fun x4 => (some (!x4))))))))
theorem ent35 : Ent Try.prog 35 := enters_of Try.func35 (by kernel_rfl) rfl
theorem z4w (fuel : Nat) (n : Nat) (t : Tr) (r : Bool) (ih : ∀ x : Tr, ((pre x).length < n ∧ crT x = true) → Pure (ITP Try.prog) Try.prog 35 [.A x] (.raw (.bool (nullT x)))) (h : zq0 fuel n t = some r) : Pure (ITP Try.prog) Try.prog 35 [.A (t : Tr)] (.raw (.bool r)) := by
 unfold zq0 at h
 refine zaq 29 mix Try.func35 ent35 ?_
 refine ze (zd ?_)
 refine za6 (a := .ptr 0 0) (σ'' := (.B [(30, (Enc.cells (t : Tr)))])) ?_
 refine w_o (a := .b false) ?_
 refine ze ?_
 refine zv [.v (.ptr 0 0), .v (.u ((t.k : Nat) : Int))] ?_
 refine zt ?_
 refine zv [.v (.b (((t.k : Nat) : Int) == 1)), .m _] ?_
 refine zbm h (fun hc1 h => ?_) (fun hc1 h => ?_)
 refine zv [.v (.b true)] ?_
 exact zas h
 refine zv [.v (.b (((t.k : Nat) : Int) == 2)), .m _] ?_
 refine zbm h (fun hc2 h => ?_) (fun hc2 h => ?_)
 refine zv [.v (.b false)] ?_
 exact zas h
 refine zv [.v (.b (((t.k : Nat) : Int) == 4)), .m _] ?_
 refine zbm h (fun hc3 h => ?_) (fun hc3 h => ?_)
 refine zv [.v (.ptr 0 7), .v (.L (t.l : List Tr))] ?_
 obtain ⟨x1, hx1, h⟩ := z6 h
 refine zbq (args' := [.L (t.l : List Tr), .clos 35 []]) (r := .b x1) (z2r fuel (q1 nullT n) t.l x1 35 (fun x y h => by obtain ⟨h1, rfl⟩ := q1_some h; exact ih x h1) hx1) rfl rfl (zg (zea (Enc.cloL _)) (zg (show AV.clos _ (stripL _) = _ from congrArg (AV.clos _) rfl) rfl)) (zb (zaj (Enc.cloL _)) (zb (show zz _ _ = true from rfl) rfl)) (by dsimp only [zo, List.set]) ?_
 refine z8 ?_
 exact zas h
 refine zv [.v (.b (((t.k : Nat) : Int) == 5)), .m _] ?_
 refine zbm h (fun hc4 h => ?_) (fun hc4 h => ?_)
 refine zv [.v (.ptr 0 5), .v (.i t.mn), .v (.b (t.mn == 0))] ?_
 refine zu h (fun hc5 h => ?_) (fun hc5 h => ?_)
 refine zam hc5 ?_
 refine w_r [.p, .p, .p, .p, .p] ?_
 refine w_r [.v (.b true), .m _] ?_
 exact zas h
 refine zam hc5 ?_
 refine w_r [.v (.ptr 0 7), .v (.L (t.l : List Tr))] ?_
 refine z1 rfl rfl ?_
 obtain ⟨g1, h⟩ := zh h
 obtain ⟨x2, hx2, h⟩ := zj h
 refine zyl hx2 g1 ?_
 refine z1 rfl rfl ?_
 refine w_o (a := .A (x2 : Tr)) ?_
 refine z1 rfl rfl ?_
 obtain ⟨g2, h⟩ := zh h
 obtain ⟨x3, hx3, h⟩ := zj h
 refine zbc (args' := [.A (x2 : Tr)]) (r := .b x3) (by rw [← hx3]; exact (ih x2 g2)) ?_
 refine w_r [.v (.b x3), .m _] ?_
 exact zas h
 refine zv [.v (.ptr 0 7), .v (.L (t.l : List Tr))] ?_
 obtain ⟨x4, hx4, h⟩ := z6 h
 refine zbq (args' := [.L (t.l : List Tr), .clos 47 []]) (r := .b x4) (z2r fuel (fun x => zxa n x) t.l x4 47 (fun x y h => nu1_sh n x y ih h) hx4) rfl rfl (zg (zea (Enc.cloL _)) (zg (show AV.clos _ (stripL _) = _ from congrArg (AV.clos _) rfl) rfl)) (zb (zaj (Enc.cloL _)) (zb (show zz _ _ = true from rfl) rfl)) (by dsimp only [zo, List.set]) ?_
 refine w_r [.v (.b (!x4)), .m _] ?_
 exact zas h
def zq2 (b : Bd) : Option Bool :=
 (bif (decide (b = (Bd.mk 0 1))) then (some true) else (bif (decide (b = (Bd.mk 0 (-1)))) then (some true) else (some (decide (b = (Bd.mk 1 (-1)))))))
theorem ent53 : Ent Try.prog 53 := enters_of Try.func53 (by kernel_rfl) rfl
theorem z3v (b : Bd) (r : Bool) (h : zq2 b = some r) : Pure (ITP Try.prog) Try.prog 53 [.A (b : Bd)] (.raw (.bool r)) := by
 unfold zq2 at h
 refine zaq 15 mix Try.func53 ent53 ?_
 refine ze (zd ?_)
 refine za6 (a := .ptr 0 0) (σ'' := (.B [(62, (Enc.cells (b : Bd)))])) ?_
 refine w_o (a := .b false) ?_
 refine ze ?_
 refine zcf (k0 := 0) (id := 1) 11 (by kernel_rfl) (by kernel_rfl) ?_
 refine h_o (a := .A (b : Bd)) ?_
 refine zh1 (zxd _ rfl) ?_
 refine zut (.b (decide (b = (Bd.mk 0 1)))) rfl rfl rfl (zeu b (Bd.mk 0 1) rfl rfl rfl) (by dsimp only [zo, List.set]) ?_
 refine zu h (fun hc1 h => ?_) (fun hc1 h => ?_)
 refine h_o (a := .b true) (h := zap rfl hc1) ?_
 refine zbt ?_
 refine zbt ?_
 refine zbt ?_
 refine h_o (a := .b true) ?_
 refine zep ?_
 refine zbt ?_
 refine zbt ?_
 refine zck ?_
 refine w_r [.p, .v (.b true), .m _] ?_
 exact zas h
 refine h_o (a := .b false) (h := zap rfl hc1) ?_
 refine zbj rfl rfl ?_
 refine h_o (a := .A (b : Bd)) ?_
 refine zbj rfl rfl ?_
 refine zh1 (zhl _ rfl) ?_
 refine zbj rfl rfl ?_
 refine zut (.b (decide (b = (Bd.mk 0 (-1))))) rfl rfl rfl (zeu b (Bd.mk 0 (-1)) rfl rfl rfl) (by dsimp only [zo, List.set]) ?_
 refine h_o (a := .b (decide (b = (Bd.mk 0 (-1))))) ?_
 refine zu h (fun hc2 h => ?_) (fun hc2 h => ?_)
 refine h_o (a := .b true) (h := zap rfl hc2) ?_
 refine zbt ?_
 refine zbt ?_
 refine zck ?_
 refine w_r [.p, .v (.b true), .m _] ?_
 exact zas h
 refine h_o (a := .b false) (h := zap rfl hc2) ?_
 refine zbj rfl rfl ?_
 refine h_o (a := .A (b : Bd)) ?_
 refine zbj rfl rfl ?_
 refine zh1 (zhq _ rfl) ?_
 refine zck ?_
 refine z1 rfl rfl ?_
 refine zjv (.b (decide (b = (Bd.mk 1 (-1))))) rfl rfl rfl (zeu b (Bd.mk 1 (-1)) rfl rfl rfl) (by dsimp only [zo, List.set]) ?_
 refine w_r [.v (.b (decide (b = (Bd.mk 1 (-1))))), .m _] ?_
 exact zas h
end Go.Ab
set_option linter.unusedSimpArgs false
set_option linter.unusedVariables false
namespace Go.Ab
open Go Go.RowKit Go.Fwd Go.Proofs
theorem zx7 (q : Tr → Bool) : ∀ l : List Tr, (zal l).all q = l.all fun x => (pre x).all q
 | [] => by simp [zal]
 | x :: l => by rw [zal, List.all_append, zx7 q l, List.all_cons]
theorem znz (t : Tr) : zcz t = (!decide (t.k = 6) && !(t.l.any fun x => !zcz x)) := by
 unfold zcz
 rw [zc0, List.all_cons, zx7]
 congr 1
 rw [List.not_any_eq_all_not]; simp
theorem pl1_eq {n : Nat} {x : Tr} (h : (pre x).length < n) : zvs n x = some (!zcz x) := by
 unfold zvs; rw [zat h]; rfl
theorem z15 (n : Nat) (t : Tr) (h : (pre t).length < n + 1) (hn : n < 2 ^ 60) : znl (n + 1) n t = some (zcz t) := by
 have hlen := zon t
 have hp : (pre t).length = 1 + (zal t.l).length := by rw [zc0, List.length_cons]; omega
 have e := zx0 (fuel := n + 1) (p := fun x => zvs n x) (fun x => !zcz x) (l := t.l) (by omega) (by omega) (fun x hx => pl1_eq (by have := zel hx; omega))
 unfold znl
 rw [e, znz]
 by_cases hk : t.k = 6
 ·rw [hk]; simp
 ·rw [show (((t.k : Nat) : Int) != 6) = true by simp; omega]; simp [hk]
theorem zue : ∀ (n : Nat) (t : Tr), (pre t).length < n → n ≤ 2 ^ 60 → Pure (ITP Try.prog) Try.prog 26 [.agg (Enc.cells t)] (.raw (.bool (zcz t)))
 | 0, t, h, _ => absurd h (Nat.not_lt_zero _)
 | n + 1, t, h, hn => z1i (n + 1) n t _ (fun x hx => zue n x hx (by omega)) (z15 n t h (by omega))
theorem zlv (t : Tr) (h : (pre t).length < 2 ^ 60) : Pure (ITP Try.prog) Try.prog 26 [.agg (Enc.cells t)] (.raw (.bool (zcz t))) := zue (2 ^ 60) t h (Nat.le_refl _)
theorem zqr : ∀ l : List Tr, zsd l = l.any nullT
 | [] => rfl
 | x :: l => by rw [zsd, zqr l, List.any_cons]
theorem zqt : ∀ l : List Tr, zrm l = l.all nullT
 | [] => rfl
 | x :: l => by rw [zrm, zqt l, List.all_cons]
theorem zgp (t : Tr) : nullT t = (bif (t.k : Int) == 1 then true else bif (t.k : Int) == 2 then false else bif (t.k : Int) == 4 then t.l.any nullT else bif (t.k : Int) == 5 then t.mn == 0 || z1p t.l else t.l.all nullT) := by
 obtain ⟨k, s, mn, mx, l⟩ := t
 rw [nullT, zqr, zqt]; rfl
theorem z3w {t x : Tr} (h : crT t = true) (hx : x ∈ t.l) : crT x = true := by
 have h1 := (za7 t).1 h
 exact ((zc7 t.l).1 h1.2) x hx
theorem zxc {t : Tr} (h : crT t = true) (hk : t.k = 5) : t.l.length = 1 := by
 have h1 := ((za7 t).1 h).1
 rw [zcm, hk] at h1
 simp at h1
 omega
theorem nu1_eq {n : Nat} {x : Tr} (h : (pre x).length < n) (hc : crT x = true) : zxa n x = some (!nullT x) := by
 unfold zxa; rw [zat ⟨h, hc⟩]; rfl
theorem q1_eq {n : Nat} {x : Tr} (h : (pre x).length < n) (hc : crT x = true) : q1 nullT n x = some (nullT x) := by
 unfold q1; rw [if_pos ⟨h, hc⟩]
theorem z6e (n : Nat) (t : Tr) (h : (pre t).length < n + 1) (hc : crT t = true) (hn : n < 2 ^ 60) : zq0 (n + 1) n t = some (nullT t) := by
 have hlen := zon t
 have hp : (pre t).length = 1 + (zal t.l).length := by rw [zc0, List.length_cons]; omega
 have e1 := zx0 (fuel := n + 1) (p := fun x => zxa n x) (fun x => !nullT x) (l := t.l) (by omega) (by omega) (fun x hx => nu1_eq (by have := zel hx; omega) (z3w hc hx))
 have e2 := zx0 (fuel := n + 1) (p := q1 nullT n) nullT (l := t.l) (by omega) (by omega) (fun x hx => q1_eq (by have := zel hx; omega) (z3w hc hx))
 unfold zq0
 rw [zgp, e1, e2]
 by_cases k1 : t.k = 1
 ·rw [k1]; rfl
 ·by_cases k2 : t.k = 2
  ·rw [k2]; rfl
  ·by_cases k4 : t.k = 4
   ·rw [k4]; rfl
   ·by_cases k5 : t.k = 5
    ·have h1 := zxc hc k5
     rw [k5]
     show (bif t.mn == 0 then some true else _) = some (t.mn == 0 || z1p t.l)
     cases t.mn == 0 with
     | true => rfl
     | false =>
      show chk _ _ = _
      rw [zat (by omega), zag]
      cases hl : t.l with
      | nil => rw [hl] at h1; cases h1
      | cons x l =>
       have hx : x ∈ t.l := by rw [hl]; simp
       have := zel hx
       show chk ((pre x).length < n ∧ crT x = true) _ = _
       rw [zat ⟨by omega, z3w hc hx⟩]; rfl
    ·rw [show (((t.k : Nat) : Int) == 1) = false by simp; omega, show (((t.k : Nat) : Int) == 2) = false by simp; omega, show (((t.k : Nat) : Int) == 4) = false by simp; omega, show (((t.k : Nat) : Int) == 5) = false by simp; omega]
     show some (!t.l.any fun x => !nullT x) = some (t.l.all nullT)
     rw [List.not_any_eq_all_not]; simp
theorem zys : ∀ (n : Nat) (t : Tr), ((pre t).length < n ∧ crT t = true) → n ≤ 2 ^ 60 → Pure (ITP Try.prog) Try.prog 35 [.agg (Enc.cells t)] (.raw (.bool (nullT t)))
 | 0, t, h, _ => absurd h.1 (Nat.not_lt_zero _)
 | n + 1, t, h, hn => z4w (n + 1) n t _ (fun x hx => zys n x hx (by omega)) (z6e n t h.1 h.2 (by omega))
theorem zms (t : Tr) (h : (pre t).length < 2 ^ 60 ∧ crT t = true) : Pure (ITP Try.prog) Try.prog 35 [.agg (Enc.cells t)] (.raw (.bool (nullT t))) := zys (2 ^ 60) t h (Nat.le_refl _)
theorem zni (b : Bd) : Pure (ITP Try.prog) Try.prog 53 [.agg (Enc.cells b)] (.raw (.bool (zdj b))) := by
 refine z3v b _ ?_
 unfold zq2 zdj
 cases decide (b = Bd.mk 0 1) <;> cases decide (b = Bd.mk 0 (-1)) <;> rfl
end Go.Ab
