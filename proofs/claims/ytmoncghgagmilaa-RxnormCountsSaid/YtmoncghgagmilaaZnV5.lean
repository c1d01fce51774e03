/-
  rxnorm: plain, nullable, simple as plain functions.
-/
import Derived.Test.YtmoncghgagmilaaZnW6
import Derived.Test.YtmoncghgagmilaaZdQq
import Derived.Test.YtmoncghgagmilaaZnW1
set_option linter.unusedSimpArgs false
set_option linter.unusedVariables false
namespace Go.Ab
open Go Go.RowKit Go.Fwd Go.Proofs
theorem z42 : (pre noneT).length = 1 := by simp [noneT, pre, zam]
theorem copy_eq (t : Tr) (h : (pre t).length < 2 ^ 61) : zyi t = some (z0g t) := by
 unfold zyi z0g
 rw [za2 h, zal]
 cases hl : zcy t with
 | false => rfl
 | true => have := zib.1 hl; show chk _ _ = _; rw [za2 (by omega)]; rfl
theorem k_copy (t : Tr) (h : (pre t).length < 2 ^ 61) : Pure (ITP Try.prog) Try.prog 27 [.agg (Enc.cells t)] (.agg (Enc.cells (z0g t))) := copy_sh t _ (copy_eq t h)
theorem z2k (t : Tr) (h : (pre t).length < 2 ^ 60) : zkn t = some (zke t) := by
 unfold zkn zke
 rw [za2 ⟨h, by rw [z42]; omega⟩, zal]
 cases zjt t noneT with
 | true => rfl
 | false => show chk _ _ = _; rw [za2 (by omega)]; rfl
theorem zje (t : Tr) (h : (pre t).length < 2 ^ 61) : zdr t = some (zd8 t) := by
 unfold zdr zd8
 rw [za2 h, zal]
 cases hl : zbx t with
 | false => rfl
 | true => have := zeh hl; show chk _ _ = _; rw [za2 (by omega)]; rfl
theorem z1f {fuel : Nat} (k w : Nat) (l : List Tr) (hl : (zam l).length ≤ 2 ^ 40) (hf : l.length < fuel) : zmu fuel k w l = some (zg3 k w l) := by
 have hlen := zag l
 unfold zmu
 refine zc8 (zg3 k w l) ?_ rfl
 refine zgy l.length (fun i => (zg3 k w (l.take i), (i : Int))) (by simp [zg3]) (fun i hi => ?_) ?_ hf
 ·have hp := znb l (i + 1)
  have hfl := zjs k w (l.take (i + 1))
  have hlf : (zg3 k w (l.take (i + 1))).length ≤ (zam l).length := by have := zag (zg3 k w (l.take (i + 1))); omega
  have hs : zg3 k w (l.take (i + 1)) = zg3 k w (l.take i) ++ (bif (l[i].k : Int) == k then l[i].l else bif (l[i].k : Int) == w then [] else [l[i]]) := by
   rw [List.take_succ_eq_append_getElem hi, zg3, List.flatMap_append]; simp [zg3]
  refine zby (by simp; omega) ?_
  refine zc8 (zg3 k w (l.take (i + 1))) ?_ ?_
  ·refine zz (by simp only; omega) (zan fun x1 e1 => ?_)
   simp only at e1
   rw [zeg hi] at e1
   rw [← e1, hs]
   rw [hs, List.length_append] at hlf
   cases h1 : (l[i].k : Int) == k with
   | true =>
    rw [h1, cond_true] at hlf
    exact zby rfl (zz (by simp only; omega) rfl)
   | false =>
    rw [h1, cond_false] at hlf
    cases h2 : (l[i].k : Int) == w with
    | true => exact zbw rfl (zby rfl (by simp))
    | false =>
     rw [h2, cond_false] at hlf
     exact zbw rfl (zbw rfl (zz (by simp only; omega) rfl))
  ·refine zz (by simp only; omega) ?_
   simp only; rfl
 ·exact zbw (by simp) (by simp [List.take_length])
theorem zus (k : Nat) (l : List Tr) (z : Tr) (hl : (zam l).length ≤ 2 ^ 41) : zha k l z = some (zkl k l z) := by
 unfold zha zkl
 cases h0 : (l.length : Int) == 0 with
 | true => rfl
 | false =>
  simp only [cond_false]
  cases h1 : (l.length : Int) == 1 with
  | true =>
   cases l with
   | nil => simp at h1
   | cons x l =>
    have hx : (pre x).length ≤ (zam (x :: l)).length := by simp [zam]
    refine zz (by simp) (zan fun x1 e1 => ?_)
    have : x1 = x := by rw [← e1]; rfl
    subst this
    rw [zje _ (by omega)]; rfl
  | false =>
   simp only [cond_false]
   refine zz (by omega) ?_
   rw [Int.toNat_natCast, zje _ (by rw [pre, List.length_cons]; omega)]; rfl
theorem zzi {l : List Tr} {x : Tr} (h : x ∈ l) : (pre x).length ≤ (zam l).length := zez h
theorem z1c {ρ : Type} (q : Tr → Bool) (y : ρ) (l : List Tr) {body : Int → Option (Int ⊕ (Unit ⊕ ρ))} (hb : ∀ i (hi : i < l.length), body (i : Int) = some (if q l[i] = true then .inr (.inr y) else .inl ((i + 1 : Nat) : Int))) (he : body (l.length : Int) = some (.inr (.inl ()))) :
 ∀ (k i n : Nat), i + k = l.length → k < n → zcl body n (i : Int) = some (if (l.drop i).any q = true then .inr y else .inl ()) := by
 intro k
 induction k with
 | zero =>
  intro i n hi hn
  match n, hn with
  | n + 1, _ =>
   have : i = l.length := by omega
   subst this
   rw [zcl, he, List.drop_length]; rfl
 | succ k ih =>
  intro i n hi hn
  match n, hn with
  | n + 1, hn =>
   have hil : i < l.length := by omega
   rw [zcl, hb i hil, List.drop_eq_getElem_cons hil, List.any_cons]
   by_cases hq : q l[i] = true
   ·simp [hq]
   ·rw [if_neg hq]
    simp only
    rw [ih (i + 1) n (by omega) (by omega)]
    simp [hq]
theorem seq_eqF {fuel : Nat} (l : List Tr) (hl : (zam l).length ≤ 2 ^ 40) (hf : l.length < fuel) : z68 fuel l = some (zhi l) := by
 have hlen := zag l
 have hfl := zjs 3 1 l
 unfold z68 zhi
 rw [show (0 : Int) = ((0 : Nat) : Int) from rfl, z1c (fun x => (x.k : Int) == 0 || !zbx x) noneT l (fun i hi => ?_) ?_ l.length 0 fuel (by omega) hf, List.drop_zero]
 ·cases l.any (fun x => (x.k : Int) == 0 || !zbx x) with
  | true => rfl
  | false =>
   show zau (zmu fuel ((3 : Nat) : Int) ((1 : Nat) : Int) l) _ = _
   rw [z1f 3 1 l hl hf, bindE_some]
   show zau (zha ((3 : Nat) : Int) _ _) _ = _
   rw [zus 3 _ _ (by omega)]; rfl
 ·exact zbw (by simp) rfl
 ·skip
  have hx := zzi (List.getElem_mem hi)
  refine zby (by simp; omega) (zz (by omega) (zan fun x1 e1 => ?_))
  rw [zeg hi] at e1
  subst e1
  cases h1 : (l[i].k : Int) == 0 with
  | true => exact zby rfl (by simp)
  | false =>
   refine zbw rfl (zz (by omega) (zan fun x2 e2 => ?_))
   subst e2
   cases h2 : zbx l[i] with
   | true => exact zbw rfl (zz (by omega) (by simp))
   | false => exact zby rfl (by simp)
theorem or_eqF {fuel : Nat} (l : List Tr) (hl : (zam l).length ≤ 2 ^ 40) (hf : l.length < fuel) : F_or fuel l = some (orT l) := by
 have hlen := zag l
 have hfl := zjs 4 0 l
 unfold F_or orT
 rw [show (0 : Int) = ((0 : Nat) : Int) from rfl, z1c (fun x => !zke x) noneT l (fun i hi => ?_) ?_ l.length 0 fuel (by omega) hf, List.drop_zero]
 ·cases l.any (fun x => !zke x) with
  | true => rfl
  | false =>
   show zau (zmu fuel ((4 : Nat) : Int) ((0 : Nat) : Int) l) _ = _
   rw [z1f 4 0 l hl hf, bindE_some]
   show zau (zha ((4 : Nat) : Int) _ _) _ = _
   rw [zus 4 _ _ (by omega)]; rfl
 ·exact zbw (by simp) rfl
 ·skip
  have hx := zzi (List.getElem_mem hi)
  refine zby (by simp; omega) (zz (by omega) (zan fun x1 e1 => ?_))
  rw [zeg hi] at e1
  subst e1
  refine zdl (zke l[i]) (z2k _ (by omega)) ?_
  cases h2 : zke l[i] with
  | true => exact zbw rfl (zz (by omega) (by simp))
  | false => exact zby rfl (by simp)
theorem z2i (l : List Tr) (h : (zam l).length ≤ 2 ^ 40) : Pure (ITP Try.prog) Try.prog 15 [.list l.length (Enc.cellsL l) .none] (.agg (Enc.cells (zhi l))) := seq_sh (l.length + 1) l _ (seq_eqF l h (by omega))
theorem k_or (l : List Tr) (h : (zam l).length ≤ 2 ^ 40) : Pure (ITP Try.prog) Try.prog 10 [.list l.length (Enc.cellsL l) .none] (.agg (Enc.cells (orT l))) := or_sh (l.length + 1) l _ (or_eqF l h (by omega))
theorem z0r (t : Tr) (h : (pre t).length < 2 ^ 60) : zk3 t = some (zfu t) := by
 unfold zk3 zfu
 rw [zje _ (by rw [zgq]; omega)]; rfl
theorem z4a (t : Tr) (h : (pre t).length < 2 ^ 60) : Pure (ITP Try.prog) Try.prog 13 [.agg (Enc.cells t)] (.agg (Enc.cells (zfu t))) := zz8 t _ (z0r t h)
theorem z4r (t : Tr) (lo hi : Int) (h : (pre t).length < 2 ^ 40) : zr3 t lo hi = some (zbd t lo hi) := by
 have e1 := z2k t (by omega)
 have e2 := zqr lo hi
 have e3 : zdr (Tr.mk 5 0#256 lo hi [t]) = some (zd8 (Tr.mk 5 0#256 lo hi [t])) := zje _ (by rw [zgq]; omega)
 unfold zr3 zbd
 simp only [e1, e2, e3, bindE_some]
 have hE : emptyT = Tr.mk 1 0#256 0 0 [] := rfl
 rw [← hE]
 simp only [za2 h, zal]
 generalize zke t = G
 generalize zbl lo hi = B
 generalize zd8 (Tr.mk 5 0#256 lo hi [t]) = X
 generalize (lo == 0) = a
 generalize (lo == 1) = b
 generalize (hi == 0) = c
 generalize (hi == 1) = d
 generalize ((t.k : Int) == 0) = e
 generalize ((t.k : Int) == 1) = f
 generalize decide (lo > 0) = p
 generalize noneT = N
 generalize emptyT = M
 cases a <;> cases b <;> cases c <;> cases d <;> cases e <;> cases f <;> cases p <;> cases G <;> cases B <;> rfl
theorem zdu (t : Tr) (lo hi : Int) (h : (pre t).length < 2 ^ 40) : Pure (ITP Try.prog) Try.prog 17 [.agg (Enc.cells t), .raw (.int .i64 lo), .raw (.int .i64 hi)] (.agg (Enc.cells (zbd t lo hi))) := z6k t lo hi _ (z4r t lo hi h)
theorem rxof_eq (s : BS) : zx5 s = some (ofT s) := by
 unfold zx5 ofT
 by_cases h : s = 0#256 <;> simp [h]
theorem k_of (s : BS) : Pure (ITP Try.prog) Try.prog 60 [.agg (Enc.cells s)] (.agg (Enc.cells (ofT s))) := rxof_sh s _ (rxof_eq s)
end Go.Ab
set_option linter.unusedSimpArgs false
set_option linter.unusedVariables false
set_option maxRecDepth 100000
set_option maxHeartbeats 4000000
namespace Go.Ab
open Go Go.RowKit Go.Fwd Go.Proofs
mutual
def zaz : Tr → Bool
 | .mk k s mn mx l => bif (k : Int) == 1 then true else bif (k : Int) == 2 then false else bif (k : Int) == 4 then zr2 l else bif (k : Int) == 5 then mn == 0 || z4w l else zrr l
def zr2 : List Tr → Bool
 | [] => false
 | x :: l => zaz x || zr2 l
def zrr : List Tr → Bool
 | [] => true
 | x :: l => zaz x && zrr l
def z4w : List Tr → Bool
 | [] => false
 | x :: _ => zaz x
end
def plainT (t : Tr) : Bool := (pre t).all fun x => !decide (x.k = 6)
def zbk (b : Bd) : Bool := decide (b = Bd.mk 0 1) || decide (b = Bd.mk 0 (-1)) || decide (b = Bd.mk 1 (-1))
def crT (t : Tr) : Bool := (pre t).all zcq
def q1 (f : Tr → Bool) (n : Nat) (x : Tr) : Option Bool := if (pre x).length < n ∧ crT x = true then some (f x) else none
theorem q1_some {f : Tr → Bool} {n : Nat} {x : Tr} {z : Bool} (h : q1 f n x = some z) : ((pre x).length < n ∧ crT x = true) ∧ z = f x := by
 unfold q1 at h
 split at h
 ·rename_i h1; exact ⟨h1, (Option.some.inj h).symm⟩
 ·cases h
def zxd (n : Nat) (x : Tr) : Option Bool :=
 (chk ((pre x).length < n) (zal (plainT x) (fun x1 => (some (!x1)))))
theorem ent41 : Ent Try.prog 41 := enters_of Try.func41 (by kernel_rfl) rfl
theorem pl1_sh (n : Nat) (x : Tr) (r : Bool) (ih : ∀ x : Tr, (pre x).length < n → Pure (ITP Try.prog) Try.prog 26 [.A x] (.raw (.bool (plainT x)))) (h : zxd n x = some r) : Pure (ITP Try.prog) Try.prog 41 [.A (x : Tr)] (.raw (.bool r)) := by
 unfold zxd at h
 refine zax 5 mix Try.func41 ent41 ?_
 refine ze (zd ?_)
 refine zbj (a := .ptr 0 0) (σ'' := (.B [(30, (Enc.cells (x : Tr)))])) ?_
 refine w_o (a := .b false) ?_
 refine zr [.v (.A (x : Tr))] ?_
 obtain ⟨g1, h⟩ := zh h
 obtain ⟨x1, hx1, h⟩ := zj h
 refine zbq (args' := [.A (x : Tr)]) (r := .b x1) (by rw [← hx1]; exact (ih x g1)) ?_
 refine w_r [.v (.b (!x1)), .m _] ?_
 exact zas h
def zn2 (fuel : Nat) (n : Nat) (t : Tr) : Option Bool :=
 (bif (((t.k : Nat) : Int) != 6) then (zau (zwr fuel (fun x => zxd n x) t.l) (fun x1 => (some (!x1)))) else (some false))
theorem ent26 : Ent Try.prog 26 := enters_of Try.func26 (by kernel_rfl) rfl
theorem z2s (fuel : Nat) (n : Nat) (t : Tr) (r : Bool) (ih : ∀ x : Tr, (pre x).length < n → Pure (ITP Try.prog) Try.prog 26 [.A x] (.raw (.bool (plainT x)))) (h : zn2 fuel n t = some r) : Pure (ITP Try.prog) Try.prog 26 [.A (t : Tr)] (.raw (.bool r)) := by
 unfold zn2 at h
 refine zax 11 mix Try.func26 ent26 ?_
 refine ze (zd ?_)
 refine zbj (a := .ptr 0 0) (σ'' := (.B [(30, (Enc.cells (t : Tr)))])) ?_
 refine w_o (a := .b false) ?_
 refine zr [.v (.ptr 0 0), .v (.u ((t.k : Nat) : Int)), .v (.b (((t.k : Nat) : Int) != 6))] ?_
 refine zu h (fun hc1 h => ?_) (fun hc1 h => ?_)
 refine zaw hc1 ?_
 refine w_r [.v (.ptr 0 7), .v (.L (t.l : List Tr))] ?_
 refine zab rfl rfl ?_
 obtain ⟨x1, hx1, h⟩ := zw h
 refine zb3 (args' := [.L (t.l : List Tr), .clos 41 []]) (r := .b x1) (z3o fuel (fun x => zxd n x) t.l x1 41 (fun x y h => pl1_sh n x y ih h) hx1) rfl rfl (zf (zer (Enc.cloL _)) (zf (show AV.clos _ (stripL _) = _ from congrArg (AV.clos _) rfl) rfl)) (zb (zar (Enc.cloL _)) (zb (show z7 _ _ = true from rfl) rfl)) (by dsimp only [zp, List.set]) ?_
 refine w_r [.v (.b (!x1)), .v (.b (!x1)), .m _] ?_
 exact zas h
 refine zaw hc1 ?_
 refine w_r [.p, .p, .p, .p, .v (.b false)] ?_
 refine w_r [.m _] ?_
 exact zas h
def zxr (n : Nat) (x : Tr) : Option Bool :=
 (chk (((pre x).length < n ∧ crT x = true)) (zal (zaz x) (fun x1 => (some (!x1)))))
theorem ent47 : Ent Try.prog 47 := enters_of Try.func47 (by kernel_rfl) rfl
theorem nu1_sh (n : Nat) (x : Tr) (r : Bool) (ih : ∀ x : Tr, ((pre x).length < n ∧ crT x = true) → Pure (ITP Try.prog) Try.prog 35 [.A x] (.raw (.bool (zaz x)))) (h : zxr n x = some r) : Pure (ITP Try.prog) Try.prog 47 [.A (x : Tr)] (.raw (.bool r)) := by
 unfold zxr at h
 refine zax 5 mix Try.func47 ent47 ?_
 refine ze (zd ?_)
 refine zbj (a := .ptr 0 0) (σ'' := (.B [(30, (Enc.cells (x : Tr)))])) ?_
 refine w_o (a := .b false) ?_
 refine zr [.v (.A (x : Tr))] ?_
 obtain ⟨g1, h⟩ := zh h
 obtain ⟨x1, hx1, h⟩ := zj h
 refine zbq (args' := [.A (x : Tr)]) (r := .b x1) (by rw [← hx1]; exact (ih x g1)) ?_
 refine w_r [.v (.b (!x1)), .m _] ?_
 exact zas h
def zr7 (fuel : Nat) (n : Nat) (t : Tr) : Option Bool :=
 (bif (((t.k : Nat) : Int) == 1) then (some true) else (bif (((t.k : Nat) : Int) == 2) then (some false) else (bif (((t.k : Nat) : Int) == 4) then (zau (zwr fuel (q1 zaz n) t.l) (fun x1 => (some x1))) else (bif (((t.k : Nat) : Int) == 5) then (bif (t.mn == 0) then (some true) else (chk (0 ≤ (0 : Int) ∧ (0 : Int) < (List.length t.l : Int)) (zal (ix t.l (0 : Int)) (fun x2 => (chk (((pre x2).length < n ∧ crT x2 = true)) (zal (zaz x2) (fun x3 => (some x3)))))))) else (zau (zwr fuel (fun x => zxr n x) t.l) (fun x4 => (some (!x4))))))))
theorem ent35 : Ent Try.prog 35 := enters_of Try.func35 (by kernel_rfl) rfl
theorem z6l (fuel : Nat) (n : Nat) (t : Tr) (r : Bool) (ih : ∀ x : Tr, ((pre x).length < n ∧ crT x = true) → Pure (ITP Try.prog) Try.prog 35 [.A x] (.raw (.bool (zaz x)))) (h : zr7 fuel n t = some r) : Pure (ITP Try.prog) Try.prog 35 [.A (t : Tr)] (.raw (.bool r)) := by
 unfold zr7 at h
 refine zax 29 mix Try.func35 ent35 ?_
 refine ze (zd ?_)
 refine zbj (a := .ptr 0 0) (σ'' := (.B [(30, (Enc.cells (t : Tr)))])) ?_
 refine w_o (a := .b false) ?_
 refine ze ?_
 refine zr [.v (.ptr 0 0), .v (.u ((t.k : Nat) : Int))] ?_
 refine zt ?_
 refine zr [.v (.b (((t.k : Nat) : Int) == 1)), .m _] ?_
 refine zbv h (fun hc1 h => ?_) (fun hc1 h => ?_)
 refine zr [.v (.b true)] ?_
 exact zas h
 refine zr [.v (.b (((t.k : Nat) : Int) == 2)), .m _] ?_
 refine zbv h (fun hc2 h => ?_) (fun hc2 h => ?_)
 refine zr [.v (.b false)] ?_
 exact zas h
 refine zr [.v (.b (((t.k : Nat) : Int) == 4)), .m _] ?_
 refine zbv h (fun hc3 h => ?_) (fun hc3 h => ?_)
 refine zr [.v (.ptr 0 7), .v (.L (t.l : List Tr))] ?_
 obtain ⟨x1, hx1, h⟩ := zw h
 refine zb3 (args' := [.L (t.l : List Tr), .clos 35 []]) (r := .b x1) (z3o fuel (q1 zaz n) t.l x1 35 (fun x y h => by obtain ⟨h1, rfl⟩ := q1_some h; exact ih x h1) hx1) rfl rfl (zf (zer (Enc.cloL _)) (zf (show AV.clos _ (stripL _) = _ from congrArg (AV.clos _) rfl) rfl)) (zb (zar (Enc.cloL _)) (zb (show z7 _ _ = true from rfl) rfl)) (by dsimp only [zp, List.set]) ?_
 refine zad ?_
 exact zas h
 refine zr [.v (.b (((t.k : Nat) : Int) == 5)), .m _] ?_
 refine zbv h (fun hc4 h => ?_) (fun hc4 h => ?_)
 refine zr [.v (.ptr 0 5), .v (.i t.mn), .v (.b (t.mn == 0))] ?_
 refine zu h (fun hc5 h => ?_) (fun hc5 h => ?_)
 refine zaw hc5 ?_
 refine w_r [.p, .p, .p, .p, .p] ?_
 refine w_r [.v (.b true), .m _] ?_
 exact zas h
 refine zaw hc5 ?_
 refine w_r [.v (.ptr 0 7), .v (.L (t.l : List Tr))] ?_
 refine zab rfl rfl ?_
 obtain ⟨g1, h⟩ := zh h
 obtain ⟨x2, hx2, h⟩ := zj h
 refine zwf hx2 g1 ?_
 refine zab rfl rfl ?_
 refine w_o (a := .A (x2 : Tr)) ?_
 refine zab rfl rfl ?_
 obtain ⟨g2, h⟩ := zh h
 obtain ⟨x3, hx3, h⟩ := zj h
 refine zbq (args' := [.A (x2 : Tr)]) (r := .b x3) (by rw [← hx3]; exact (ih x2 g2)) ?_
 refine w_r [.v (.b x3), .m _] ?_
 exact zas h
 refine zr [.v (.ptr 0 7), .v (.L (t.l : List Tr))] ?_
 obtain ⟨x4, hx4, h⟩ := zw h
 refine zb3 (args' := [.L (t.l : List Tr), .clos 47 []]) (r := .b x4) (z3o fuel (fun x => zxr n x) t.l x4 47 (fun x y h => nu1_sh n x y ih h) hx4) rfl rfl (zf (zer (Enc.cloL _)) (zf (show AV.clos _ (stripL _) = _ from congrArg (AV.clos _) rfl) rfl)) (zb (zar (Enc.cloL _)) (zb (show z7 _ _ = true from rfl) rfl)) (by dsimp only [zp, List.set]) ?_
 refine w_r [.v (.b (!x4)), .m _] ?_
 exact zas h
def ztd (b : Bd) : Option Bool :=
 (bif (decide (b = (Bd.mk 0 1))) then (some true) else (bif (decide (b = (Bd.mk 0 (-1)))) then (some true) else (some (decide (b = (Bd.mk 1 (-1)))))))
theorem ent53 : Ent Try.prog 53 := enters_of Try.func53 (by kernel_rfl) rfl
theorem z3v (b : Bd) (r : Bool) (h : ztd b = some r) : Pure (ITP Try.prog) Try.prog 53 [.A (b : Bd)] (.raw (.bool r)) := by
 unfold ztd at h
 refine zax 15 mix Try.func53 ent53 ?_
 refine ze (zd ?_)
 refine zbj (a := .ptr 0 0) (σ'' := (.B [(62, (Enc.cells (b : Bd)))])) ?_
 refine w_o (a := .b false) ?_
 refine ze ?_
 refine zck (k0 := 0) (id := 1) 11 (by kernel_rfl) (by kernel_rfl) ?_
 refine h_o (a := .A (b : Bd)) ?_
 refine zfd (zyx _ rfl) ?_
 refine ztt (.b (decide (b = (Bd.mk 0 1)))) rfl rfl rfl (ze9 b (Bd.mk 0 1) rfl rfl rfl) (by dsimp only [zp, List.set]) ?_
 refine zu h (fun hc1 h => ?_) (fun hc1 h => ?_)
 refine h_o (a := .b true) (h := zak rfl hc1) ?_
 refine zaj ?_
 refine zaj ?_
 refine zaj ?_
 refine h_o (a := .b true) ?_
 refine zd1 ?_
 refine zaj ?_
 refine zaj ?_
 refine zb7 ?_
 refine w_r [.p, .v (.b true), .m _] ?_
 exact zas h
 refine h_o (a := .b false) (h := zak rfl hc1) ?_
 refine zah rfl rfl ?_
 refine h_o (a := .A (b : Bd)) ?_
 refine zah rfl rfl ?_
 refine zfd (zif _ rfl) ?_
 refine zah rfl rfl ?_
 refine ztt (.b (decide (b = (Bd.mk 0 (-1))))) rfl rfl rfl (ze9 b (Bd.mk 0 (-1)) rfl rfl rfl) (by dsimp only [zp, List.set]) ?_
 refine h_o (a := .b (decide (b = (Bd.mk 0 (-1))))) ?_
 refine zu h (fun hc2 h => ?_) (fun hc2 h => ?_)
 refine h_o (a := .b true) (h := zak rfl hc2) ?_
 refine zaj ?_
 refine zaj ?_
 refine zb7 ?_
 refine w_r [.p, .v (.b true), .m _] ?_
 exact zas h
 refine h_o (a := .b false) (h := zak rfl hc2) ?_
 refine zah rfl rfl ?_
 refine h_o (a := .A (b : Bd)) ?_
 refine zah rfl rfl ?_
 refine zfd (zie _ rfl) ?_
 refine zb7 ?_
 refine zab rfl rfl ?_
 refine zj5 (.b (decide (b = (Bd.mk 1 (-1))))) rfl rfl rfl (ze9 b (Bd.mk 1 (-1)) rfl rfl rfl) (by dsimp only [zp, List.set]) ?_
 refine w_r [.v (.b (decide (b = (Bd.mk 1 (-1))))), .m _] ?_
 exact zas h
end Go.Ab
set_option linter.unusedSimpArgs false
set_option linter.unusedVariables false
namespace Go.Ab
open Go Go.RowKit Go.Fwd Go.Proofs
theorem zyj (q : Tr → Bool) : ∀ l : List Tr, (zam l).all q = l.all fun x => (pre x).all q
 | [] => by simp [zam]
 | x :: l => by rw [zam, List.all_append, zyj q l, List.all_cons]
theorem ze4 (t : Tr) : plainT t = (!decide (t.k = 6) && !(t.l.any fun x => !plainT x)) := by
 unfold plainT
 rw [zcw, List.all_cons, zyj]
 congr 1
 rw [List.not_any_eq_all_not]; simp
theorem pl1_eq {n : Nat} {x : Tr} (h : (pre x).length < n) : zxd n x = some (!plainT x) := by
 unfold zxd; rw [za2 h]; rfl
theorem z12 (n : Nat) (t : Tr) (h : (pre t).length < n + 1) (hn : n < 2 ^ 60) : zn2 (n + 1) n t = some (plainT t) := by
 have hlen := zpf t
 have hp : (pre t).length = 1 + (zam t.l).length := by rw [zcw, List.length_cons]; omega
 have e := zyy (fuel := n + 1) (p := fun x => zxd n x) (fun x => !plainT x) (l := t.l) (by omega) (by omega) (fun x hx => pl1_eq (by have := zez hx; omega))
 unfold zn2
 rw [e, ze4]
 by_cases hk : t.k = 6
 ·rw [hk]; simp
 ·rw [show (((t.k : Nat) : Int) != 6) = true by simp; omega]; simp [hk]
theorem zu7 : ∀ (n : Nat) (t : Tr), (pre t).length < n → n ≤ 2 ^ 60 → Pure (ITP Try.prog) Try.prog 26 [.agg (Enc.cells t)] (.raw (.bool (plainT t)))
 | 0, t, h, _ => absurd h (Nat.not_lt_zero _)
 | n + 1, t, h, hn => z2s (n + 1) n t _ (fun x hx => zu7 n x hx (by omega)) (z12 n t h (by omega))
theorem zl2 (t : Tr) (h : (pre t).length < 2 ^ 60) : Pure (ITP Try.prog) Try.prog 26 [.agg (Enc.cells t)] (.raw (.bool (plainT t))) := zu7 (2 ^ 60) t h (Nat.le_refl _)
theorem zp8 : ∀ l : List Tr, zr2 l = l.any zaz
 | [] => rfl
 | x :: l => by rw [zr2, zp8 l, List.any_cons]
theorem zql : ∀ l : List Tr, zrr l = l.all zaz
 | [] => rfl
 | x :: l => by rw [zrr, zql l, List.all_cons]
theorem znu (t : Tr) : zaz t = (bif (t.k : Int) == 1 then true else bif (t.k : Int) == 2 then false else bif (t.k : Int) == 4 then t.l.any zaz else bif (t.k : Int) == 5 then t.mn == 0 || z4w t.l else t.l.all zaz) := by
 obtain ⟨k, s, mn, mx, l⟩ := t
 rw [zaz, zp8, zql]; rfl
theorem z2z {t x : Tr} (h : crT t = true) (hx : x ∈ t.l) : crT x = true := by
 have h1 := (zbc t).1 h
 exact ((zcu t.l).1 h1.2) x hx
theorem zw4 {t : Tr} (h : crT t = true) (hk : t.k = 5) : t.l.length = 1 := by
 have h1 := ((zbc t).1 h).1
 rw [zcq, hk] at h1
 simp at h1
 omega
theorem nu1_eq {n : Nat} {x : Tr} (h : (pre x).length < n) (hc : crT x = true) : zxr n x = some (!zaz x) := by
 unfold zxr; rw [za2 ⟨h, hc⟩]; rfl
theorem q1_eq {n : Nat} {x : Tr} (h : (pre x).length < n) (hc : crT x = true) : q1 zaz n x = some (zaz x) := by
 unfold q1; rw [if_pos ⟨h, hc⟩]
theorem z5n (n : Nat) (t : Tr) (h : (pre t).length < n + 1) (hc : crT t = true) (hn : n < 2 ^ 60) : zr7 (n + 1) n t = some (zaz t) := by
 have hlen := zpf t
 have hp : (pre t).length = 1 + (zam t.l).length := by rw [zcw, List.length_cons]; omega
 have e1 := zyy (fuel := n + 1) (p := fun x => zxr n x) (fun x => !zaz x) (l := t.l) (by omega) (by omega) (fun x hx => nu1_eq (by have := zez hx; omega) (z2z hc hx))
 have e2 := zyy (fuel := n + 1) (p := q1 zaz n) zaz (l := t.l) (by omega) (by omega) (fun x hx => q1_eq (by have := zez hx; omega) (z2z hc hx))
 unfold zr7
 rw [znu, e1, e2]
 by_cases k1 : t.k = 1
 ·rw [k1]; rfl
 ·by_cases k2 : t.k = 2
  ·rw [k2]; rfl
  ·by_cases k4 : t.k = 4
   ·rw [k4]; rfl
   ·by_cases k5 : t.k = 5
    ·have h1 := zw4 hc k5
     rw [k5]
     show (bif t.mn == 0 then some true else _) = some (t.mn == 0 || z4w t.l)
     cases t.mn == 0 with
     | true => rfl
     | false =>
      show chk _ _ = _
      rw [za2 (by omega), zal]
      cases hl : t.l with
      | nil => rw [hl] at h1; cases h1
      | cons x l =>
       have hx : x ∈ t.l := by rw [hl]; simp
       have := zez hx
       show chk ((pre x).length < n ∧ crT x = true) _ = _
       rw [za2 ⟨by omega, z2z hc hx⟩]; rfl
    ·rw [show (((t.k : Nat) : Int) == 1) = false by simp; omega, show (((t.k : Nat) : Int) == 2) = false by simp; omega, show (((t.k : Nat) : Int) == 4) = false by simp; omega, show (((t.k : Nat) : Int) == 5) = false by simp; omega]
     show some (!t.l.any fun x => !zaz x) = some (t.l.all zaz)
     rw [List.not_any_eq_all_not]; simp
theorem zyp : ∀ (n : Nat) (t : Tr), ((pre t).length < n ∧ crT t = true) → n ≤ 2 ^ 60 → Pure (ITP Try.prog) Try.prog 35 [.agg (Enc.cells t)] (.raw (.bool (zaz t)))
 | 0, t, h, _ => absurd h.1 (Nat.not_lt_zero _)
 | n + 1, t, h, hn => z6l (n + 1) n t _ (fun x hx => zyp n x hx (by omega)) (z5n n t h.1 h.2 (by omega))
theorem zm5 (t : Tr) (h : (pre t).length < 2 ^ 60 ∧ crT t = true) : Pure (ITP Try.prog) Try.prog 35 [.agg (Enc.cells t)] (.raw (.bool (zaz t))) := zyp (2 ^ 60) t h (Nat.le_refl _)
theorem zn3 (b : Bd) : Pure (ITP Try.prog) Try.prog 53 [.agg (Enc.cells b)] (.raw (.bool (zbk b))) := by
 refine z3v b _ ?_
 unfold ztd zbk
 cases decide (b = Bd.mk 0 1) <;> cases decide (b = Bd.mk 0 (-1)) <;> rfl
end Go.Ab
