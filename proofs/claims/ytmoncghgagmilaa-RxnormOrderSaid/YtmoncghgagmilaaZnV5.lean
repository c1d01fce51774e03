/-
  rxnorm: plain, nullable, simple as plain functions.
-/
import Derived.Test.YtmoncghgagmilaaZnW6
import Derived.Test.YtmoncghgagmilaaZdQr
set_option linter.unusedSimpArgs false
set_option linter.unusedVariables false
namespace Go.Ab
open Go Go.RowKit Go.Fwd Go.Proofs
theorem z2r : (pre noneT).length = 1 := by simp [noneT, pre, zai]
theorem copy_eq (t : Tr) (h : (pre t).length < 2 ^ 61) : zyn t = some (z00 t) := by
 unfold zyn z00
 rw [zaz h, zan]
 cases hl : zcl t with
 | false => rfl
 | true => have := zhw.1 hl; show chk _ _ = _; rw [zaz (by omega)]; rfl
theorem k_copy (t : Tr) (h : (pre t).length < 2 ^ 61) : Pure (ITP Try.prog) Try.prog 27 [.agg (Enc.cells t)] (.agg (Enc.cells (z00 t))) := copy_sh t _ (copy_eq t h)
theorem z3x (t : Tr) (h : (pre t).length < 2 ^ 60) : zkt t = some (zjz t) := by
 unfold zkt zjz
 rw [zaz ⟨h, by rw [z2r]; omega⟩, zan]
 cases zim t noneT with
 | true => rfl
 | false => show chk _ _ = _; rw [zaz (by omega)]; rfl
theorem zjl (t : Tr) (h : (pre t).length < 2 ^ 61) : zdn t = some (zd8 t) := by
 unfold zdn zd8
 rw [zaz h, zan]
 cases hl : zbj t with
 | false => rfl
 | true => have := zej hl; show chk _ _ = _; rw [zaz (by omega)]; rfl
theorem z4s {fuel : Nat} (k w : Nat) (l : List Tr) (hl : (zai l).length ≤ 2 ^ 40) (hf : l.length < fuel) : zmy fuel k w l = some (zgn k w l) := by
 have hlen := zag l
 unfold zmy
 refine zc1 (zgn k w l) ?_ rfl
 refine zfz l.length (fun i => (zgn k w (l.take i), (i : Int))) (by simp [zgn]) (fun i hi => ?_) ?_ hf
 ·have hp := zm4 l (i + 1)
  have hfl := zjk k w (l.take (i + 1))
  have hlf : (zgn k w (l.take (i + 1))).length ≤ (zai l).length := by have := zag (zgn k w (l.take (i + 1))); omega
  have hs : zgn k w (l.take (i + 1)) = zgn k w (l.take i) ++ (bif (l[i].k : Int) == k then l[i].l else bif (l[i].k : Int) == w then [] else [l[i]]) := by
   rw [List.take_succ_eq_append_getElem hi, zgn, List.flatMap_append]; simp [zgn]
  refine zby (by simp; omega) ?_
  refine zc1 (zgn k w (l.take (i + 1))) ?_ ?_
  ·refine zt (by simp only; omega) (zaj fun x1 e1 => ?_)
   simp only at e1
   rw [zdz hi] at e1
   rw [← e1, hs]
   rw [hs, List.length_append] at hlf
   cases h1 : (l[i].k : Int) == k with
   | true =>
    rw [h1, cond_true] at hlf
    exact zby rfl (zt (by simp only; omega) rfl)
   | false =>
    rw [h1, cond_false] at hlf
    cases h2 : (l[i].k : Int) == w with
    | true => exact zbv rfl (zby rfl (by simp))
    | false =>
     rw [h2, cond_false] at hlf
     exact zbv rfl (zbv rfl (zt (by simp only; omega) rfl))
  ·refine zt (by simp only; omega) ?_
   simp only; rfl
 ·exact zbv (by simp) (by simp [List.take_length])
theorem zvy (k : Nat) (l : List Tr) (z : Tr) (hl : (zai l).length ≤ 2 ^ 41) : zgx k l z = some (zj5 k l z) := by
 unfold zgx zj5
 cases h0 : (l.length : Int) == 0 with
 | true => rfl
 | false =>
  simp only [cond_false]
  cases h1 : (l.length : Int) == 1 with
  | true =>
   cases l with
   | nil => simp at h1
   | cons x l =>
    have hx : (pre x).length ≤ (zai (x :: l)).length := by simp [zai]
    refine zt (by simp) (zaj fun x1 e1 => ?_)
    have : x1 = x := by rw [← e1]; rfl
    subst this
    rw [zjl _ (by omega)]; rfl
  | false =>
   simp only [cond_false]
   refine zt (by omega) ?_
   rw [Int.toNat_natCast, zjl _ (by rw [pre, List.length_cons]; omega)]; rfl
theorem zy2 {l : List Tr} {x : Tr} (h : x ∈ l) : (pre x).length ≤ (zai l).length := zev h
theorem z3v {ρ : Type} (q : Tr → Bool) (y : ρ) (l : List Tr) {body : Int → Option (Int ⊕ (Unit ⊕ ρ))} (hb : ∀ i (hi : i < l.length), body (i : Int) = some (if q l[i] = true then .inr (.inr y) else .inl ((i + 1 : Nat) : Int))) (he : body (l.length : Int) = some (.inr (.inl ()))) :
 ∀ (k i n : Nat), i + k = l.length → k < n → zch body n (i : Int) = some (if (l.drop i).any q = true then .inr y else .inl ()) := by
 intro k
 induction k with
 | zero =>
  intro i n hi hn
  match n, hn with
  | n + 1, _ =>
   have : i = l.length := by omega
   subst this
   rw [zch, he, List.drop_length]; rfl
 | succ k ih =>
  intro i n hi hn
  match n, hn with
  | n + 1, hn =>
   have hil : i < l.length := by omega
   rw [zch, hb i hil, List.drop_eq_getElem_cons hil, List.any_cons]
   by_cases hq : q l[i] = true
   ·simp [hq]
   ·rw [if_neg hq]
    simp only
    rw [ih (i + 1) n (by omega) (by omega)]
    simp [hq]
theorem seq_eqF {fuel : Nat} (l : List Tr) (hl : (zai l).length ≤ 2 ^ 40) (hf : l.length < fuel) : z6y fuel l = some (zj9 l) := by
 have hlen := zag l
 have hfl := zjk 3 1 l
 unfold z6y zj9
 rw [show (0 : Int) = ((0 : Nat) : Int) from rfl, z3v (fun x => (x.k : Int) == 0 || !zbj x) noneT l (fun i hi => ?_) ?_ l.length 0 fuel (by omega) hf, List.drop_zero]
 ·cases l.any (fun x => (x.k : Int) == 0 || !zbj x) with
  | true => rfl
  | false =>
   show za3 (zmy fuel ((3 : Nat) : Int) ((1 : Nat) : Int) l) _ = _
   rw [z4s 3 1 l hl hf, bindE_some]
   show za3 (zgx ((3 : Nat) : Int) _ _) _ = _
   rw [zvy 3 _ _ (by omega)]; rfl
 ·exact zbv (by simp) rfl
 ·skip
  have hx := zy2 (List.getElem_mem hi)
  refine zby (by simp; omega) (zt (by omega) (zaj fun x1 e1 => ?_))
  rw [zdz hi] at e1
  subst e1
  cases h1 : (l[i].k : Int) == 0 with
  | true => exact zby rfl (by simp)
  | false =>
   refine zbv rfl (zt (by omega) (zaj fun x2 e2 => ?_))
   subst e2
   cases h2 : zbj l[i] with
   | true => exact zbv rfl (zt (by omega) (by simp))
   | false => exact zby rfl (by simp)
theorem or_eqF {fuel : Nat} (l : List Tr) (hl : (zai l).length ≤ 2 ^ 40) (hf : l.length < fuel) : F_or fuel l = some (orT l) := by
 have hlen := zag l
 have hfl := zjk 4 0 l
 unfold F_or orT
 rw [show (0 : Int) = ((0 : Nat) : Int) from rfl, z3v (fun x => !zjz x) noneT l (fun i hi => ?_) ?_ l.length 0 fuel (by omega) hf, List.drop_zero]
 ·cases l.any (fun x => !zjz x) with
  | true => rfl
  | false =>
   show za3 (zmy fuel ((4 : Nat) : Int) ((0 : Nat) : Int) l) _ = _
   rw [z4s 4 0 l hl hf, bindE_some]
   show za3 (zgx ((4 : Nat) : Int) _ _) _ = _
   rw [zvy 4 _ _ (by omega)]; rfl
 ·exact zbv (by simp) rfl
 ·skip
  have hx := zy2 (List.getElem_mem hi)
  refine zby (by simp; omega) (zt (by omega) (zaj fun x1 e1 => ?_))
  rw [zdz hi] at e1
  subst e1
  refine zet (zjz l[i]) (z3x _ (by omega)) ?_
  cases h2 : zjz l[i] with
  | true => exact zbv rfl (zt (by omega) (by simp))
  | false => exact zby rfl (by simp)
theorem k_seq (l : List Tr) (h : (zai l).length ≤ 2 ^ 40) : Pure (ITP Try.prog) Try.prog 15 [.list l.length (Enc.cellsL l) .none] (.agg (Enc.cells (zj9 l))) := seq_sh (l.length + 1) l _ (seq_eqF l h (by omega))
theorem k_or (l : List Tr) (h : (zai l).length ≤ 2 ^ 40) : Pure (ITP Try.prog) Try.prog 10 [.list l.length (Enc.cellsL l) .none] (.agg (Enc.cells (orT l))) := or_sh (l.length + 1) l _ (or_eqF l h (by omega))
theorem zz9 (t : Tr) (h : (pre t).length < 2 ^ 60) : zk7 t = some (zg4 t) := by
 unfold zk7 zg4
 rw [zjl _ (by rw [zh3]; omega)]; rfl
theorem z3s (t : Tr) (h : (pre t).length < 2 ^ 60) : Pure (ITP Try.prog) Try.prog 13 [.agg (Enc.cells t)] (.agg (Enc.cells (zg4 t))) := z02 t _ (zz9 t h)
theorem z1j (t : Tr) (lo hi : Int) (h : (pre t).length < 2 ^ 40) : zrt t lo hi = some (zb1 t lo hi) := by
 have e1 := z3x t (by omega)
 have e2 := zqa lo hi
 have e3 : zdn (Tr.mk 5 0#256 lo hi [t]) = some (zd8 (Tr.mk 5 0#256 lo hi [t])) := zjl _ (by rw [zh3]; omega)
 unfold zrt zb1
 simp only [e1, e2, e3, bindE_some]
 have hE : emptyT = Tr.mk 1 0#256 0 0 [] := rfl
 rw [← hE]
 simp only [zaz h, zan]
 generalize zjz t = G
 generalize zb4 lo hi = B
 generalize zd8 (Tr.mk 5 0#256 lo hi [t]) = X
 generalize (lo == 0) = a
 generalize (lo == 1) = b
 generalize (hi == 0) = c
 generalize (hi == 1) = d
 generalize ((t.k : Int) == 0) = e
 generalize ((t.k : Int) == 1) = f
 generalize decide (lo > 0) = p
 generalize noneT = N
 generalize emptyT = M
 cases a <;> cases b <;> cases c <;> cases d <;> cases e <;> cases f <;> cases p <;> cases G <;> cases B <;> rfl
theorem zic (t : Tr) (lo hi : Int) (h : (pre t).length < 2 ^ 40) : Pure (ITP Try.prog) Try.prog 17 [.agg (Enc.cells t), .raw (.int .i64 lo), .raw (.int .i64 hi)] (.agg (Enc.cells (zb1 t lo hi))) := z6x t lo hi _ (z1j t lo hi h)
theorem rxof_eq (s : BS) : zxz s = some (ofT s) := by
 unfold zxz ofT
 by_cases h : s = 0#256 <;> simp [h]
theorem k_of (s : BS) : Pure (ITP Try.prog) Try.prog 60 [.agg (Enc.cells s)] (.agg (Enc.cells (ofT s))) := rxof_sh s _ (rxof_eq s)
end Go.Ab
set_option linter.unusedSimpArgs false
set_option linter.unusedVariables false
set_option maxRecDepth 100000
set_option maxHeartbeats 4000000
namespace Go.Ab
open Go Go.RowKit Go.Fwd Go.Proofs
mutual
def zbx : Tr → Bool
 | .mk k s mn mx l => bif (k : Int) == 1 then true else bif (k : Int) == 2 then false else bif (k : Int) == 4 then zr7 l else bif (k : Int) == 5 then mn == 0 || z19 l else zs5 l
def zr7 : List Tr → Bool
 | [] => false
 | x :: l => zbx x || zr7 l
def zs5 : List Tr → Bool
 | [] => true
 | x :: l => zbx x && zs5 l
def z19 : List Tr → Bool
 | [] => false
 | x :: _ => zbx x
end
def plainT (t : Tr) : Bool := (pre t).all fun x => !decide (x.k = 6)
def zcr (b : Bd) : Bool := decide (b = Bd.mk 0 1) || decide (b = Bd.mk 0 (-1)) || decide (b = Bd.mk 1 (-1))
def crT (t : Tr) : Bool := (pre t).all zcm
def q1 (f : Tr → Bool) (n : Nat) (x : Tr) : Option Bool := if (pre x).length < n ∧ crT x = true then some (f x) else none
theorem q1_some {f : Tr → Bool} {n : Nat} {x : Tr} {z : Bool} (h : q1 f n x = some z) : ((pre x).length < n ∧ crT x = true) ∧ z = f x := by
 unfold q1 at h
 split at h
 ·rename_i h1; exact ⟨h1, (Option.some.inj h).symm⟩
 ·cases h
def zwb (n : Nat) (x : Tr) : Option Bool :=
 (chk ((pre x).length < n) (zan (plainT x) (fun x1 => (some (!x1)))))
theorem ent41 : Ent Try.prog 41 := enters_of Try.func41 (by kernel_rfl) rfl
theorem pl1_sh (n : Nat) (x : Tr) (r : Bool) (ih : ∀ x : Tr, (pre x).length < n → Pure (ITP Try.prog) Try.prog 26 [.A x] (.raw (.bool (plainT x)))) (h : zwb n x = some r) : Pure (ITP Try.prog) Try.prog 41 [.A (x : Tr)] (.raw (.bool r)) := by
 unfold zwb at h
 refine zaw 5 mix Try.func41 ent41 ?_
 refine ze (zc ?_)
 refine zbc (a := .ptr 0 0) (σ'' := (.B [(30, (Enc.cells (x : Tr)))])) ?_
 refine w_o (a := .b false) ?_
 refine zw [.v (.A (x : Tr))] ?_
 obtain ⟨g1, h⟩ := zh h
 obtain ⟨x1, hx1, h⟩ := zj h
 refine zbs (args' := [.A (x : Tr)]) (r := .b x1) (by rw [← hx1]; exact (ih x g1)) ?_
 refine w_r [.v (.b (!x1)), .m _] ?_
 exact za4 h
def znu (fuel : Nat) (n : Nat) (t : Tr) : Option Bool :=
 (bif (((t.k : Nat) : Int) != 6) then (za3 (zwq fuel (fun x => zwb n x) t.l) (fun x1 => (some (!x1)))) else (some false))
theorem ent26 : Ent Try.prog 26 := enters_of Try.func26 (by kernel_rfl) rfl
theorem z4a (fuel : Nat) (n : Nat) (t : Tr) (r : Bool) (ih : ∀ x : Tr, (pre x).length < n → Pure (ITP Try.prog) Try.prog 26 [.A x] (.raw (.bool (plainT x)))) (h : znu fuel n t = some r) : Pure (ITP Try.prog) Try.prog 26 [.A (t : Tr)] (.raw (.bool r)) := by
 unfold znu at h
 refine zaw 11 mix Try.func26 ent26 ?_
 refine ze (zc ?_)
 refine zbc (a := .ptr 0 0) (σ'' := (.B [(30, (Enc.cells (t : Tr)))])) ?_
 refine w_o (a := .b false) ?_
 refine zw [.v (.ptr 0 0), .v (.u ((t.k : Nat) : Int)), .v (.b (((t.k : Nat) : Int) != 6))] ?_
 refine zu h (fun hc1 h => ?_) (fun hc1 h => ?_)
 refine zau hc1 ?_
 refine w_r [.v (.ptr 0 7), .v (.L (t.l : List Tr))] ?_
 refine zac rfl rfl ?_
 obtain ⟨x1, hx1, h⟩ := zaa h
 refine za1 (args' := [.L (t.l : List Tr), .clos 41 []]) (r := .b x1) (z1g fuel (fun x => zwb n x) t.l x1 41 (fun x y h => pl1_sh n x y ih h) hx1) rfl rfl (zf (zds (Enc.cloL _)) (zf (show AV.clos _ (stripL _) = _ from congrArg (AV.clos _) rfl) rfl)) (zb (zah (Enc.cloL _)) (zb (show z7 _ _ = true from rfl) rfl)) (by dsimp only [zn, List.set]) ?_
 refine w_r [.v (.b (!x1)), .v (.b (!x1)), .m _] ?_
 exact za4 h
 refine zau hc1 ?_
 refine w_r [.p, .p, .p, .p, .v (.b false)] ?_
 refine w_r [.m _] ?_
 exact za4 h
def zwp (n : Nat) (x : Tr) : Option Bool :=
 (chk (((pre x).length < n ∧ crT x = true)) (zan (zbx x) (fun x1 => (some (!x1)))))
theorem ent47 : Ent Try.prog 47 := enters_of Try.func47 (by kernel_rfl) rfl
theorem nu1_sh (n : Nat) (x : Tr) (r : Bool) (ih : ∀ x : Tr, ((pre x).length < n ∧ crT x = true) → Pure (ITP Try.prog) Try.prog 35 [.A x] (.raw (.bool (zbx x)))) (h : zwp n x = some r) : Pure (ITP Try.prog) Try.prog 47 [.A (x : Tr)] (.raw (.bool r)) := by
 unfold zwp at h
 refine zaw 5 mix Try.func47 ent47 ?_
 refine ze (zc ?_)
 refine zbc (a := .ptr 0 0) (σ'' := (.B [(30, (Enc.cells (x : Tr)))])) ?_
 refine w_o (a := .b false) ?_
 refine zw [.v (.A (x : Tr))] ?_
 obtain ⟨g1, h⟩ := zh h
 obtain ⟨x1, hx1, h⟩ := zj h
 refine zbs (args' := [.A (x : Tr)]) (r := .b x1) (by rw [← hx1]; exact (ih x g1)) ?_
 refine w_r [.v (.b (!x1)), .m _] ?_
 exact za4 h
def zr6 (fuel : Nat) (n : Nat) (t : Tr) : Option Bool :=
 (bif (((t.k : Nat) : Int) == 1) then (some true) else (bif (((t.k : Nat) : Int) == 2) then (some false) else (bif (((t.k : Nat) : Int) == 4) then (za3 (zwq fuel (q1 zbx n) t.l) (fun x1 => (some x1))) else (bif (((t.k : Nat) : Int) == 5) then (bif (t.mn == 0) then (some true) else (chk (0 ≤ (0 : Int) ∧ (0 : Int) < (List.length t.l : Int)) (zan (ix t.l (0 : Int)) (fun x2 => (chk (((pre x2).length < n ∧ crT x2 = true)) (zan (zbx x2) (fun x3 => (some x3)))))))) else (za3 (zwq fuel (fun x => zwp n x) t.l) (fun x4 => (some (!x4))))))))
theorem ent35 : Ent Try.prog 35 := enters_of Try.func35 (by kernel_rfl) rfl
theorem z5z (fuel : Nat) (n : Nat) (t : Tr) (r : Bool) (ih : ∀ x : Tr, ((pre x).length < n ∧ crT x = true) → Pure (ITP Try.prog) Try.prog 35 [.A x] (.raw (.bool (zbx x)))) (h : zr6 fuel n t = some r) : Pure (ITP Try.prog) Try.prog 35 [.A (t : Tr)] (.raw (.bool r)) := by
 unfold zr6 at h
 refine zaw 29 mix Try.func35 ent35 ?_
 refine ze (zc ?_)
 refine zbc (a := .ptr 0 0) (σ'' := (.B [(30, (Enc.cells (t : Tr)))])) ?_
 refine w_o (a := .b false) ?_
 refine ze ?_
 refine zw [.v (.ptr 0 0), .v (.u ((t.k : Nat) : Int))] ?_
 refine zr ?_
 refine zw [.v (.b (((t.k : Nat) : Int) == 1)), .m _] ?_
 refine zbu h (fun hc1 h => ?_) (fun hc1 h => ?_)
 refine zw [.v (.b true)] ?_
 exact za4 h
 refine zw [.v (.b (((t.k : Nat) : Int) == 2)), .m _] ?_
 refine zbu h (fun hc2 h => ?_) (fun hc2 h => ?_)
 refine zw [.v (.b false)] ?_
 exact za4 h
 refine zw [.v (.b (((t.k : Nat) : Int) == 4)), .m _] ?_
 refine zbu h (fun hc3 h => ?_) (fun hc3 h => ?_)
 refine zw [.v (.ptr 0 7), .v (.L (t.l : List Tr))] ?_
 obtain ⟨x1, hx1, h⟩ := zaa h
 refine za1 (args' := [.L (t.l : List Tr), .clos 35 []]) (r := .b x1) (z1g fuel (q1 zbx n) t.l x1 35 (fun x y h => by obtain ⟨h1, rfl⟩ := q1_some h; exact ih x h1) hx1) rfl rfl (zf (zds (Enc.cloL _)) (zf (show AV.clos _ (stripL _) = _ from congrArg (AV.clos _) rfl) rfl)) (zb (zah (Enc.cloL _)) (zb (show z7 _ _ = true from rfl) rfl)) (by dsimp only [zn, List.set]) ?_
 refine zab ?_
 exact za4 h
 refine zw [.v (.b (((t.k : Nat) : Int) == 5)), .m _] ?_
 refine zbu h (fun hc4 h => ?_) (fun hc4 h => ?_)
 refine zw [.v (.ptr 0 5), .v (.i t.mn), .v (.b (t.mn == 0))] ?_
 refine zu h (fun hc5 h => ?_) (fun hc5 h => ?_)
 refine zau hc5 ?_
 refine w_r [.p, .p, .p, .p, .p] ?_
 refine w_r [.v (.b true), .m _] ?_
 exact za4 h
 refine zau hc5 ?_
 refine w_r [.v (.ptr 0 7), .v (.L (t.l : List Tr))] ?_
 refine zac rfl rfl ?_
 obtain ⟨g1, h⟩ := zh h
 obtain ⟨x2, hx2, h⟩ := zj h
 refine zzn hx2 g1 ?_
 refine zac rfl rfl ?_
 refine w_o (a := .A (x2 : Tr)) ?_
 refine zac rfl rfl ?_
 obtain ⟨g2, h⟩ := zh h
 obtain ⟨x3, hx3, h⟩ := zj h
 refine zbs (args' := [.A (x2 : Tr)]) (r := .b x3) (by rw [← hx3]; exact (ih x2 g2)) ?_
 refine w_r [.v (.b x3), .m _] ?_
 exact za4 h
 refine zw [.v (.ptr 0 7), .v (.L (t.l : List Tr))] ?_
 obtain ⟨x4, hx4, h⟩ := zaa h
 refine za1 (args' := [.L (t.l : List Tr), .clos 47 []]) (r := .b x4) (z1g fuel (fun x => zwp n x) t.l x4 47 (fun x y h => nu1_sh n x y ih h) hx4) rfl rfl (zf (zds (Enc.cloL _)) (zf (show AV.clos _ (stripL _) = _ from congrArg (AV.clos _) rfl) rfl)) (zb (zah (Enc.cloL _)) (zb (show z7 _ _ = true from rfl) rfl)) (by dsimp only [zn, List.set]) ?_
 refine w_r [.v (.b (!x4)), .m _] ?_
 exact za4 h
def zrq (b : Bd) : Option Bool :=
 (bif (decide (b = (Bd.mk 0 1))) then (some true) else (bif (decide (b = (Bd.mk 0 (-1)))) then (some true) else (some (decide (b = (Bd.mk 1 (-1)))))))
theorem ent53 : Ent Try.prog 53 := enters_of Try.func53 (by kernel_rfl) rfl
theorem z3e (b : Bd) (r : Bool) (h : zrq b = some r) : Pure (ITP Try.prog) Try.prog 53 [.A (b : Bd)] (.raw (.bool r)) := by
 unfold zrq at h
 refine zaw 15 mix Try.func53 ent53 ?_
 refine ze (zc ?_)
 refine zbc (a := .ptr 0 0) (σ'' := (.B [(62, (Enc.cells (b : Bd)))])) ?_
 refine w_o (a := .b false) ?_
 refine ze ?_
 refine zcw (k0 := 0) (id := 1) 11 (by kernel_rfl) (by kernel_rfl) ?_
 refine h_o (a := .A (b : Bd)) ?_
 refine zni (zyi _ rfl) ?_
 refine zt2 (.b (decide (b = (Bd.mk 0 1)))) rfl rfl rfl (ze2 b (Bd.mk 0 1) rfl rfl rfl) (by dsimp only [zn, List.set]) ?_
 refine zu h (fun hc1 h => ?_) (fun hc1 h => ?_)
 refine h_o (a := .b true) (h := zbg rfl hc1) ?_
 refine zkb ?_
 refine zkb ?_
 refine zkb ?_
 refine h_o (a := .b true) ?_
 refine zgc ?_
 refine zkb ?_
 refine zkb ?_
 refine zdr ?_
 refine w_r [.p, .v (.b true), .m _] ?_
 exact za4 h
 refine h_o (a := .b false) (h := zbg rfl hc1) ?_
 refine zgi rfl rfl ?_
 refine h_o (a := .A (b : Bd)) ?_
 refine zgi rfl rfl ?_
 refine zni (zhz _ rfl) ?_
 refine zgi rfl rfl ?_
 refine zt2 (.b (decide (b = (Bd.mk 0 (-1))))) rfl rfl rfl (ze2 b (Bd.mk 0 (-1)) rfl rfl rfl) (by dsimp only [zn, List.set]) ?_
 refine h_o (a := .b (decide (b = (Bd.mk 0 (-1))))) ?_
 refine zu h (fun hc2 h => ?_) (fun hc2 h => ?_)
 refine h_o (a := .b true) (h := zbg rfl hc2) ?_
 refine zkb ?_
 refine zkb ?_
 refine zdr ?_
 refine w_r [.p, .v (.b true), .m _] ?_
 exact za4 h
 refine h_o (a := .b false) (h := zbg rfl hc2) ?_
 refine zgi rfl rfl ?_
 refine h_o (a := .A (b : Bd)) ?_
 refine zgi rfl rfl ?_
 refine zni (zh0 _ rfl) ?_
 refine zdr ?_
 refine zac rfl rfl ?_
 refine zj6 (.b (decide (b = (Bd.mk 1 (-1))))) rfl rfl rfl (ze2 b (Bd.mk 1 (-1)) rfl rfl rfl) (by dsimp only [zn, List.set]) ?_
 refine w_r [.v (.b (decide (b = (Bd.mk 1 (-1))))), .m _] ?_
 exact za4 h
end Go.Ab
set_option linter.unusedSimpArgs false
set_option linter.unusedVariables false
namespace Go.Ab
open Go Go.RowKit Go.Fwd Go.Proofs
theorem zyq (q : Tr → Bool) : ∀ l : List Tr, (zai l).all q = l.all fun x => (pre x).all q
 | [] => by simp [zai]
 | x :: l => by rw [zai, List.all_append, zyq q l, List.all_cons]
theorem zfr (t : Tr) : plainT t = (!decide (t.k = 6) && !(t.l.any fun x => !plainT x)) := by
 unfold plainT
 rw [zc8, List.all_cons, zyq]
 congr 1
 rw [List.not_any_eq_all_not]; simp
theorem pl1_eq {n : Nat} {x : Tr} (h : (pre x).length < n) : zwb n x = some (!plainT x) := by
 unfold zwb; rw [zaz h]; rfl
theorem z16 (n : Nat) (t : Tr) (h : (pre t).length < n + 1) (hn : n < 2 ^ 60) : znu (n + 1) n t = some (plainT t) := by
 have hlen := zo8 t
 have hp : (pre t).length = 1 + (zai t.l).length := by rw [zc8, List.length_cons]; omega
 have e := zy0 (fuel := n + 1) (p := fun x => zwb n x) (fun x => !plainT x) (l := t.l) (by omega) (by omega) (fun x hx => pl1_eq (by have := zev hx; omega))
 unfold znu
 rw [e, zfr]
 by_cases hk : t.k = 6
 ·rw [hk]; simp
 ·rw [show (((t.k : Nat) : Int) != 6) = true by simp; omega]; simp [hk]
theorem ztq : ∀ (n : Nat) (t : Tr), (pre t).length < n → n ≤ 2 ^ 60 → Pure (ITP Try.prog) Try.prog 26 [.agg (Enc.cells t)] (.raw (.bool (plainT t)))
 | 0, t, h, _ => absurd h (Nat.not_lt_zero _)
 | n + 1, t, h, hn => z4a (n + 1) n t _ (fun x hx => ztq n x hx (by omega)) (z16 n t h (by omega))
theorem zlx (t : Tr) (h : (pre t).length < 2 ^ 60) : Pure (ITP Try.prog) Try.prog 26 [.agg (Enc.cells t)] (.raw (.bool (plainT t))) := ztq (2 ^ 60) t h (Nat.le_refl _)
theorem zqu : ∀ l : List Tr, zr7 l = l.any zbx
 | [] => rfl
 | x :: l => by rw [zr7, zqu l, List.any_cons]
theorem zqd : ∀ l : List Tr, zs5 l = l.all zbx
 | [] => rfl
 | x :: l => by rw [zs5, zqd l, List.all_cons]
theorem z6f (t : Tr) : zbx t = (bif (t.k : Int) == 1 then true else bif (t.k : Int) == 2 then false else bif (t.k : Int) == 4 then t.l.any zbx else bif (t.k : Int) == 5 then t.mn == 0 || z19 t.l else t.l.all zbx) := by
 obtain ⟨k, s, mn, mx, l⟩ := t
 rw [zbx, zqu, zqd]; rfl
theorem z3t {t x : Tr} (h : crT t = true) (hx : x ∈ t.l) : crT x = true := by
 have h1 := (zbm t).1 h
 exact ((zcq t.l).1 h1.2) x hx
theorem zxg {t : Tr} (h : crT t = true) (hk : t.k = 5) : t.l.length = 1 := by
 have h1 := ((zbm t).1 h).1
 rw [zcm, hk] at h1
 simp at h1
 omega
theorem nu1_eq {n : Nat} {x : Tr} (h : (pre x).length < n) (hc : crT x = true) : zwp n x = some (!zbx x) := by
 unfold zwp; rw [zaz ⟨h, hc⟩]; rfl
theorem q1_eq {n : Nat} {x : Tr} (h : (pre x).length < n) (hc : crT x = true) : q1 zbx n x = some (zbx x) := by
 unfold q1; rw [if_pos ⟨h, hc⟩]
theorem z63 (n : Nat) (t : Tr) (h : (pre t).length < n + 1) (hc : crT t = true) (hn : n < 2 ^ 60) : zr6 (n + 1) n t = some (zbx t) := by
 have hlen := zo8 t
 have hp : (pre t).length = 1 + (zai t.l).length := by rw [zc8, List.length_cons]; omega
 have e1 := zy0 (fuel := n + 1) (p := fun x => zwp n x) (fun x => !zbx x) (l := t.l) (by omega) (by omega) (fun x hx => nu1_eq (by have := zev hx; omega) (z3t hc hx))
 have e2 := zy0 (fuel := n + 1) (p := q1 zbx n) zbx (l := t.l) (by omega) (by omega) (fun x hx => q1_eq (by have := zev hx; omega) (z3t hc hx))
 unfold zr6
 rw [z6f, e1, e2]
 by_cases k1 : t.k = 1
 ·rw [k1]; rfl
 ·by_cases k2 : t.k = 2
  ·rw [k2]; rfl
  ·by_cases k4 : t.k = 4
   ·rw [k4]; rfl
   ·by_cases k5 : t.k = 5
    ·have h1 := zxg hc k5
     rw [k5]
     show (bif t.mn == 0 then some true else _) = some (t.mn == 0 || z19 t.l)
     cases t.mn == 0 with
     | true => rfl
     | false =>
      show chk _ _ = _
      rw [zaz (by omega), zan]
      cases hl : t.l with
      | nil => rw [hl] at h1; cases h1
      | cons x l =>
       have hx : x ∈ t.l := by rw [hl]; simp
       have := zev hx
       show chk ((pre x).length < n ∧ crT x = true) _ = _
       rw [zaz ⟨by omega, z3t hc hx⟩]; rfl
    ·rw [show (((t.k : Nat) : Int) == 1) = false by simp; omega, show (((t.k : Nat) : Int) == 2) = false by simp; omega, show (((t.k : Nat) : Int) == 4) = false by simp; omega, show (((t.k : Nat) : Int) == 5) = false by simp; omega]
     show some (!t.l.any fun x => !zbx x) = some (t.l.all zbx)
     rw [List.not_any_eq_all_not]; simp
theorem zyz : ∀ (n : Nat) (t : Tr), ((pre t).length < n ∧ crT t = true) → n ≤ 2 ^ 60 → Pure (ITP Try.prog) Try.prog 35 [.agg (Enc.cells t)] (.raw (.bool (zbx t)))
 | 0, t, h, _ => absurd h.1 (Nat.not_lt_zero _)
 | n + 1, t, h, hn => z5z (n + 1) n t _ (fun x hx => zyz n x hx (by omega)) (z63 n t h.1 h.2 (by omega))
theorem zm1 (t : Tr) (h : (pre t).length < 2 ^ 60 ∧ crT t = true) : Pure (ITP Try.prog) Try.prog 35 [.agg (Enc.cells t)] (.raw (.bool (zbx t))) := zyz (2 ^ 60) t h (Nat.le_refl _)
theorem znr (b : Bd) : Pure (ITP Try.prog) Try.prog 53 [.agg (Enc.cells b)] (.raw (.bool (zcr b))) := by
 refine z3e b _ ?_
 unfold zrq zcr
 cases decide (b = Bd.mk 0 1) <;> cases decide (b = Bd.mk 0 (-1)) <;> rfl
end Go.Ab
