/-
  Trees of rx: words, plain laws.
-/
import Derived.Test.YtmoncghgagmilaaZdSh
set_option linter.unusedSimpArgs false
set_option linter.unusedVariables false
namespace Go.Ab
open Go Go.RowKit Go.Fwd
abbrev BS := BitVec 256
def W64 (S : BS) (i : Nat) : BitVec 64 := S.extractLsb' (64 * i) 64
def wd (S : BS) (i : Nat) : Int := ((W64 S i).toNat : Int)
inductive Tr where
 | mk (k : Nat) (s : BS) (mn mx : Int) (l : List Tr)
def Tr.k : Tr → Nat | .mk k _ _ _ _ => k
def Tr.s : Tr → BS | .mk _ s _ _ _ => s
def Tr.mn : Tr → Int | .mk _ _ m _ _ => m
def Tr.mx : Tr → Int | .mk _ _ _ m _ => m
def Tr.l : Tr → List Tr | .mk _ _ _ _ l => l
theorem Tr.eta (t : Tr) : t = .mk t.k t.s t.mn t.mx t.l := by cases t; rfl
theorem Tr.sizeOf_l {t x : Tr} (h : x ∈ t.l) : SizeOf.sizeOf x < SizeOf.sizeOf t := by
 cases t with
 | mk k s mn mx l => simp only [Tr.l] at h; have := List.sizeOf_lt_of_mem h; simp; omega
mutual
def cells : Tr → List AV
 | .mk k s mn mx l => [.raw (.int .u8 k), .raw (.int .u64 (wd s 0)), .raw (.int .u64 (wd s 1)), .raw (.int .u64 (wd s 2)), .raw (.int .u64 (wd s 3)), .raw (.int .i64 mn), .raw (.int .i64 mx), .list l.length (cellsL l) .none]
def cellsL : List Tr → List AV
 | [] => []
 | t :: l => cells t ++ cellsL l
end
def enc (t : Tr) : AV := .agg (cells t)
theorem zt1 (t : Tr) : (cells t).length = 8 := by cases t; simp [cells]
theorem z5j (t : Tr) : cells t = [.raw (.int .u8 t.k), .raw (.int .u64 (wd t.s 0)), .raw (.int .u64 (wd t.s 1)), .raw (.int .u64 (wd t.s 2)), .raw (.int .u64 (wd t.s 3)), .raw (.int .i64 t.mn), .raw (.int .i64 t.mx), .list t.l.length (cellsL t.l) .none] := by cases t; simp [cells, Tr.k, Tr.s, Tr.mn, Tr.mx, Tr.l]
theorem zkm : ∀ l, (cellsL l).length = l.length * 8
 | [] => by simp [cellsL]
 | t :: l => by rw [cellsL, List.length_append, zt1, zkm l, List.length_cons]; omega
theorem z35 {l : List Tr} (h : l ≠ []) : cellsL l ≠ [] := by
 intro e
 have := zkm l
 rw [e] at this
 simp at this
 exact h (List.length_eq_zero_iff.1 (by omega))
mutual
theorem zsw (n : Nat) : ∀ t, zz n (cells t) = true
 | .mk k s mn mx l => by simp [cells, zz, za0, zj7 n l]
theorem zj7 (n : Nat) : ∀ l, zz n (cellsL l) = true
 | [] => by simp [cellsL, zz]
 | t :: l => by
  rw [cellsL, zgh, List.all_append, ← zgh, ← zgh, zsw n t, zj7 n l]; rfl
end
mutual
theorem zmq : ∀ t, zbk (cells t) = true
 | .mk k s mn mx l => by simp [cells, zbk, zh0, zk1 l]
theorem zk1 : ∀ l, zbk (cellsL l) = true
 | [] => by simp [cellsL, zbk]
 | t :: l => by
  have h : ∀ l m : List AV, zbk (l ++ m) = (zbk l && zbk m) := fun l m => by
   induction l with
   | nil => simp [zbk]
   | cons a l ih => rw [List.cons_append, zbk, zbk, ih, Bool.and_assoc]
  rw [cellsL, h, zmq t, zk1 l]; rfl
end
mutual
theorem zvi : ∀ t, stripL (cells t) = cells t
 | .mk k s mn mx l => by simp [cells, stripL, zb3, zgr l]
theorem zgr : ∀ l, stripL (cellsL l) = cellsL l
 | [] => by simp [cellsL, stripL]
 | t :: l => by
  rw [cellsL, zi1, List.map_append, ← zi1, ← zi1, zvi t, zgr l]
end
mutual
theorem zvf (g : FZ) : ∀ t, za3 g (cells t) = cells t
 | .mk k s mn mx l => by simp [cells, za3, zdm, zj4 g l]
theorem zj4 (g : FZ) : ∀ l, za3 g (cellsL l) = cellsL l
 | [] => by simp [cellsL, za3]
 | t :: l => by
  have h : ∀ l m : List AV, za3 g (l ++ m) = za3 g l ++ za3 g m := fun l m => by
   induction l with
   | nil => simp [za3]
   | cons a l ih => rw [List.cons_append, za3, za3, ih, List.cons_append]
  rw [cellsL, h, zvf g t, zj4 g l]
end
mutual
theorem ztj : ∀ t, cloL (cells t) = true
 | .mk k s mn mx l => by simp [cells, cloL, clo, zqw l]
theorem zqw : ∀ l, cloL (cellsL l) = true
 | [] => by simp [cellsL, cloL]
 | t :: l => by rw [cellsL, zf4, ztj t, zqw l]; rfl
end
theorem zzz (t : Tr) : zh0 (enc t) = true := by rw [enc, zh0]; exact zmq t
mutual
def pre : Tr → List Tr
 | .mk k s mn mx l => .mk k s mn mx l :: zal l
def zal : List Tr → List Tr
 | [] => []
 | t :: l => pre t ++ zal l
end
theorem zc0 (t : Tr) : pre t = t :: zal t.l := by cases t; simp [pre, Tr.l]
theorem zje : ∀ (ts : List Tr) (i : Nat) (hi : i < ts.length), (zal (ts.take (i + 1))).length = (zal (ts.take i)).length + (pre ts[i]).length
 | [], i, hi => by simp at hi
 | t :: ts, 0, hi => by simp [zal]
 | t :: ts, i + 1, hi => by
  simp only [List.take_succ_cons, zal, List.length_append, List.getElem_cons_succ, zje ts i (by simpa using hi)]
  omega
theorem z1b : ∀ ts : List Tr, ts.length ≤ (zal ts).length
 | [] => by simp [zal]
 | t :: ts => by
  have := z1b ts
  cases t with
  | mk k s mn mx l => simp [zal, pre]; omega
theorem zel : ∀ {ts : List Tr} {x : Tr}, x ∈ ts → (pre x).length ≤ (zal ts).length
 | [], x, h => by simp at h
 | t :: ts, x, h => by
  simp only [zal, List.length_append]
  rcases List.mem_cons.1 h with rfl | h
  ·omega
  ·have := zel h; omega
def zb7 (least most : Int) : Bool := !(decide (least < 0) || decide (least > 16) || decide (least = 1) && decide (most = 1)) && (decide (most = -1) || decide (most ≥ 1) && decide (most ≤ 16) && decide (most ≥ least))
def z4f (s : BS) : AV := .agg [.raw (.int .u64 (wd s 0)), .raw (.int .u64 (wd s 1)), .raw (.int .u64 (wd s 2)), .raw (.int .u64 (wd s 3))]
theorem wd_inj {A B : BS} (h : ∀ i, i < 4 → wd A i = wd B i) : A = B := by
 apply BitVec.eq_of_getLsbD_eq
 intro j hj
 have h4 : j / 64 < 4 := by omega
 have h2 := h (j / 64) h4
 have h3 : W64 A (j / 64) = W64 B (j / 64) := by
  apply BitVec.eq_of_toNat_eq
  unfold wd at h2
  omega
 have h5 := congrArg (fun x : BitVec 64 => x.getLsbD (j % 64)) h3
 have hlt : j % 64 < 64 := Nat.mod_lt _ (by decide)
 simp only [W64, BitVec.getLsbD_extractLsb', hlt, decide_true, Bool.true_and] at h5
 rwa [show 64 * (j / 64) + j % 64 = j by omega] at h5
theorem z7r (S T : BS) : (wd S 0 == wd T 0 && wd S 1 == wd T 1 && wd S 2 == wd T 2 && wd S 3 == wd T 3) = decide (S = T) := by
 by_cases h : S = T
 ·subst h; simp
 ·simp only [h, decide_false]
  cases hb : (wd S 0 == wd T 0 && wd S 1 == wd T 1 && wd S 2 == wd T 2 && wd S 3 == wd T 3) with
  | false => rfl
  | true =>
   simp only [Bool.and_eq_true, beq_iff_eq] at hb
   refine absurd (wd_inj fun i hi => ?_) h
   match i, hi with
   | 0, _ => exact hb.1.1.1
   | 1, _ => exact hb.1.1.2
   | 2, _ => exact hb.1.2
   | 3, _ => exact hb.2
def zn6 (t : Tr) (k : Nat) : Bool := t.l.any fun y => decide (y.k = k)
def oddT (t : Tr) : Bool := ((t.k : Int) != 2 && decide (t.s ≠ 0#256)) || ((t.k : Int) != 5 && (t.mn != 0 || t.mx != 0)) || (decide ((t.k : Int) < 3) && decide ((t.l.length : Int) > 0))
def zcm (t : Tr) : Bool := !oddT t && (bif (t.k : Int) == 1 then true else bif (t.k : Int) == 2 then decide (t.s ≠ 0#256) else bif (t.k : Int) == 3 then decide ((t.l.length : Int) > 1) && !zn6 t 1 && !zn6 t 3
 else bif (t.k : Int) == 4 then decide ((t.l.length : Int) > 1) && !zn6 t 4 else bif (t.k : Int) == 5 then (t.l.length : Int) == 1 && zb7 t.mn t.mx && !zn6 t 1 else (t.k : Int) == 6 && (t.l.length : Int) == 1)
theorem zji (k : Nat) (s : BS) (mn mx : Int) (ts : List Tr) : oddT (.mk k s mn mx ts) = (((k : Int) != 2 && decide (s ≠ 0#256)) || ((k : Int) != 5 && (mn != 0 || mx != 0)) || (decide ((k : Int) < 3) && decide ((ts.length : Int) > 0))) := rfl
theorem zdg (k : Nat) (s : BS) (mn mx : Int) (ts : List Tr) : zcm (.mk k s mn mx ts) = (!oddT (.mk k s mn mx ts) && (bif (k : Int) == 1 then true else bif (k : Int) == 2 then decide (s ≠ 0#256) else bif (k : Int) == 3 then decide ((ts.length : Int) > 1) && !zn6 (.mk k s mn mx ts) 1 && !zn6 (.mk k s mn mx ts) 3
 else bif (k : Int) == 4 then decide ((ts.length : Int) > 1) && !zn6 (.mk k s mn mx ts) 4 else bif (k : Int) == 5 then (ts.length : Int) == 1 && zb7 mn mx && !zn6 (.mk k s mn mx ts) 1 else (k : Int) == 6 && (ts.length : Int) == 1)) := rfl
def zb4 (t : Tr) : Bool := decide ((pre t).length ≤ 10000)
def zbg (t : Tr) : Bool := zb4 t && (pre t).all zcm
mutual
def zmf : Tr → Int
 | .mk k s mn mx ts => min (if k = 5 then ((if k = 2 then 1 else 0) + zfp ts) * min (if mx = -1 then max (max mn 0) 1 else max (max mn 0) mx) 10001 else (if k = 2 then 1 else 0) + zfp ts) 10001
def zfp : List Tr → Int
 | [] => 0
 | t :: l => zmf t + zfp l
end
theorem zts : ∀ (t : Tr), t.l.length < (pre t).length
 | .mk k s mn mx ts => by
  have : ∀ l : List Tr, l.length ≤ (zal l).length := fun l => by
   induction l with
   | nil => simp [zal]
   | cons a l ih => rw [zal, List.length_append, List.length_cons]; rw [zc0]; simp; omega
  simp [pre, Tr.l]; have := this ts; omega
theorem zpj {t x : Tr} (h : x ∈ pre t) : (pre x).length ≤ (pre t).length := by
 have key : ∀ n, (∀ t : Tr, SizeOf.sizeOf t ≤ n → ∀ x ∈ pre t, (pre x).length ≤ (pre t).length) := by
  intro n
  induction n with
  | zero => intro t ht; cases t; simp at ht
  | succ n ih =>
   intro t ht x hx
   rw [zc0] at hx
   rcases List.mem_cons.1 hx with rfl | hx
   ·exact Nat.le_refl _
   ·have hl : ∀ l : List Tr, (∀ y ∈ l, SizeOf.sizeOf y ≤ n) → ∀ x ∈ zal l, (pre x).length ≤ (zal l).length := by
     intro l
     induction l with
     | nil => intro _ x hx; simp [zal] at hx
     | cons a l ihl =>
      intro hs x hx
      rw [zal] at hx ⊢
      rw [List.length_append]
      rcases List.mem_append.1 hx with hx | hx
      ·have := ih a (hs a (by simp)) x hx; omega
      ·have := ihl (fun y hy => hs y (by simp [hy])) x hx; omega
    have := hl t.l (fun y hy => by have := Tr.sizeOf_l hy; omega) x hx
    rw [zc0 t, List.length_cons]; omega
 exact key _ t (Nat.le_refl _) x h
mutual
theorem zjj : ∀ t, 0 ≤ zmf t
 | .mk k s mn mx ts => by
  have hl := zed ts
  rw [zmf]
  have h0 : 0 ≤ (if k = 2 then 1 else 0) + zfp ts := by split <;> omega
  split
  ·have : 0 ≤ ((if k = 2 then 1 else 0) + zfp ts) * min (if mx = -1 then max (max mn 0) 1 else max (max mn 0) mx) 10001 := Int.mul_nonneg h0 (by split <;> omega)
   omega
  ·omega
theorem zed : ∀ l, 0 ≤ zfp l
 | [] => by simp [zfp]
 | t :: l => by have h1 := zjj t; have h2 := zed l; rw [zfp]; omega
end
mutual
def zja : Tr → Tr → Bool
 | .mk k s mn mx l, .mk k' s' mn' mx' l' => (k : Int) == k' && decide (s = s') && mn == mn' && mx == mx' && zk5 l l'
def zk5 : List Tr → List Tr → Bool
 | [], [] => true
 | x :: a, y :: b => zja x y && zk5 a b
 | _, _ => false
end
mutual
theorem zf6 : ∀ a b, zja a b = true ↔ a = b
 | .mk k s mn mx l, .mk k' s' mn' mx' l' => by
  rw [zja]
  simp only [Bool.and_eq_true, zt7 l l', Tr.mk.injEq, beq_iff_eq, decide_eq_true_eq]
  constructor
  ·rintro ⟨⟨⟨⟨h1, h2⟩, h3⟩, h4⟩, h5⟩; exact ⟨by omega, h2, h3, h4, h5⟩
  ·rintro ⟨h1, h2, h3, h4, h5⟩; exact ⟨⟨⟨⟨by omega, h2⟩, h3⟩, h4⟩, h5⟩
theorem zt7 : ∀ a b, zk5 a b = true ↔ a = b
 | [], [] => by simp [zk5]
 | x :: a, [] => by simp [zk5]
 | [], y :: b => by simp [zk5]
 | x :: a, y :: b => by rw [zk5, Bool.and_eq_true, zf6 x y, zt7 a b]; simp
end
def zeo (a b : Tr) : Bool := zb4 a && zb4 b && zja a b
def noneT : Tr := .mk 0 0#256 0 0 []
def emptyT : Tr := .mk 1 0#256 0 0 []
def zjt (t : Tr) : Bool := zja t noneT || zbg t
def zdt (t : Tr) : Tr := if zbg t = true then t else noneT
def zz4 (t : Tr) : Tr := if zb4 t = true then t else noneT
theorem zd5 {t : Tr} (h : zbg t = true) : (pre t).length ≤ 10000 := by rw [zbg, Bool.and_eq_true] at h; simpa [zb4] using h.1
def zge (kind without : Nat) (l : List Tr) : List Tr := l.flatMap fun x => bif (x.k : Int) == kind then x.l else bif (x.k : Int) == without then [] else [x]
def zj1 (kind : Nat) (l : List Tr) (none : Tr) : Tr := bif (l.length : Int) == 0 then none else bif (l.length : Int) == 1 then zdt (l.headD none) else zdt (Tr.mk kind 0#256 0 0 l)
def zm8 (l : List Tr) : Tr := if (l.any fun x => (x.k : Int) == 0 || !zbg x) = true then noneT else zj1 3 (zge 3 1 l) emptyT
def orT (l : List Tr) : Tr := if (l.any fun x => !zjt x) = true then noneT else zj1 4 (zge 4 0 l) noneT
theorem za9 : ∀ a b, zal (a ++ b) = zal a ++ zal b
 | [], b => by simp [zal]
 | x :: a, b => by rw [List.cons_append, zal, zal, za9 a b, List.append_assoc]
theorem zad : ∀ l : List Tr, l.length ≤ (zal l).length
 | [] => by simp [zal]
 | x :: l => by have := zad l; rw [zal, List.length_append, List.length_cons, zc0]; simp; omega
theorem zg1 (t : Tr) : (zal t.l).length < (pre t).length := by rw [zc0]; simp
theorem zi2 (kind without : Nat) : ∀ l : List Tr, (zal (zge kind without l)).length ≤ (zal l).length
 | [] => by simp [zge, zal]
 | x :: l => by
  have h := zi2 kind without l
  have hx := zg1 x
  rw [zge, List.flatMap_cons, za9, List.length_append, zal, List.length_append]
  have h2 : (zal (bif (x.k : Int) == kind then x.l else bif (x.k : Int) == without then [] else [x])).length ≤ (pre x).length := by
   cases (x.k : Int) == kind <;> cases (x.k : Int) == without <;> simp [zal] <;> omega
  rw [zge] at h
  omega
theorem zcg {x : Tr} : ∀ {l : List Tr}, x ∈ l → (pre x).length ≤ (zal l).length
 | y :: l, h => by
  rw [zal, List.length_append]
  rcases List.mem_cons.1 h with rfl | h
  ·omega
  ·have := zcg h; omega
def zb8 (t : Tr) (lo hi : Int) : Tr :=
 bif !zjt t || (!(lo == 0 && hi == 0) && !(lo == 1 && hi == 1) && !zb7 lo hi) then noneT
 else bif (t.k : Int) == 0 && decide (lo > 0) then noneT
 else bif (lo == 0 && hi == 0) || (t.k : Int) == 0 || (t.k : Int) == 1 then emptyT
 else bif lo == 1 && hi == 1 then t else zdt (.mk 5 0#256 lo hi [t])
def zcr (t : Tr) : Tr := zdt (.mk 6 0#256 0 0 [t])
def ofT (s : BS) : Tr := if s = 0#256 then noneT else .mk 2 s 0 0 []
theorem zgj (k : Nat) (s : BS) (mn mx : Int) (t : Tr) : (pre (.mk k s mn mx [t])).length = 1 + (pre t).length := by simp [pre, zal]; omega
def zcj (kind : Nat) (l : List Tr) : List Tr := l.flatMap fun x => bif (x.k : Int) == kind then x.l else bif (kind : Int) == 3 && (x.k : Int) == 1 then [] else [x]
def zst (kind : Nat) (l : List Tr) : Tr := bif (l.length : Int) == 0 then emptyT else bif (l.length : Int) == 1 then l.headD emptyT else .mk kind 0#256 0 0 l
def zd4 (kind : Nat) (a b : Tr) : Tr := zst kind (zcj kind [a, b])
theorem ze3 (kind : Nat) : ∀ l : List Tr, (zal (zcj kind l)).length ≤ (zal l).length
 | [] => by simp [zcj, zal]
 | x :: l => by
  have h := ze3 kind l
  have hx := zg1 x
  rw [zcj, List.flatMap_cons, za9, List.length_append, zal, List.length_append]
  have h2 : (zal (bif (x.k : Int) == kind then x.l else bif (kind : Int) == 3 && (x.k : Int) == 1 then [] else [x])).length ≤ (pre x).length := by
   cases (x.k : Int) == kind <;> cases (kind : Int) == 3 && (x.k : Int) == 1 <;> simp [zal] <;> omega
  rw [zcj] at h
  omega
theorem zzu (kind : Nat) (l : List Tr) (i : Nat) (hi : i < l.length) : zcj kind (l.take (i + 1)) = zcj kind (l.take i) ++ (bif (l[i].k : Int) == kind then l[i].l else bif (kind : Int) == 3 && (l[i].k : Int) == 1 then [] else [l[i]]) := by
 rw [List.take_succ_eq_append_getElem hi, zcj, List.flatMap_append]; simp [zcj]
theorem zpi (kind : Nat) (l : List Tr) (i : Nat) : (zcj kind (l.take i)).length ≤ (zal l).length := by
 refine Nat.le_trans (zad _) (Nat.le_trans (ze3 _ _) ?_)
 conv => rhs; rw [← List.take_append_drop i l]
 rw [za9, List.length_append]; omega
def bsOf (l : List Nat) : BS := l.foldl (fun s b => s ||| (1#256 <<< b)) 0#256
def zp5 (l : List Nat) : Tr := .mk 2 (bsOf l) 0 0 []
def zqv : Nat → List Nat
 | 0 => [97] | 1 => [98] | 2 => [97, 98] | 3 => [97] | 4 => [98] | 5 => [99] | 6 => [97, 98, 99] | 7 => [98, 99] | 8 => [10] | 9 => [0, 255] | 10 => [97] | _ => [98]
abbrev Sm := Nat × Nat × Nat
abbrev MSt := List Tr × Int × Int
def kI (x : Sm) : Int := ((x.1 % 12 : Nat) : Int)
def zdy (p : List Tr) (i : Nat) : Tr := p[p.length - i]?.getD emptyT
def cA (p : List Tr) (x : Sm) : Bool := decide (kI x < 7) && decide ((p.length : Int) > 1)
def cB (p : List Tr) (x : Sm) : Bool := decide (kI x < 9) && decide ((p.length : Int) > 1)
def cC (p : List Tr) (g : Int) (x : Sm) : Bool := kI x == 9 && decide ((p.length : Int) > 0) && decide (g < 9)
def cD (p : List Tr) (x : Sm) : Bool := decide (kI x > 9) && decide ((p.length : Int) > 0) && ((zdy p 1).k : Int) != 1
def loM (x : Sm) : Int := ((x.2.1 % 3 : Nat) : Int)
def m4 (x : Sm) : Int := ((x.2.2 % 4 : Nat) : Int)
def badM (x : Sm) : Bool := decide (m4 x < loM x) || m4 x == 0 || loM x == 1 && m4 x == 1
def moM (x : Sm) : Int := bif badM x then -1 else m4 x
def tmM (x : Sm) : Int := max (max (loM x) (moM x)) 1
def zm3 (st : MSt) (x : Sm) : MSt :=
 bif decide (kI x < 4) then (st.1 ++ [zp5 (zqv (x.2.1 % 12))], st.2.1, st.2.2)
 else bif kI x == 4 then (st.1 ++ [emptyT], st.2.1, st.2.2)
 else bif cA st.1 x then (st.1.take (st.1.length - 2) ++ [zd4 3 (zdy st.1 2) (zdy st.1 1)], st.2.1, st.2.2)
 else bif cB st.1 x then (st.1.take (st.1.length - 2) ++ [zd4 4 (zdy st.1 2) (zdy st.1 1)], st.2.1, st.2.2)
 else bif cC st.1 st.2.2 x then (st.1.set (st.1.length - 1) (.mk 6 0#256 0 0 [zdy st.1 1]), st.2.1, st.2.2 + 1)
 else bif cD st.1 x then (bif decide (st.2.1 * tmM x ≤ 16) then (st.1.set (st.1.length - 1) (.mk 5 0#256 (loM x) (moM x) [zdy st.1 1]), st.2.1 * tmM x, st.2.2) else st)
 else st
def MM (l : List Sm) (i : Nat) : MSt := (l.take i).foldl zm3 ([], 1, 0)
def z7j (p : List Tr) : Tr := match p with
 | [] => zp5 [97]
 | x :: r => r.foldl (zd4 4) x
def zl5 (l : List Sm) : Tr := z7j (MM (l.take 25) 25).1
theorem zvn (l : List Sm) (i : Nat) (hi : i < l.length) : MM l (i + 1) = zm3 (MM l i) l[i] := by
 rw [MM, List.take_succ_eq_append_getElem hi, List.foldl_append]; rfl
theorem zix (kind : Nat) (a b : Tr) : (pre (zd4 kind a b)).length ≤ (pre a).length + (pre b).length + 1 := by
 have h := ze3 kind [a, b]
 simp only [zal, List.append_nil, List.length_append] at h
 rw [zd4, zst]
 obtain ⟨l, hl⟩ : ∃ l, zcj kind [a, b] = l := ⟨_, rfl⟩
 rw [hl] at h ⊢
 match l, h with
 | [], _ => simp [emptyT, pre, zal]
 | [x], h => simp [zal] at h ⊢; omega
 | x :: y :: l, h =>
  have e1 : (((x :: y :: l).length : Int) == 0) = false := by simp; omega
  have e2 : (((x :: y :: l).length : Int) == 1) = false := by simp; omega
  rw [e1, e2]
  simp only [cond_false, pre, List.length_cons]
  omega
theorem zgw {p : List Tr} {i : Nat} (h0 : 0 < i) (h : i ≤ p.length) : zdy p i = p[p.length - i]'(by omega) := by
 rw [zdy, List.getElem?_eq_getElem (by omega)]; rfl
theorem zkf {p : List Tr} (h : 2 ≤ p.length) : (zal (p.take (p.length - 2))).length + (pre (zdy p 2)).length + (pre (zdy p 1)).length = (zal p).length := by
 rw [zgw (by omega) h, zgw (by omega) (by omega)]
 conv => rhs; rw [← List.take_append_drop (p.length - 2) p]
 rw [za9, List.length_append, List.drop_eq_getElem_cons (by omega), show p.length - 2 + 1 = p.length - 1 by omega, List.drop_eq_getElem_cons (by omega), show p.length - 1 + 1 = p.length by omega, List.drop_length]
 simp [zal]; omega
theorem zxe {p : List Tr} {y : Tr} (h : 0 < p.length) : (zal (p.set (p.length - 1) y)).length + (pre (zdy p 1)).length = (zal p).length + (pre y).length := by
 rw [zgw (by omega) h]
 rw [List.set_eq_take_append_cons_drop, if_pos (by omega), show p.length - 1 + 1 = p.length by omega, List.drop_length, za9, List.length_append]
 conv => rhs; rw [← List.take_append_drop (p.length - 1) p]
 rw [za9, List.length_append, List.drop_eq_getElem_cons (by omega), show p.length - 1 + 1 = p.length by omega, List.drop_length]
 simp [zal]; omega
theorem z2s (x : Sm) : 1 ≤ tmM x ∧ tmM x ≤ 3 := by
 have h1 : x.2.1 % 3 < 3 := Nat.mod_lt _ (by decide)
 have h2 : x.2.2 % 4 < 4 := Nat.mod_lt _ (by decide)
 unfold tmM moM
 have h3 : loM x ≤ 2 := by unfold loM; omega
 have h4 : m4 x ≤ 3 := by unfold m4; omega
 cases badM x <;> simp only [cond_true, cond_false] <;> omega
theorem z2k (st : MSt) (x : Sm) (i : Nat) (h : (zal st.1).length ≤ i ∧ 0 ≤ st.2.2 ∧ st.2.2 ≤ 9 ∧ 1 ≤ st.2.1 ∧ st.2.1 ≤ 16) :
 (zal (zm3 st x).1).length ≤ i + 1 ∧ 0 ≤ (zm3 st x).2.2 ∧ (zm3 st x).2.2 ≤ 9 ∧ 1 ≤ (zm3 st x).2.1 ∧ (zm3 st x).2.1 ≤ 16 := by
 obtain ⟨h1, h2, h3, h4, h5⟩ := h
 unfold zm3
 cases decide (kI x < 4)
 ·cases kI x == 4
  ·cases hA : cA st.1 x
   ·cases hB : cB st.1 x
    ·cases hC : cC st.1 st.2.2 x
     ·cases hD : cD st.1 x
      ·simp only [cond_false]; omega
      ·simp only [cond_false, cond_true]
       cases hT : decide (st.2.1 * tmM x ≤ 16)
       ·simp only [cond_false]; omega
       ·simp only [cond_true]
        have hp : 0 < st.1.length := by
         unfold cD at hD
         simp only [Bool.and_eq_true, decide_eq_true_eq] at hD; omega
        have e := zxe (p := st.1) (y := .mk 5 0#256 (loM x) (moM x) [zdy st.1 1]) hp
        rw [zgj] at e
        have := (z2s x).1
        have h6 : 1 ≤ st.2.1 * tmM x := by
         have := Int.mul_le_mul h4 this (by omega) (by omega); omega
        simp only [decide_eq_true_eq] at hT
        exact ⟨by omega, by omega, by omega, h6, hT⟩
     ·simp only [cond_false, cond_true]
      unfold cC at hC
      simp only [Bool.and_eq_true, decide_eq_true_eq] at hC
      have e := zxe (p := st.1) (y := .mk 6 0#256 0 0 [zdy st.1 1]) (by omega)
      rw [zgj] at e
      omega
    ·simp only [cond_false, cond_true]
     unfold cB at hB
     simp only [Bool.and_eq_true, decide_eq_true_eq] at hB
     have e := zkf (p := st.1) (by omega)
     have e2 := zix 4 (zdy st.1 2) (zdy st.1 1)
     rw [za9, List.length_append]
     simp only [zal, List.append_nil]; omega
   ·simp only [cond_false, cond_true]
    unfold cA at hA
    simp only [Bool.and_eq_true, decide_eq_true_eq] at hA
    have e := zkf (p := st.1) (by omega)
    have e2 := zix 3 (zdy st.1 2) (zdy st.1 1)
    rw [za9, List.length_append]
    simp only [zal, List.append_nil]; omega
  ·simp only [cond_false, cond_true]
   rw [za9, List.length_append]
   simp [zal, emptyT, pre]; omega
 ·simp only [cond_true]
  rw [za9, List.length_append]
  simp [zal, zp5, pre]; omega
theorem invM (l : List Sm) : ∀ i, i ≤ l.length → (zal (MM l i).1).length ≤ i ∧ 0 ≤ (MM l i).2.2 ∧ (MM l i).2.2 ≤ 9 ∧ 1 ≤ (MM l i).2.1 ∧ (MM l i).2.1 ≤ 16
 | 0, _ => by simp [MM, zal]
 | i + 1, h => by
  rw [zvn l i (by omega)]
  exact z2k _ _ i (invM l i (by omega))
def smc (x : Sm) : List AV := [.raw (.int .u8 x.1), .raw (.int .u8 x.2.1), .raw (.int .u8 x.2.2)]
def z63 : List Sm → List AV
 | [] => []
 | x :: l => smc x ++ z63 l
def z4h (p : List Tr) (i : Nat) : Tr := match p with
 | [] => emptyT
 | x :: r => (r.take i).foldl (zd4 4) x
theorem zug {p : List Tr} {i : Nat} (h : i + 1 < p.length) : z4h p (i + 1) = zd4 4 (z4h p i) p[i + 1] := by
 cases p with
 | nil => simp at h
 | cons x r =>
  have hi : i < r.length := by simpa using h
  simp only [z4h, List.take_succ_eq_append_getElem hi, List.foldl_append, List.foldl_cons, List.foldl_nil, List.getElem_cons_succ]
theorem z18 {p : List Tr} (hp : p ≠ []) : ∀ i, i < p.length → (pre (z4h p i)).length ≤ (zal (p.take (i + 1))).length + i
 | 0, _ => by
  cases p with
  | nil => exact absurd rfl hp
  | cons x r => simp [z4h, zal]
 | i + 1, h => by
  rw [zug h]
  have h1 := zix 4 (z4h p i) p[i + 1]
  have h2 := z18 hp i (by omega)
  rw [List.take_succ_eq_append_getElem h, za9, List.length_append]
  simp only [zal, List.append_nil]; omega
theorem zml (p : List Tr) (i : Nat) : (zal (p.take i)).length ≤ (zal p).length := by
 conv => rhs; rw [← List.take_append_drop i p]
 rw [za9, List.length_append]; omega
theorem z6w {p : List Tr} (hp : p ≠ []) : z4h p (p.length - 1) = z7j p := by
 cases p with
 | nil => exact absurd rfl hp
 | cons x r => simp [z4h, z7j]
def aT := zp5 [97]
def bT := zp5 [98]
def cT := zp5 [99]
def CR (t : Tr) : Prop := (pre t).all zcm = true
def CRL (l : List Tr) : Prop := (zal l).all zcm = true
theorem zbp : CRL [] := by simp [CRL, zal]
theorem zaf (t : Tr) (l : List Tr) : CRL (t :: l) ↔ CR t ∧ CRL l := by simp [CRL, CR, zal]
theorem zcc (a b : List Tr) : CRL (a ++ b) ↔ CRL a ∧ CRL b := by simp [CRL, za9]
theorem zc7 : ∀ l : List Tr, CRL l ↔ ∀ t ∈ l, CR t
 | [] => by simp [zbp]
 | t :: l => by rw [zaf, zc7 l]; simp
theorem za7 (t : Tr) : CR t ↔ zcm t = true ∧ CRL t.l := by rw [CR, zc0, List.all_cons, Bool.and_eq_true]; rfl
theorem zek {t : Tr} {k : Nat} : zn6 t k = false ↔ ∀ y ∈ t.l, y.k ≠ k := by simp [zn6]
theorem ztw {l : List Tr} (h : 1 < l.length) (h1 : ∀ t ∈ l, t.k ≠ 1 ∧ t.k ≠ 3) : zcm (.mk 3 0#256 0 0 l) = true := by
 have e1 : zn6 (.mk 3 0#256 0 0 l) 1 = false := zek.2 fun y hy => (h1 y hy).1
 have e3 : zn6 (.mk 3 0#256 0 0 l) 3 = false := zek.2 fun y hy => (h1 y hy).2
 simp [zdg, zji, e1, e3]; omega
theorem ztt {l : List Tr} (h : 1 < l.length) (h1 : ∀ t ∈ l, t.k ≠ 4) : zcm (.mk 4 0#256 0 0 l) = true := by
 have e1 : zn6 (.mk 4 0#256 0 0 l) 4 = false := zek.2 fun y hy => h1 y hy
 simp [zdg, zji, e1]; omega
theorem znr {t : Tr} {lo hi : Int} (h : t.k ≠ 1) (hb : zb7 lo hi = true) : zcm (.mk 5 0#256 lo hi [t]) = true := by
 have e1 : zn6 (.mk 5 0#256 lo hi [t]) 1 = false := zek.2 fun y hy => by simp [Tr.l] at hy; subst hy; exact h
 simp [zdg, zji, e1, hb]
theorem ziq (t : Tr) : zcm (.mk 6 0#256 0 0 [t]) = true := by simp [zdg, zji]
theorem zht : zcm emptyT = true := by simp [emptyT, zdg, zji]
theorem zrt {t : Tr} (h : zcm t = true) : t.k = 1 ∨ t.k = 2 ∨ t.k = 3 ∨ t.k = 4 ∨ t.k = 5 ∨ t.k = 6 := by
 cases t with
 | mk k s mn mx l =>
  rw [zdg] at h
  simp only [Tr.k]
  by_cases h1 : k = 1; · exact .inl h1
  by_cases h2 : k = 2; · exact .inr (.inl h2)
  by_cases h3 : k = 3; · exact .inr (.inr (.inl h3))
  by_cases h4 : k = 4; · exact .inr (.inr (.inr (.inl h4)))
  by_cases h5 : k = 5; · exact .inr (.inr (.inr (.inr (.inl h5))))
  by_cases h6 : k = 6; · exact .inr (.inr (.inr (.inr (.inr h6))))
  exfalso
  have e : ∀ n : Nat, k ≠ n → ((k : Int) == n) = false := fun n hn => by simp; omega
  rw [show ((k : Int) == 1) = false from e 1 h1, show ((k : Int) == 2) = false from e 2 h2, show ((k : Int) == 3) = false from e 3 h3, show ((k : Int) == 4) = false from e 4 h4, show ((k : Int) == 5) = false from e 5 h5, show ((k : Int) == 6) = false from e 6 h6] at h
  simp at h
theorem zka {t : Tr} (h : zcm t = true) (hk : t.k = 3) : 1 < t.l.length ∧ ∀ y ∈ t.l, y.k ≠ 1 ∧ y.k ≠ 3 := by
 cases t with
 | mk k s mn mx l =>
  simp only [Tr.k] at hk; subst hk
  rw [zdg] at h
  simp only [Bool.and_eq_true, Bool.not_eq_true'] at h
  have h2 := h.2
  simp only [show ((((3 : Nat) : Int)) == 1) = false from rfl, show ((((3 : Nat) : Int)) == 2) = false from rfl, show ((((3 : Nat) : Int)) == 3) = true from rfl, cond_false, cond_true, Bool.and_eq_true, Bool.not_eq_true', decide_eq_true_eq] at h2
  exact ⟨by simp only [Tr.l]; omega, fun y hy => ⟨zek.1 h2.1.2 y hy, zek.1 h2.2 y hy⟩⟩
theorem zcp {t : Tr} (h : zcm t = true) (hk : t.k = 4) : 1 < t.l.length ∧ ∀ y ∈ t.l, y.k ≠ 4 := by
 cases t with
 | mk k s mn mx l =>
  simp only [Tr.k] at hk; subst hk
  rw [zdg] at h
  simp only [Bool.and_eq_true, Bool.not_eq_true'] at h
  have h2 := h.2
  simp only [show ((((4 : Nat) : Int)) == 1) = false from rfl, show ((((4 : Nat) : Int)) == 2) = false from rfl, show ((((4 : Nat) : Int)) == 3) = false from rfl, show ((((4 : Nat) : Int)) == 4) = true from rfl, cond_false, cond_true, Bool.and_eq_true, Bool.not_eq_true', decide_eq_true_eq] at h2
  exact ⟨by simp only [Tr.l]; omega, fun y hy => zek.1 h2.2 y hy⟩
theorem zv6 (t : Tr) (h5 : t.k ≠ 5) (h2 : t.k ≠ 2) : zmf t = min (zfp t.l) 10001 := by
 cases t with
 | mk k s mn mx l => simp only [Tr.k] at h5 h2; simp [zmf, h5, h2, Tr.l]
theorem zbz : ∀ a b, zfp (a ++ b) = zfp a + zfp b
 | [], b => by simp [zfp]
 | x :: a, b => by rw [List.cons_append, zfp, zfp, zbz a b]; omega
theorem zpt : zmf emptyT = 0 := by simp [emptyT, zmf, zfp]; rfl
theorem zyh (l : List Nat) : zmf (zp5 l) = 1 := by simp [zp5, zmf, zfp]; rfl
def grT (t : Tr) : Nat := (pre t).countP fun x => decide (x.k = 6)
def grL (l : List Tr) : Nat := (zal l).countP fun x => decide (x.k = 6)
theorem zdq : grL [] = 0 := by simp [grL, zal]
theorem zbx (t : Tr) (l : List Tr) : grL (t :: l) = grT t + grL l := by simp [grL, grT, zal]
theorem zc5 (a b : List Tr) : grL (a ++ b) = grL a + grL b := by simp [grL, za9]
theorem z7i (t : Tr) : grT t = grL t.l + (if t.k = 6 then 1 else 0) := by rw [grT, zc0, List.countP_cons]; simp [grL]
theorem z2v (k : Nat) (s : BS) (mn mx : Int) (l : List Tr) : grT (.mk k s mn mx l) = grL l + (if k = 6 then 1 else 0) := z7i _
theorem zuw : grT emptyT = 0 := by simp [emptyT, grT, pre, zal, Tr.k]
theorem z12 (l : List Nat) : grT (zp5 l) = 0 := by simp [zp5, grT, pre, zal, Tr.k]
theorem zem (kind : Nat) (x : Tr) (l : List Tr) : zcj kind (x :: l) = (bif (x.k : Int) == kind then x.l else bif (kind : Int) == 3 && (x.k : Int) == 1 then [] else [x]) ++ zcj kind l := by simp [zcj]
def G3 (l : List Tr) : Prop := CRL l ∧ ∀ y ∈ l, y.k ≠ 1 ∧ y.k ≠ 3
def G4 (l : List Tr) : Prop := CRL l ∧ ∀ y ∈ l, y.k ≠ 4
theorem zi8 : ∀ {l : List Tr}, CRL l → G3 (zcj 3 l)
 | [], _ => ⟨zbp, by simp [zcj]⟩
 | x :: l, h => by
  rw [zaf] at h
  obtain ⟨g1, g2⟩ := zi8 h.2
  have hx := (za7 x).1 h.1
  rw [zem]
  by_cases h3 : x.k = 3
  ·have e : ((x.k : Int) == ((3 : Nat) : Int)) = true := by simp [h3]
   rw [e, cond_true]
   refine ⟨(zcc _ _).2 ⟨hx.2, g1⟩, fun y hy => ?_⟩
   rcases List.mem_append.1 hy with hy | hy
   ·exact (zka hx.1 h3).2 y hy
   ·exact g2 y hy
  ·have e : ((x.k : Int) == ((3 : Nat) : Int)) = false := by simp; omega
   rw [e, cond_false]
   by_cases h1 : x.k = 1
   ·have e1 : ((((3 : Nat) : Int) == 3) && ((x.k : Int) == 1)) = true := by simp [h1]
    rw [e1, cond_true, List.nil_append]; exact ⟨g1, g2⟩
   ·have e1 : ((((3 : Nat) : Int) == 3) && ((x.k : Int) == 1)) = false := by simp; omega
    rw [e1, cond_false, List.singleton_append]
    refine ⟨(zaf _ _).2 ⟨h.1, g1⟩, fun y hy => ?_⟩
    rcases List.mem_cons.1 hy with rfl | hy
    ·exact ⟨h1, h3⟩
    ·exact g2 y hy
theorem ziv : ∀ {l : List Tr}, CRL l → G4 (zcj 4 l)
 | [], _ => ⟨zbp, by simp [zcj]⟩
 | x :: l, h => by
  rw [zaf] at h
  obtain ⟨g1, g2⟩ := ziv h.2
  have hx := (za7 x).1 h.1
  rw [zem]
  by_cases h3 : x.k = 4
  ·have e : ((x.k : Int) == ((4 : Nat) : Int)) = true := by simp [h3]
   rw [e, cond_true]
   refine ⟨(zcc _ _).2 ⟨hx.2, g1⟩, fun y hy => ?_⟩
   rcases List.mem_append.1 hy with hy | hy
   ·exact (zcp hx.1 h3).2 y hy
   ·exact g2 y hy
  ·have e : ((x.k : Int) == ((4 : Nat) : Int)) = false := by simp; omega
   have e1 : ((((4 : Nat) : Int) == 3) && ((x.k : Int) == 1)) = false := by simp
   rw [e, cond_false, e1, cond_false, List.singleton_append]
   refine ⟨(zaf _ _).2 ⟨h.1, g1⟩, fun y hy => ?_⟩
   rcases List.mem_cons.1 hy with rfl | hy
   ·exact h3
   ·exact g2 y hy
theorem zhr (kind : Nat) (x : Tr) : zst kind [x] = x := rfl
theorem zfw (kind : Nat) (x y : Tr) (l : List Tr) : zst kind (x :: y :: l) = .mk kind 0#256 0 0 (x :: y :: l) := by
 have e1 : (((x :: y :: l).length : Int) == 0) = false := by simp; omega
 have e2 : (((x :: y :: l).length : Int) == 1) = false := by simp; omega
 rw [zst, e1, e2]; rfl
theorem zqy : ∀ {l : List Tr}, G3 l → CR (zst 3 l)
 | [], _ => (za7 _).2 ⟨zht, zbp⟩
 | [x], h => (zc7 _).1 h.1 x (by simp)
 | x :: y :: l, h => by rw [zfw]; exact (za7 _).2 ⟨ztw (by simp) h.2, h.1⟩
theorem zq6 : ∀ {l : List Tr}, G4 l → CR (zst 4 l)
 | [], _ => (za7 _).2 ⟨zht, zbp⟩
 | [x], h => (zc7 _).1 h.1 x (by simp)
 | x :: y :: l, h => by rw [zfw]; exact (za7 _).2 ⟨ztt (by simp) h.2, h.1⟩
theorem z2x {a b : Tr} (ha : CR a) (hb : CR b) : CR (zd4 3 a b) := zqy (zi8 ((zc7 _).2 (by simp [ha, hb])))
theorem zur {a b : Tr} (ha : CR a) (hb : CR b) : CR (zd4 4 a b) := zq6 (ziv ((zc7 _).2 (by simp [ha, hb])))
theorem zun (kind : Nat) (hk : kind = 3 ∨ kind = 4) : ∀ l : List Tr, zfp l ≤ 10000 → zfp (zcj kind l) ≤ zfp l
 | [], _ => by simp [zcj, zfp]
 | x :: l, h => by
  rw [zfp] at h
  have h1 := zjj x
  have h2 := zed l
  have ih := zun kind hk l (by omega)
  rw [zem, zbz, zfp]
  have : zfp (bif (x.k : Int) == kind then x.l else bif (kind : Int) == 3 && (x.k : Int) == 1 then [] else [x]) ≤ zmf x := by
   cases e : (x.k : Int) == kind
   ·rw [cond_false]
    cases (kind : Int) == 3 && (x.k : Int) == 1
    ·simp [zfp]
    ·simp [zfp]; omega
   ·rw [cond_true]
    have e' : x.k = kind := by simp at e; omega
    have := zv6 x (by omega) (by omega)
    omega
  omega
theorem z49 (kind : Nat) (hk : kind = 3 ∨ kind = 4) : ∀ l : List Tr, zmf (zst kind l) ≤ zfp l
 | [] => by rw [show zst kind [] = emptyT from rfl, zpt]; simp [zfp]
 | [x] => by rw [zhr]; simp [zfp]
 | x :: y :: l => by
  rw [zfw, zv6 _ (by simp only [Tr.k]; omega) (by simp only [Tr.k]; omega)]
  simp only [Tr.l]; omega
theorem zog (kind : Nat) (hk : kind = 3 ∨ kind = 4) {a b : Tr} (h : zmf a + zmf b ≤ 10000) : zmf (zd4 kind a b) ≤ zmf a + zmf b := by
 have h0 : zfp [a, b] = zmf a + zmf b := by simp [zfp]
 have h1 := zun kind hk [a, b] (by omega)
 have h2 := z49 kind hk (zcj kind [a, b])
 rw [zd4]; omega
theorem zy1 (kind : Nat) (hk : kind = 3 ∨ kind = 4) : ∀ l : List Tr, CRL l → grL (zcj kind l) ≤ grL l
 | [], _ => by simp [zcj]
 | x :: l, h => by
  rw [zaf] at h
  have ih := zy1 kind hk l h.2
  rw [zem, zc5, zbx]
  have : grL (bif (x.k : Int) == kind then x.l else bif (kind : Int) == 3 && (x.k : Int) == 1 then [] else [x]) ≤ grT x := by
   cases e : (x.k : Int) == kind
   ·rw [cond_false]
    cases (kind : Int) == 3 && (x.k : Int) == 1
    ·rw [cond_false, zbx, zdq]; omega
    ·rw [cond_true, zdq]; omega
   ·rw [cond_true]
    have := z7i x; omega
  omega
theorem endJ_gr (kind : Nat) (hk : kind = 3 ∨ kind = 4) : ∀ l : List Tr, grT (zst kind l) ≤ grL l
 | [] => by rw [show zst kind [] = emptyT from rfl, zuw]; omega
 | [x] => by rw [zhr, zbx]; omega
 | x :: y :: l => by
  rw [zfw, z2v, if_neg (by omega)]; omega
theorem zsa (kind : Nat) (hk : kind = 3 ∨ kind = 4) {a b : Tr} (ha : CR a) (hb : CR b) : grT (zd4 kind a b) ≤ grT a + grT b := by
 have h1 := zy1 kind hk [a, b] ((zc7 _).2 (by simp [ha, hb]))
 have h2 := endJ_gr kind hk (zcj kind [a, b])
 simp only [zbx, zdq] at h1
 rw [zd4]; omega
structure OkM (st : MSt) (i : Nat) : Prop where
 cr : CRL st.1
 pos : zfp st.1 ≤ (i : Int) * st.2.1
 gr : (grL st.1 : Int) ≤ st.2.2
theorem zpw {p : List Tr} (h : 0 < p.length) : p = p.take (p.length - 1) ++ [zdy p 1] := by
 rw [zgw (by omega) (by omega)]
 conv => lhs; rw [← List.take_append_drop (p.length - 1) p]
 rw [List.drop_eq_getElem_cons (by omega), List.drop_of_length_le (by omega)]
theorem zu1 {p : List Tr} (h : 2 ≤ p.length) : p = p.take (p.length - 2) ++ [zdy p 2, zdy p 1] := by
 rw [zgw (i := 2) (by omega) (by omega), zgw (i := 1) (by omega) (by omega)]
 conv => lhs; rw [← List.take_append_drop (p.length - 2) p]
 rw [List.drop_eq_getElem_cons (by omega), List.drop_eq_getElem_cons (by omega), List.drop_of_length_le (by omega)]
 simp only [show p.length - 2 + 1 = p.length - 1 by omega]
theorem zyj {p : List Tr} (h : 0 < p.length) (y : Tr) : p.set (p.length - 1) y = p.take (p.length - 1) ++ [y] := by
 rw [List.set_eq_take_append_cons_drop, if_pos (by omega), List.drop_of_length_le (by omega)]
theorem z2l : ∀ j, j < 12 → zcm (zp5 (zqv j)) = true := by decide +kernel
theorem z7d {j : Nat} (h : j < 12) : CR (zp5 (zqv j)) := (za7 _).2 ⟨z2l j h, zbp⟩
theorem z33 (x : Sm) : zb7 (loM x) (moM x) = true := by
 have h1 : x.2.1 % 3 < 3 := Nat.mod_lt _ (by decide)
 have h2 : x.2.2 % 4 < 4 := Nat.mod_lt _ (by decide)
 unfold moM badM loM m4
 generalize x.2.1 % 3 = a at *
 generalize x.2.2 % 4 = b at *
 have key : ∀ a, a < 3 → ∀ b, b < 4 → zb7 ((a : Nat) : Int) (bif decide (((b : Nat) : Int) < (a : Int)) || (b : Int) == 0 || (a : Int) == 1 && (b : Int) == 1 then -1 else (b : Int)) = true := by decide
 exact key a h1 b h2
theorem zwt (x : Sm) (t : Tr) : zmf (.mk 5 0#256 (loM x) (moM x) [t]) ≤ zmf t * tmM x := by
 have h1 : x.2.1 % 3 < 3 := Nat.mod_lt _ (by decide)
 have h2 : x.2.2 % 4 < 4 := Nat.mod_lt _ (by decide)
 have h0 := zjj t
 have hlo : 0 ≤ loM x := by unfold loM; omega
 have hf : min (if moM x = -1 then max (max (loM x) 0) 1 else max (max (loM x) 0) (moM x)) 10001 ≤ tmM x := by
  unfold tmM
  split
  ·rename_i e; rw [e]; omega
  ·omega
 have hm := Int.mul_le_mul_of_nonneg_left hf h0
 simp only [zmf, zfp, if_true, if_neg (show ¬ (5 = 2) by decide), Int.add_zero, Int.zero_add]
 omega
theorem z56 {st : MSt} {i : Nat} (x : Sm) (h : OkM st i) (hi : i ≤ 25) (hv : 0 ≤ st.2.2 ∧ st.2.2 ≤ 9 ∧ 1 ≤ st.2.1 ∧ st.2.1 ≤ 16) : OkM (zm3 st x) (i + 1) := by
 obtain ⟨c, p, g⟩ := h
 obtain ⟨v1, v2, v3, v4⟩ := hv
 have e0 : ((i + 1 : Nat) : Int) * st.2.1 = (i : Int) * st.2.1 + st.2.1 := by rw [Int.natCast_add, Int.add_mul]; simp
 have e400 : (i : Int) * st.2.1 ≤ 400 := by
  have := Int.mul_le_mul (show (i : Int) ≤ 25 by omega) v4 (by omega) (by omega)
  omega
 have c0 := (zc7 _).1 c
 unfold zm3
 cases decide (kI x < 4)
 ·cases kI x == 4
  ·cases hA : cA st.1 x
   ·cases hB : cB st.1 x
    ·cases hC : cC st.1 st.2.2 x
     ·cases hD : cD st.1 x
      ·simp only [cond_false]; exact ⟨c, by omega, g⟩
      ·simp only [cond_false, cond_true]
       cases hT : decide (st.2.1 * tmM x ≤ 16)
       ·simp only [cond_false]; exact ⟨c, by omega, g⟩
       ·simp only [cond_true]
        unfold cD at hD
        simp only [Bool.and_eq_true, decide_eq_true_eq, bne_iff_ne, ne_eq] at hD
        have hp : 0 < st.1.length := by omega
        have es := zpw hp
        rw [zyj hp]
        rw [es, zcc, zaf] at c
        rw [es, zbz] at p
        rw [es, zc5, zbx, zdq] at g
        simp only [zfp, Int.add_zero] at p
        refine ⟨(zcc _ _).2 ⟨c.1, (zaf _ _).2 ⟨(za7 _).2 ⟨znr (by omega) (z33 x), (zaf _ _).2 ⟨c.2.1, zbp⟩⟩, zbp⟩⟩, ?_, ?_⟩
        ·have h1 := zwt x (zdy st.1 1)
         have h2 := zed (st.1.take (st.1.length - 1))
         have h3 := (z2s x).1
         rw [zbz]
         simp only [zfp, Int.add_zero]
         have h4 := Int.mul_le_mul_of_nonneg_right p (show 0 ≤ tmM x by omega)
         have h5 := Int.mul_le_mul_of_nonneg_left h3 h2
         rw [Int.add_mul] at h4
         have e1 : ((i + 1 : Nat) : Int) * (st.2.1 * tmM x) = (i : Int) * st.2.1 * tmM x + st.2.1 * tmM x := by
          rw [Int.natCast_add, Int.add_mul, Int.mul_assoc]; simp
         have h6 : 0 ≤ st.2.1 * tmM x := Int.mul_nonneg (by omega) (by omega)
         rw [e1]; omega
        ·dsimp only; rw [zc5, zbx, zdq, z2v, zbx, zdq, if_neg (by decide)]; omega
     ·simp only [cond_false, cond_true]
      unfold cC at hC
      simp only [Bool.and_eq_true, decide_eq_true_eq] at hC
      have hp : 0 < st.1.length := by omega
      have es := zpw hp
      rw [zyj hp]
      rw [es, zcc, zaf] at c
      rw [es, zbz] at p
      rw [es, zc5, zbx, zdq] at g
      simp only [zfp, Int.add_zero] at p
      refine ⟨(zcc _ _).2 ⟨c.1, (zaf _ _).2 ⟨(za7 _).2 ⟨ziq _, (zaf _ _).2 ⟨c.2.1, zbp⟩⟩, zbp⟩⟩, ?_, ?_⟩
      ·rw [zbz, zfp, zv6 _ (by simp only [Tr.k]; omega) (by simp only [Tr.k]; omega)]
       simp only [Tr.l, zfp, Int.add_zero]; omega
      ·dsimp only; rw [zc5, zbx, zdq, z2v, zbx, zdq, if_pos rfl]; omega
    ·simp only [cond_false, cond_true]
     unfold cB at hB
     simp only [Bool.and_eq_true, decide_eq_true_eq] at hB
     have hp : 2 ≤ st.1.length := by omega
     have es := zu1 hp
     rw [es, zcc, zaf, zaf] at c
     rw [es, zbz] at p
     rw [es, zc5, zbx, zbx, zdq] at g
     simp only [zfp, Int.add_zero] at p
     have n0 := zed (st.1.take (st.1.length - 2))
     refine ⟨(zcc _ _).2 ⟨c.1, (zaf _ _).2 ⟨zur c.2.1 c.2.2.1, zbp⟩⟩, ?_, ?_⟩
     ·have := zog 4 (.inr rfl) (a := zdy st.1 2) (b := zdy st.1 1) (by omega)
      rw [zbz]; simp only [zfp, Int.add_zero]; omega
     ·dsimp only; have := zsa 4 (.inr rfl) c.2.1 c.2.2.1
      rw [zc5, zbx, zdq]; omega
   ·simp only [cond_false, cond_true]
    unfold cA at hA
    simp only [Bool.and_eq_true, decide_eq_true_eq] at hA
    have hp : 2 ≤ st.1.length := by omega
    have es := zu1 hp
    rw [es, zcc, zaf, zaf] at c
    rw [es, zbz] at p
    rw [es, zc5, zbx, zbx, zdq] at g
    simp only [zfp, Int.add_zero] at p
    have n0 := zed (st.1.take (st.1.length - 2))
    refine ⟨(zcc _ _).2 ⟨c.1, (zaf _ _).2 ⟨z2x c.2.1 c.2.2.1, zbp⟩⟩, ?_, ?_⟩
    ·have := zog 3 (.inl rfl) (a := zdy st.1 2) (b := zdy st.1 1) (by omega)
     rw [zbz]; simp only [zfp, Int.add_zero]; omega
    ·dsimp only; have := zsa 3 (.inl rfl) c.2.1 c.2.2.1
     rw [zc5, zbx, zdq]; omega
  ·simp only [cond_false, cond_true]
   refine ⟨(zcc _ _).2 ⟨c, (zaf _ _).2 ⟨(za7 _).2 ⟨zht, zbp⟩, zbp⟩⟩, ?_, ?_⟩
   ·rw [zbz]; simp only [zfp, zpt]; omega
   ·dsimp only; rw [zc5, zbx, zdq, zuw]; omega
 ·simp only [cond_true]
  refine ⟨(zcc _ _).2 ⟨c, (zaf _ _).2 ⟨z7d (Nat.mod_lt _ (by decide)), zbp⟩⟩, ?_, ?_⟩
  ·rw [zbz]; simp only [zfp, zyh]; omega
  ·dsimp only; rw [zc5, zbx, zdq, z12]; omega
theorem okM (l : List Sm) (hl : l.length ≤ 25) : ∀ i, i ≤ l.length → OkM (MM l i) i
 | 0, _ => ⟨by simp [MM]; exact zbp, by simp [MM, zfp], by simp [MM, zdq]⟩
 | i + 1, h => by
  rw [zvn l i (by omega)]
  have := invM l i (by omega)
  exact z56 _ (okM l hl i (by omega)) (by omega) ⟨this.2.1, this.2.2.1, this.2.2.2.1, this.2.2.2.2⟩
theorem z3z : ∀ (r : List Tr) (x : Tr), CR x → CRL r → zmf x + zfp r ≤ 400 →
 CR (r.foldl (zd4 4) x) ∧ zmf (r.foldl (zd4 4) x) ≤ zmf x + zfp r ∧ grT (r.foldl (zd4 4) x) ≤ grT x + grL r ∧ (pre (r.foldl (zd4 4) x)).length ≤ (pre x).length + (zal r).length + r.length
 | [], x, h, _, _ => by simp [zfp, zdq, zal, h]
 | y :: r, x, h, hr, hp => by
  rw [zaf] at hr
  rw [zfp] at hp
  have n1 := zed r
  have j1 := zog 4 (.inr rfl) (a := x) (b := y) (by omega)
  have j2 := zsa 4 (.inr rfl) h hr.1
  have j3 := zix 4 x y
  obtain ⟨k1, k2, k3, k4⟩ := z3z r (zd4 4 x y) (zur h hr.1) hr.2 (by omega)
  rw [List.foldl_cons, zfp, zbx, zal, List.length_append, List.length_cons]
  exact ⟨k1, by omega, by omega, by omega⟩
theorem made_ok (l : List Sm) : CR (zl5 l) ∧ zmf (zl5 l) ≤ 400 ∧ grT (zl5 l) ≤ 9 ∧ (pre (zl5 l)).length ≤ 50 := by
 obtain ⟨m, hm⟩ : ∃ m, l.take 25 = m := ⟨_, rfl⟩
 have hlen : m.length ≤ 25 := by rw [← hm, List.length_take]; omega
 rw [zl5, hm]
 have e : MM m 25 = MM m m.length := by rw [MM, MM, List.take_of_length_le hlen, List.take_length]
 rw [e]
 have o := okM m hlen m.length (Nat.le_refl _)
 have v := invM m m.length (Nat.le_refl _)
 obtain ⟨c, p, g⟩ := o
 have p400 : zfp (MM m m.length).1 ≤ 400 := by
  have := Int.mul_le_mul (show (m.length : Int) ≤ 25 by omega) v.2.2.2.2 (by omega) (by omega)
  omega
 match h : (MM m m.length).1 with
 | [] => exact ⟨z7d (j := 0) (by decide), by rw [z7j, zyh]; omega, by rw [z7j, z12]; omega, by simp [z7j, zp5, pre, zal]⟩
 | x :: r =>
  rw [h] at c p400 g v
  rw [zaf] at c
  rw [zfp] at p400
  rw [zbx] at g
  have hv := v.1
  rw [zal, List.length_append] at hv
  obtain ⟨k1, k2, k3, k4⟩ := z3z r x c.1 c.2 (by omega)
  have hr := zad r
  rw [z7j]
  exact ⟨k1, by omega, by omega, by omega⟩
theorem zes {t : Tr} (h : CR t) (hl : (pre t).length ≤ 10000) : zbg t = true := by
 rw [zbg, zb4, Bool.and_eq_true]; exact ⟨by simpa using hl, h⟩
theorem z0n (lo hi : Int) : zb7 lo hi = true ↔ (0 ≤ lo ∧ lo ≤ 16 ∧ ¬ (lo = 1 ∧ hi = 1)) ∧ (hi = -1 ∨ (1 ≤ hi ∧ hi ≤ 16 ∧ lo ≤ hi)) := by simp [zb7]; omega
structure MT (t : Tr) : Prop where
 cr : CR t
 pos : zmf t ≤ 400
 gr : grT t ≤ 9
 len : (pre t).length ≤ 50
theorem MT.clean {t : Tr} (h : MT t) : zbg t = true := zes h.cr (by have := h.len; omega)
theorem MT.light {t : Tr} (h : MT t) : zb4 t = true := by have := h.len; simp [zb4]; omega
theorem MT.good {t : Tr} (h : MT t) : zjt t = true := by rw [zjt, h.clean, Bool.or_true]
theorem MT.k0 {t : Tr} (h : MT t) : t.k ≠ 0 := by have := zrt ((za7 t).1 h.cr).1; omega
theorem z2t (l : List Sm) : MT (zl5 l) := by obtain ⟨h1, h2, h3, h4⟩ := made_ok l; exact ⟨h1, h2, h3, h4⟩
theorem z0s {t : Tr} (h : zb4 t = true) : zeo t t = true := by rw [zeo, h, (zf6 t t).2 rfl]; rfl
theorem flatT3 (l : List Tr) : zge 3 1 l = zcj 3 l := by
 unfold zge zcj
 congr 1
theorem z7a : ∀ {l : List Tr}, (∀ t ∈ l, t.k ≠ 0) → zge 4 0 l = zcj 4 l
 | [], _ => rfl
 | x :: l, h => by
  have ih := z7a (l := l) fun t ht => h t (List.mem_cons_of_mem _ ht)
  have e0 : ((x.k : Int) == ((0 : Nat) : Int)) = false := by have := h x (by simp); simp; omega
  rw [zem, ← ih, zge, List.flatMap_cons, ← zge, e0]
  rfl
def CS (n : Nat) (t : Tr) : Prop := CR t ∧ (pre t).length ≤ n
theorem MT.cs {t : Tr} (h : MT t) : CS 50 t := ⟨h.cr, h.len⟩
theorem CR.k0 {t : Tr} (h : CR t) : t.k ≠ 0 := by have := zrt ((za7 t).1 h).1; omega
theorem zm6 (kind : Nat) : ∀ l : List Tr, (pre (zst kind l)).length ≤ (zal l).length + 1
 | [] => by rw [show zst kind [] = emptyT from rfl]; simp [emptyT, pre, zal]
 | [x] => by rw [zhr]; simp [zal]
 | x :: y :: l => by rw [zfw, pre, List.length_cons]; omega
theorem ze9 {t : Tr} (h : zbg t = true) : zdt t = t := by rw [zdt, if_pos h]
theorem z0v {l : List Tr} (h : CRL l) (hl : (zal l).length ≤ 1000) : zm8 l = zst 3 (zcj 3 l) := by
 have hc := (zc7 l).1 h
 have hln : ∀ t ∈ l, (pre t).length ≤ 1000 := fun t ht => by
  have : ∀ (l : List Tr), t ∈ l → (pre t).length ≤ (zal l).length := by
   intro l
   induction l with
   | nil => intro h; cases h
   | cons y l ih =>
    intro h
    rw [zal, List.length_append]
    rcases List.mem_cons.1 h with rfl | h
    ·omega
    ·have := ih h; omega
  have := this l ht; omega
 have ha : (l.any fun x => (x.k : Int) == 0 || !zbg x) = false := by
  rw [List.any_eq_false]
  intro x hx
  have h1 := zes (hc x hx) (by have := hln x hx; omega)
  have h2 := (hc x hx).k0
  simp [h1]; omega
 rw [zm8, ha, if_neg (by decide), flatT3]
 have g := zi8 h
 have hfl := ze3 3 l
 have hend := zm6 3 (zcj 3 l)
 have hcr := zqy g
 revert hend hcr
 generalize zcj 3 l = m at g hfl
 intro hend hcr
 match m, g, hend, hcr with
 | [], _, _, _ => rfl
 | [x], _, hend, hcr =>
  rw [zhr] at hend hcr ⊢
  show zdt x = x
  exact ze9 (zes hcr (by omega))
 | x :: y :: m, _, hend, hcr =>
  rw [zfw] at hend hcr ⊢
  have e1 : (((x :: y :: m).length : Int) == 0) = false := by simp; omega
  have e2 : (((x :: y :: m).length : Int) == 1) = false := by simp; omega
  rw [zj1, e1, e2]
  exact ze9 (zes hcr (by omega))
theorem zxq {l : List Tr} (h : CRL l) (hl : l ≠ []) : zcj 4 l ≠ [] := by
 cases l with
 | nil => exact absurd rfl hl
 | cons x l =>
  rw [zaf] at h
  rw [zem]
  by_cases h4 : x.k = 4
  ·have e : ((x.k : Int) == ((4 : Nat) : Int)) = true := by simp [h4]
   rw [e, cond_true]
   have hlen := (zcp ((za7 x).1 h.1).1 h4).1
   intro hn
   have h1 := (List.append_eq_nil_iff.1 hn).1
   rw [h1] at hlen
   simp at hlen
  ·have e : ((x.k : Int) == ((4 : Nat) : Int)) = false := by simp; omega
   have e1 : ((((4 : Nat) : Int) == 3) && ((x.k : Int) == 1)) = false := by simp
   rw [e, cond_false, e1, cond_false]
   simp
theorem or_eq {l : List Tr} (h : CRL l) (hne : l ≠ []) (hl : (zal l).length ≤ 1000) : orT l = zst 4 (zcj 4 l) := by
 have hc := (zc7 l).1 h
 have hln : ∀ t ∈ l, (pre t).length ≤ 1000 := fun t ht => by
  have : ∀ (l : List Tr), t ∈ l → (pre t).length ≤ (zal l).length := by
   intro l
   induction l with
   | nil => intro h; cases h
   | cons y l ih =>
    intro h
    rw [zal, List.length_append]
    rcases List.mem_cons.1 h with rfl | h
    ·omega
    ·have := ih h; omega
  have := this l ht; omega
 have ha : (l.any fun x => !zjt x) = false := by
  rw [List.any_eq_false]
  intro x hx
  have h1 := zes (hc x hx) (by have := hln x hx; omega)
  rw [zjt, h1]; simp
 rw [orT, ha, if_neg (by decide), z7a fun t ht => (hc t ht).k0]
 have g := ziv h
 have hn := zxq h hne
 have hfl := ze3 4 l
 have hend := zm6 4 (zcj 4 l)
 have hcr := zq6 g
 revert hend hcr hn
 generalize zcj 4 l = m at g hfl
 intro hn hend hcr
 match m, g, hend, hcr, hn with
 | [], _, _, _, hn => exact absurd rfl hn
 | [x], _, hend, hcr, _ =>
  rw [zhr] at hend hcr ⊢
  show zdt x = x
  exact ze9 (zes hcr (by omega))
 | x :: y :: m, _, hend, hcr, _ =>
  rw [zfw] at hend hcr ⊢
  have e1 : (((x :: y :: m).length : Int) == 0) = false := by simp; omega
  have e2 : (((x :: y :: m).length : Int) == 1) = false := by simp; omega
  rw [zj1, e1, e2]
  exact ze9 (zes hcr (by omega))
def z4y (c : Int) : List AV := [.raw (.int .u8 c)]
theorem zwf : ∀ j : Nat, j < 256 → zr3 .u8 (j : Int) 6 = ((j / 64 : Nat) : Int) ∧ z1l .u8 (j : Int) 63 = ((j % 64 : Nat) : Int) ∧ IntKind.u8.wrap (j : Int) = (j : Int) := by decide +kernel
theorem zt4 {n : Nat} (h : n < 2 ^ 64) : IntKind.u64.wrap (n : Int) = (n : Int) := by
 simp only [IntKind.wrap, IntKind.bits, IntKind.signed]
 simp; omega
theorem zyw (w : BitVec 64) : IntKind.u64.wrap ((w.toNat : Nat) : Int) = ((w.toNat : Nat) : Int) := zt4 w.isLt
theorem zq4 (x : BitVec 64) : BitVec.ofInt 64 ((x.toNat : Nat) : Int) = x := by
 apply BitVec.eq_of_toNat_eq; simp
theorem orI64 (x y : BitVec 64) : orI .u64 (x.toNat : Int) (y.toNat : Int) = ((x ||| y).toNat : Int) := by
 show IntKind.u64.wrap (((BitVec.ofInt 64 (x.toNat : Int) ||| BitVec.ofInt 64 (y.toNat : Int)).toNat : Nat) : Int) = _
 rw [zq4, zq4]; exact zyw _
theorem z1t (x y : BitVec 64) : zln .u64 (x.toNat : Int) (y.toNat : Int) = ((x &&& ~~~ y).toNat : Int) := by
 show IntKind.u64.wrap (((BitVec.ofInt 64 (x.toNat : Int) &&& ~~~ BitVec.ofInt 64 (y.toNat : Int)).toNat : Nat) : Int) = _
 rw [zq4, zq4]; exact zyw _
theorem wd_or (a b : BS) (i : Nat) : orI .u64 (wd a i) (wd b i) = wd (a ||| b) i := by
 unfold wd
 rw [orI64]
 have : W64 a i ||| W64 b i = W64 (a ||| b) i := by
  apply BitVec.eq_of_getLsbD_eq
  intro j hj
  simp only [W64, BitVec.getLsbD_or, BitVec.getLsbD_extractLsb', hj, decide_true, Bool.true_and]
 rw [this]
theorem zsc (a b : BS) (i : Nat) (hi : i < 4) : zln .u64 (wd a i) (wd b i) = wd (a &&& ~~~ b) i := by
 unfold wd
 rw [z1t]
 have : W64 a i &&& ~~~ W64 b i = W64 (a &&& ~~~ b) i := by
  apply BitVec.eq_of_getLsbD_eq
  intro j hj
  simp only [W64, BitVec.getLsbD_and, BitVec.getLsbD_not, BitVec.getLsbD_extractLsb', hj, decide_true, Bool.true_and]
  have : 64 * i + j < 256 := by omega
  simp [this]
 rw [this]
theorem z52 (w : BitVec 64) (r : Nat) (hr : r < 64) : (z1l .u64 (zr3 .u64 ((w.toNat : Nat) : Int) (r : Int)) 1 == 1) = w.getLsbD r := by
 have hw := w.isLt
 have h1 : zr3 .u64 ((w.toNat : Nat) : Int) (r : Int) = ((w.toNat / 2 ^ r : Nat) : Int) := by
  unfold zr3
  rw [show min (r : Int).toNat IntKind.u64.bits = r from by simp [IntKind.bits]; omega]
  rw [Int.fdiv_eq_ediv_of_nonneg _ (by exact_mod_cast Nat.zero_le _)]
  norm_cast
 rw [h1]
 have h2 : w.toNat / 2 ^ r < 2 ^ 64 := Nat.lt_of_le_of_lt (Nat.div_le_self _ _) hw
 show (IntKind.u64.wrap (((BitVec.ofInt 64 ((w.toNat / 2 ^ r : Nat) : Int) &&& BitVec.ofInt 64 1).toNat : Nat) : Int) == 1) = _
 have h3 : (BitVec.ofInt 64 ((w.toNat / 2 ^ r : Nat) : Int) &&& BitVec.ofInt 64 1).toNat = w.toNat / 2 ^ r % 2 := by
  rw [BitVec.toNat_and]
  have e1 : (BitVec.ofInt 64 ((w.toNat / 2 ^ r : Nat) : Int)).toNat = w.toNat / 2 ^ r := by
   rw [BitVec.ofInt_natCast, BitVec.toNat_ofNat]; exact Nat.mod_eq_of_lt h2
  have e2 : (BitVec.ofInt 64 1).toNat = 1 := rfl
  rw [e1, e2, Nat.and_one_is_mod]
 rw [h3]
 have h4 : w.toNat / 2 ^ r % 2 < 2 := Nat.mod_lt _ (by decide)
 have h5 : IntKind.u64.wrap ((w.toNat / 2 ^ r % 2 : Nat) : Int) = ((w.toNat / 2 ^ r % 2 : Nat) : Int) := zt4 (Nat.lt_trans h4 (by decide))
 rw [h5, BitVec.getLsbD, Nat.testBit_eq_decide_div_mod_eq]
 generalize w.toNat / 2 ^ r % 2 = m
 rw [Bool.eq_iff_iff]; simp only [beq_iff_eq, decide_eq_true_eq]; omega
def elN (s : BS) (i : Nat) : List Nat := (List.range i).filter fun j => s.getLsbD j
def els (s : BS) : List Int := (elN s 256).map fun (j : Nat) => (j : Int)
theorem zxm (s : BS) (i : Nat) : elN s (i + 1) = elN s i ++ (if s.getLsbD i = true then [i] else []) := by
 rw [elN, List.range_succ, List.filter_append]; simp [elN, List.filter_cons]
theorem z2h (s : BS) {i : Nat} (h : s.getLsbD i = true) : ∀ k, i < k → (elN s k)[(elN s i).length]? = some i
 | 0, hk => by omega
 | k + 1, hk => by
  rw [zxm]
  by_cases e : i = k
  ·subst e; rw [if_pos h]; simp
  ·have ih := z2h s h k (by omega)
   rw [List.getElem?_append_left (List.getElem?_eq_some_iff.1 ih).1]; exact ih
def zj2 (x y : Int) : Int := if x < y then -1 else if x > y then 1 else 0
def zqo (p q : Nat → Bool) : List Nat → Int
 | [] => 0
 | j :: l => if p j = q j then zqo p q l else if p j = true then -1 else 1
def cmpS (s t : BS) : Int := zqo s.getLsbD t.getLsbD (List.range 256)
theorem zti (p q : Nat → Bool) : ∀ l, zqo p q l = - zqo q p l
 | [] => rfl
 | j :: l => by
  rw [zqo, zqo]
  by_cases h : p j = q j
  ·rw [if_pos h, if_pos h.symm, zti p q l]
  ·rw [if_neg h, if_neg (Ne.symm h)]
   cases hp : p j <;> cases hq : q j <;> simp_all
theorem zp4 (p q : Nat → Bool) : ∀ l, zqo p q l = -1 ∨ zqo p q l = 0 ∨ zqo p q l = 1
 | [] => .inr (.inl rfl)
 | j :: l => by
  rw [zqo]
  split
  ·exact zp4 p q l
  ·split
   ·exact .inl rfl
   ·exact .inr (.inr rfl)
theorem zuz (p q : Nat → Bool) : ∀ l, zqo p q l = 0 ↔ ∀ j ∈ l, p j = q j
 | [] => by simp [zqo]
 | j :: l => by
  rw [zqo]
  by_cases h : p j = q j
  ·rw [if_pos h, zuz p q l]; simp [h]
  ·rw [if_neg h]
   constructor
   ·intro e; split at e <;> simp at e
   ·intro e; exact absurd (e j (by simp)) h
theorem zqc (p q r : Nat → Bool) : ∀ l, zqo p q l ≤ 0 → zqo q r l ≤ 0 → zqo p r l ≤ 0
 | [], _, _ => by simp [zqo]
 | j :: l, h1, h2 => by
  rw [zqo] at h1 h2 ⊢
  have ih := zqc p q r l
  cases hp : p j <;> cases hq : q j <;> cases hr : r j <;> simp [hp, hq, hr] at h1 h2 ⊢ <;> first | exact ih h1 h2 | skip
theorem z02 (s t : BS) : cmpS s t = 0 ↔ s = t := by
 rw [cmpS, zuz]
 constructor
 ·intro h; apply BitVec.eq_of_getLsbD_eq; intro j hj; exact h j (List.mem_range.2 hj)
 ·rintro rfl j _; rfl
theorem zz0 (p q : Nat → Bool) (d : Nat → Bool) (l : List Nat) (hd : ∀ j ∈ l, d j = (p j != q j)) : zqo p q l = (match l.filter d with | [] => 0 | c :: _ => if p c = true then -1 else 1) := by
 induction l with
 | nil => rfl
 | cons j l ih =>
  have h := hd j (by simp)
  rw [zqo, List.filter_cons]
  by_cases e : p j = q j
  ·rw [if_pos e, if_neg (by rw [h, e]; simp)]
   exact ih fun k hk => hd k (by simp [hk])
  ·have hb : d j = true := by rw [h]; simpa using e
   rw [if_neg e, hb]; rfl
def zdk (c d : Int) : Int := if c ≠ 0 then c else d
def zvj (mx : Int) : Int := if mx = -1 then 9223372036854775807 else mx
mutual
def zh3 : Tr → Tr → Int
 | .mk k s mn mx l, .mk k' s' mn' mx' l' => if k ≠ k' then zj2 k k' else if k = 2 then cmpS s s' else if k = 5 then zdk (zdk (zj2 mn mn') (zj2 (zvj mx) (zvj mx'))) (zhi l l') else if k = 0 ∨ k = 1 then 0 else zhi l l'
def zhi : List Tr → List Tr → Int
 | [], [] => 0
 | [], _ :: _ => -1
 | _ :: _, [] => 1
 | x :: a, y :: b => zdk (zh3 x y) (zhi a b)
end
theorem znt (x y : Int) : zj2 x y = - zj2 y x := by unfold zj2; split <;> split <;> (try split) <;> omega
theorem zmb (x y : Int) : zj2 x y = -1 ∨ zj2 x y = 0 ∨ zj2 x y = 1 := by unfold zj2; split <;> (try split) <;> simp
theorem zpb (x y : Int) : zj2 x y = 0 ↔ x = y := by unfold zj2; split <;> (try split) <;> omega
theorem zpg (x y : Int) : zj2 x y ≤ 0 ↔ x ≤ y := by unfold zj2; split <;> (try split) <;> omega
theorem zjk {c d : Int} (h : c = -1 ∨ c = 0 ∨ c = 1) (k : d = -1 ∨ d = 0 ∨ d = 1) : zdk c d = -1 ∨ zdk c d = 0 ∨ zdk c d = 1 := by unfold zdk; split <;> assumption
theorem zly {c d c' d' : Int} (h : c = -c') (k : d = -d') : zdk c d = - zdk c' d' := by unfold zdk; split <;> split <;> omega
theorem zll {c d : Int} : zdk c d = 0 ↔ c = 0 ∧ d = 0 := by unfold zdk; split <;> omega
theorem zn9 {m m' m'' d d' d'' : Int} (h : d ≤ 0 → d' ≤ 0 → d'' ≤ 0) : zdk (zj2 m m') d ≤ 0 → zdk (zj2 m' m'') d' ≤ 0 → zdk (zj2 m m'') d'' ≤ 0 := by
 unfold zdk zj2
 repeat' split
 all_goals first | omega | (intro h1 h2; first | omega | exact h h1 h2)
theorem zwu {xy yx yz zy xz zx d d' d'' : Int} (a1 : xy = -yx) (a2 : yz = -zy) (a3 : xz = -zx) (t1 : xy ≤ 0 → yz ≤ 0 → xz ≤ 0) (t2 : yz ≤ 0 → zx ≤ 0 → yx ≤ 0) (t3 : zx ≤ 0 → xy ≤ 0 → zy ≤ 0) (h : d ≤ 0 → d' ≤ 0 → d'' ≤ 0) :
 zdk xy d ≤ 0 → zdk yz d' ≤ 0 → zdk xz d'' ≤ 0 := by
 unfold zdk
 intro h1 h2
 split at h1 <;> split at h2 <;> split <;> first | omega | exact h h1 h2
def SetG (S : Tr → Prop) : Prop := (∀ x y, S x → S y → zh3 x y = - zh3 y x) ∧ (∀ x y z, S x → S y → S z → zh3 x y ≤ 0 → zh3 y z ≤ 0 → zh3 x z ≤ 0)
theorem zs5 {S : Tr → Prop} (g : SetG S) : ∀ a b, (∀ x ∈ a, S x) → (∀ x ∈ b, S x) → zhi a b = - zhi b a
 | [], [], _, _ => by simp [zhi]
 | [], _ :: _, _, _ => by simp [zhi]
 | _ :: _, [], _, _ => by simp [zhi]
 | x :: a, y :: b, ha, hb => by
  rw [zhi, zhi]
  exact zly (g.1 x y (ha x (by simp)) (hb y (by simp))) (zs5 g a b (fun z hz => ha z (by simp [hz])) (fun z hz => hb z (by simp [hz])))
theorem zps {S : Tr → Prop} (g : SetG S) : ∀ a b c, (∀ x ∈ a, S x) → (∀ x ∈ b, S x) → (∀ x ∈ c, S x) → zhi a b ≤ 0 → zhi b c ≤ 0 → zhi a c ≤ 0
 | [], b, [], _, _, _ => by intros; simp [zhi]
 | [], b, _ :: _, _, _, _ => by intros; simp [zhi]
 | x :: a, [], c, _, _, _ => by intro h; simp [zhi] at h
 | x :: a, y :: b, [], _, _, _ => by intro _ h; simp [zhi] at h
 | x :: a, y :: b, z :: c, ha, hb, hc => by
  rw [zhi, zhi, zhi]
  have sx := ha x (by simp); have sy := hb y (by simp); have sz := hc z (by simp)
  exact zwu (g.1 x y sx sy) (g.1 y z sy sz) (g.1 x z sx sz) (g.2 x y z sx sy sz) (fun h1 h2 => g.2 y z x sy sz sx h1 h2) (fun h1 h2 => g.2 z x y sz sx sy h1 h2)
   (zps g a b c (fun w hw => ha w (by simp [hw])) (fun w hw => hb w (by simp [hw])) (fun w hw => hc w (by simp [hw])))
theorem zv0 : ∀ n, SetG fun t => (pre t).length ≤ n
 | 0 => ⟨fun x y h => by have h : (pre x).length ≤ 0 := h; rw [zc0] at h; simp at h, fun x y z h => by have h : (pre x).length ≤ 0 := h; rw [zc0] at h; simp at h⟩
 | n + 1 => by
  have g := zv0 n
  have sub : ∀ t : Tr, (pre t).length ≤ n + 1 → ∀ x ∈ t.l, (pre x).length ≤ n := fun t h x hx => by
   have h1 := zcg hx
   rw [zc0] at h; simp at h; omega
  constructor
  ·rintro ⟨k, s, mn, mx, l⟩ ⟨k', s', mn', mx', l'⟩ h1 h2
   have s1 := sub _ h1
   have s2 := sub _ h2
   simp only [Tr.l] at s1 s2
   have hl := zs5 g l l' s1 s2
   rw [zh3, zh3]
   by_cases e : k = k'
   ·subst e
    simp only [ne_eq, not_true_eq_false, if_false]
    split
    ·exact zti _ _ _
    split
    ·exact zly (zly (znt _ _) (znt _ _)) hl
    split
    ·rfl
    ·exact hl
   ·rw [if_pos e, if_pos (Ne.symm e)]; exact znt _ _
  ·rintro ⟨k, s, mn, mx, l⟩ ⟨k', s', mn', mx', l'⟩ ⟨k'', s'', mn'', mx'', l''⟩ h1 h2 h3
   have s1 := sub _ h1
   have s2 := sub _ h2
   have s3 := sub _ h3
   simp only [Tr.l] at s1 s2 s3
   have hl := zps g l l' l'' s1 s2 s3
   rw [zh3, zh3, zh3]
   by_cases e : k = k'
   ·subst e
    by_cases e2 : k = k''
    ·subst e2
     simp only [ne_eq, not_true_eq_false, if_false]
     split
     ·exact zqc _ _ _ _
     split
     ·rename_i h5
      have key : ∀ (a b c a' b' c' : Int) (d d' d'' : Int), (d ≤ 0 → d' ≤ 0 → d'' ≤ 0) → zdk (zdk (zj2 a b) (zj2 a' b')) d ≤ 0 → zdk (zdk (zj2 b c) (zj2 b' c')) d' ≤ 0 → zdk (zdk (zj2 a c) (zj2 a' c')) d'' ≤ 0 := by
       intro a b c a' b' c' d d' d'' h
       have asc : ∀ x y z : Int, zdk (zdk x y) z = zdk x (zdk y z) := fun x y z => by
        unfold zdk
        by_cases hx : x = 0
        ·simp [hx]
        ·simp [hx]
       rw [asc, asc, asc]
       exact zn9 (zn9 h)
      exact key _ _ _ _ _ _ _ _ _ hl
     split
     ·intros; omega
     ·exact hl
    ·intro _ h
     rw [if_pos (by simpa using e2)] at h ⊢
     rw [zpg] at h ⊢; exact h
   ·rw [if_pos (show k ≠ k' from e)]
    intro h
    rw [zpg] at h
    by_cases e2 : k' = k''
    ·subst e2
     intro _
     rw [if_pos (show k ≠ k' from e)]
     rw [zpg]; exact h
    ·rw [if_pos (show k' ≠ k'' from e2)]
     intro h'
     rw [zpg] at h'
     rw [if_pos (show k ≠ k'' by omega), zpg]; omega
theorem zff (x y : Tr) : zh3 x y = - zh3 y x := (zv0 (max (pre x).length (pre y).length)).1 x y (Nat.le_max_left _ _) (Nat.le_max_right _ _)
theorem zfj (x y z : Tr) : zh3 x y ≤ 0 → zh3 y z ≤ 0 → zh3 x z ≤ 0 := (zv0 ((pre x).length + (pre y).length + (pre z).length)).2 x y z (by omega) (by omega) (by omega)
theorem z5g (x : Tr) : zh3 x x = 0 := by have := zff x x; omega
mutual
theorem zz2 : ∀ x y, zh3 x y = -1 ∨ zh3 x y = 0 ∨ zh3 x y = 1
 | .mk k s mn mx l, .mk k' s' mn' mx' l' => by
  rw [zh3]
  have hl := zpu l l'
  split
  ·exact zmb _ _
  split
  ·exact zp4 _ _ _
  split
  ·exact zjk (zjk (zmb _ _) (zmb _ _)) hl
  split
  ·exact .inr (.inl rfl)
  ·exact hl
theorem zpu : ∀ a b, zhi a b = -1 ∨ zhi a b = 0 ∨ zhi a b = 1
 | [], [] => by simp [zhi]
 | [], _ :: _ => by simp [zhi]
 | _ :: _, [] => by simp [zhi]
 | x :: a, y :: b => by rw [zhi]; exact zjk (zz2 x y) (zpu a b)
end
theorem zwh {k : Nat} {s : BS} {mn mx : Int} {l : List Tr} (h : zcm (.mk k s mn mx l) = true) : (k ≠ 2 → s = 0#256) ∧ (k ≠ 5 → mn = 0 ∧ mx = 0) ∧ (k < 3 → l = []) ∧ (k = 5 → mx = -1 ∨ (1 ≤ mx ∧ mx ≤ 16)) := by
 have hk := zrt h
 simp only [Tr.k] at hk
 rw [zdg, Bool.and_eq_true, zji] at h
 obtain ⟨h1, h2⟩ := h
 simp only [Bool.not_eq_true', Bool.or_eq_false_iff, Bool.and_eq_false_iff] at h1
 obtain ⟨⟨a, b⟩, c⟩ := h1
 refine ⟨fun h => ?_, fun h => ?_, fun h => ?_, fun h => ?_⟩
 ·rcases a with a | a
  ·simp at a; omega
  ·simpa using a
 ·rcases b with b | b
  ·simp at b; omega
  ·simp at b; exact b
 ·rcases c with c | c
  ·simp at c; omega
  ·cases l with
   | nil => rfl
   | cons x l => simp at c
 ·subst h
  simp [zb7] at h2
  have := h2.1.2
  omega
mutual
theorem z2c : ∀ x y, CR x → CR y → zh3 x y = 0 → x = y
 | .mk k s mn mx l, .mk k' s' mn' mx' l', hx, hy, h => by
  rw [za7] at hx hy
  simp only [Tr.l] at hx hy
  obtain ⟨a1, a2, a3, a4⟩ := zwh hx.1
  obtain ⟨b1, b2, b3, b4⟩ := zwh hy.1
  have hk := zrt hx.1
  simp only [Tr.k] at hk
  rw [zh3] at h
  by_cases e : k = k'
  ·subst e
   simp only [ne_eq, not_true_eq_false, if_false] at h
   split at h
   ·rename_i h2
    rw [(z02 s s').1 h, (a2 (by omega)).1, (a2 (by omega)).2, (b2 (by omega)).1, (b2 (by omega)).2, a3 (by omega), b3 (by omega)]
   split at h
   ·rename_i h2 h5
    rw [zll, zll, zpb, zpb] at h
    have a5 := a4 h5
    have b5 := b4 h5
    have hm : mx = mx' := by
     have := h.1.2
     unfold zvj at this
     split at this <;> split at this <;> omega
    rw [a1 h2, b1 h2, h.1.1, hm, zwc l l' hx.2 hy.2 h.2]
   split at h
   ·rename_i h2 h5 h0
    rw [a1 h2, b1 h2, (a2 h5).1, (a2 h5).2, (b2 h5).1, (b2 h5).2, a3 (by omega), b3 (by omega)]
   ·rename_i h2 h5 h0
    rw [a1 h2, b1 h2, (a2 h5).1, (a2 h5).2, (b2 h5).1, (b2 h5).2, zwc l l' hx.2 hy.2 h]
  ·rw [if_pos e, zpb] at h; omega
theorem zwc : ∀ a b, CRL a → CRL b → zhi a b = 0 → a = b
 | [], [], _, _, _ => rfl
 | [], _ :: _, _, _, h => by simp [zhi] at h
 | _ :: _, [], _, _, h => by simp [zhi] at h
 | x :: a, y :: b, ha, hb, h => by
  rw [zaf] at ha hb
  rw [zhi, zll] at h
  rw [z2c x y ha.1 hb.1 h.1, zwc a b ha.2 hb.2 h.2]
end
def zuo (t : Tr) : List AV := [.raw (.int .u8 t.k), .raw (.int .u64 (wd t.s 0)), .raw (.int .u64 (wd t.s 1)), .raw (.int .u64 (wd t.s 2)), .raw (.int .u64 (wd t.s 3)), .raw (.int .i64 t.mn), .raw (.int .i64 t.mx), .list t.l.length (cellsL t.l) .none]
theorem zom (t : Tr) : cells t = zuo t := z5j t
instance : Enc Tr where
 inh := noneT
 cells := zuo
 cellsL := cellsL
 sz := 8
 pos := by decide
 nil := by simp [cellsL]
 cons a l := by rw [cellsL, zom]
 len _ := rfl
 clo t := by rw [← zom]; exact ztj t
theorem enc_eq (t : Tr) : enc t = .agg (Enc.cells t) := by rw [enc, zom]; rfl
theorem z0p {E : Int} (g : 0 ≤ E) (s : BS) (mn mx : Int) (l : List Tr) : AV.agg (Enc.cells (Tr.mk (Int.toNat E) s mn mx l)) = .agg [.raw (.int .u8 E), .raw (.int .u64 (wd s 0)), .raw (.int .u64 (wd s 1)), .raw (.int .u64 (wd s 2)), .raw (.int .u64 (wd s 3)), .raw (.int .i64 mn), .raw (.int .i64 mx), .list l.length (cellsL l) .none] := by
 show AV.agg (zuo _) = _
 simp only [zuo, Tr.k, Tr.s, Tr.mn, Tr.mx, Tr.l, Int.toNat_of_nonneg g]
def za8 (t : Tr) (st : Room) : AV := .agg [.raw (.int .u8 t.k), .raw (.int .u64 (wd t.s 0)), .raw (.int .u64 (wd t.s 1)), .raw (.int .u64 (wd t.s 2)), .raw (.int .u64 (wd t.s 3)), .raw (.int .i64 t.mn), .raw (.int .i64 t.mx), .list t.l.length (cellsL t.l) st]
theorem zi (t : Tr) (st : Room) : zb3 (za8 t st) = .agg (Enc.cells t) := by
 simp only [za8, zb3, stripL, zgr]; rfl
def z7n (s : BS) : List AV := [.raw (.int .u64 (wd s 0)), .raw (.int .u64 (wd s 1)), .raw (.int .u64 (wd s 2)), .raw (.int .u64 (wd s 3))]
instance : Enc BS where
 inh := 0#256
 cells := z7n
 cellsL l := l.flatMap z7n
 sz := 4
 pos := by decide
 nil := rfl
 cons _ _ := rfl
 len _ := rfl
 clo _ := rfl
instance : Enc Sm where
 inh := (0, 0, 0)
 cells := smc
 cellsL := z63
 sz := 3
 pos := by decide
 nil := by simp [z63]
 cons _ _ := by simp [z63]
 len _ := rfl
 clo _ := rfl
structure Rgx where
 b : Bool
 e : Bool
 t : Tr
def z7h (r : Rgx) : List AV := .raw (.bool r.b) :: .raw (.bool r.e) :: zuo r.t
instance : Enc Rgx where
 inh := ⟨false, false, noneT⟩
 cells := z7h
 cellsL l := l.flatMap z7h
 sz := 10
 pos := by decide
 nil := rfl
 cons _ _ := rfl
 len _ := rfl
 clo r := by have := Enc.clo r.t; exact this
def ztr (t : Tr) : List AV := [.agg (Enc.cells t)]
theorem zum {t : Tr} (h : (pre t).length ≤ 10000) : zb4 t = true := by simpa [zb4] using h
theorem zmn {α : Type} [Enc α] {l : List α} {i : Nat} (h : i < l.length) : ix l (i : Int) = l[i] := by simp [ix, h]
def z4q (k : Int) (s : BS) (mn mx : Int) (l : List Tr) (st : Room) : AV := .agg [.raw (.int .u8 k), .raw (.int .u64 (wd s 0)), .raw (.int .u64 (wd s 1)), .raw (.int .u64 (wd s 2)), .raw (.int .u64 (wd s 3)), .raw (.int .i64 mn), .raw (.int .i64 mx), .list l.length (cellsL l) st]
theorem zph {k : Int} (g : 0 ≤ k) (s : BS) (mn mx : Int) (l : List Tr) (st : Room) : zb3 (z4q k s mn mx l st) = .agg (Enc.cells (Tr.mk k.toNat s mn mx l)) := by
 rw [z0p g]; simp only [z4q, zb3, stripL, zgr]
end Go.Ab
