/-
  Trees of rx: words, plain laws.
-/
import Derived.Test.YtmoncghgagmilaaZdSh
set_option linter.unusedSimpArgs false
set_option linter.unusedVariables false
namespace Go.Ab
open Go Go.RowKit Go.Fwd
abbrev BS := BitVec 256
def W64 (S : BS) (i : Nat) : BitVec 64 := S.extractLsb' (64 * i) 64
def wd (S : BS) (i : Nat) : Int := ((W64 S i).toNat : Int)
inductive Tr where
 | mk (k : Nat) (s : BS) (mn mx : Int) (l : List Tr)
def Tr.k : Tr → Nat | .mk k _ _ _ _ => k
def Tr.s : Tr → BS | .mk _ s _ _ _ => s
def Tr.mn : Tr → Int | .mk _ _ m _ _ => m
def Tr.mx : Tr → Int | .mk _ _ _ m _ => m
def Tr.l : Tr → List Tr | .mk _ _ _ _ l => l
theorem Tr.eta (t : Tr) : t = .mk t.k t.s t.mn t.mx t.l := by cases t; rfl
theorem Tr.sizeOf_l {t x : Tr} (h : x ∈ t.l) : SizeOf.sizeOf x < SizeOf.sizeOf t := by
 cases t with
 | mk k s mn mx l => simp only [Tr.l] at h; have := List.sizeOf_lt_of_mem h; simp; omega
mutual
def cells : Tr → List AV
 | .mk k s mn mx l => [.raw (.int .u8 k), .raw (.int .u64 (wd s 0)), .raw (.int .u64 (wd s 1)), .raw (.int .u64 (wd s 2)), .raw (.int .u64 (wd s 3)), .raw (.int .i64 mn), .raw (.int .i64 mx), .list l.length (cellsL l) .none]
def cellsL : List Tr → List AV
 | [] => []
 | t :: l => cells t ++ cellsL l
end
def enc (t : Tr) : AV := .agg (cells t)
theorem ztl (t : Tr) : (cells t).length = 8 := by cases t; simp [cells]
theorem z5i (t : Tr) : cells t = [.raw (.int .u8 t.k), .raw (.int .u64 (wd t.s 0)), .raw (.int .u64 (wd t.s 1)), .raw (.int .u64 (wd t.s 2)), .raw (.int .u64 (wd t.s 3)), .raw (.int .i64 t.mn), .raw (.int .i64 t.mx), .list t.l.length (cellsL t.l) .none] := by cases t; simp [cells, Tr.k, Tr.s, Tr.mn, Tr.mx, Tr.l]
theorem zlr : ∀ l, (cellsL l).length = l.length * 8
 | [] => by simp [cellsL]
 | t :: l => by rw [cellsL, List.length_append, ztl, zlr l, List.length_cons]; omega
theorem z18 {l : List Tr} (h : l ≠ []) : cellsL l ≠ [] := by
 intro e
 have := zlr l
 rw [e] at this
 simp at this
 exact h (List.length_eq_zero_iff.1 (by omega))
mutual
theorem zuj (n : Nat) : ∀ t, z7 n (cells t) = true
 | .mk k s mn mx l => by simp [cells, z7, za8, zk0 n l]
theorem zk0 (n : Nat) : ∀ l, z7 n (cellsL l) = true
 | [] => by simp [cellsL, z7]
 | t :: l => by
  rw [cellsL, zgt, List.all_append, ← zgt, ← zgt, zuj n t, zk0 n l]; rfl
end
mutual
theorem zms : ∀ t, zb2 (cells t) = true
 | .mk k s mn mx l => by simp [cells, zb2, zil, zlc l]
theorem zlc : ∀ l, zb2 (cellsL l) = true
 | [] => by simp [cellsL, zb2]
 | t :: l => by
  have h : ∀ l m : List AV, zb2 (l ++ m) = (zb2 l && zb2 m) := fun l m => by
   induction l with
   | nil => simp [zb2]
   | cons a l ih => rw [List.cons_append, zb2, zb2, ih, Bool.and_assoc]
  rw [cellsL, h, zms t, zlc l]; rfl
end
mutual
theorem zww : ∀ t, stripL (cells t) = cells t
 | .mk k s mn mx l => by simp [cells, stripL, zcm, zhg l]
theorem zhg : ∀ l, stripL (cellsL l) = cellsL l
 | [] => by simp [cellsL, stripL]
 | t :: l => by
  rw [cellsL, zjk, List.map_append, ← zjk, ← zjk, zww t, zhg l]
end
mutual
theorem zto (g : FZ) : ∀ t, zbe g (cells t) = cells t
 | .mk k s mn mx l => by simp [cells, zbe, zdw, zk6 g l]
theorem zk6 (g : FZ) : ∀ l, zbe g (cellsL l) = cellsL l
 | [] => by simp [cellsL, zbe]
 | t :: l => by
  have h : ∀ l m : List AV, zbe g (l ++ m) = zbe g l ++ zbe g m := fun l m => by
   induction l with
   | nil => simp [zbe]
   | cons a l ih => rw [List.cons_append, zbe, zbe, ih, List.cons_append]
  rw [cellsL, h, zto g t, zk6 g l]
end
mutual
theorem zvq : ∀ t, cloL (cells t) = true
 | .mk k s mn mx l => by simp [cells, cloL, clo, zqw l]
theorem zqw : ∀ l, cloL (cellsL l) = true
 | [] => by simp [cellsL, cloL]
 | t :: l => by rw [cellsL, zgs, zvq t, zqw l]; rfl
end
theorem z00 (t : Tr) : zil (enc t) = true := by rw [enc, zil]; exact zms t
mutual
def pre : Tr → List Tr
 | .mk k s mn mx l => .mk k s mn mx l :: zam l
def zam : List Tr → List Tr
 | [] => []
 | t :: l => pre t ++ zam l
end
theorem zcw (t : Tr) : pre t = t :: zam t.l := by cases t; simp [pre, Tr.l]
theorem zjy : ∀ (ts : List Tr) (i : Nat) (hi : i < ts.length), (zam (ts.take (i + 1))).length = (zam (ts.take i)).length + (pre ts[i]).length
 | [], i, hi => by simp at hi
 | t :: ts, 0, hi => by simp [zam]
 | t :: ts, i + 1, hi => by
  simp only [List.take_succ_cons, zam, List.length_append, List.getElem_cons_succ, zjy ts i (by simpa using hi)]
  omega
theorem z28 : ∀ ts : List Tr, ts.length ≤ (zam ts).length
 | [] => by simp [zam]
 | t :: ts => by
  have := z28 ts
  cases t with
  | mk k s mn mx l => simp [zam, pre]; omega
theorem zez : ∀ {ts : List Tr} {x : Tr}, x ∈ ts → (pre x).length ≤ (zam ts).length
 | [], x, h => by simp at h
 | t :: ts, x, h => by
  simp only [zam, List.length_append]
  rcases List.mem_cons.1 h with rfl | h
  ·omega
  ·have := zez h; omega
def zbl (least most : Int) : Bool := !(decide (least < 0) || decide (least > 16) || decide (least = 1) && decide (most = 1)) && (decide (most = -1) || decide (most ≥ 1) && decide (most ≤ 16) && decide (most ≥ least))
def z49 (s : BS) : AV := .agg [.raw (.int .u64 (wd s 0)), .raw (.int .u64 (wd s 1)), .raw (.int .u64 (wd s 2)), .raw (.int .u64 (wd s 3))]
theorem wd_inj {A B : BS} (h : ∀ i, i < 4 → wd A i = wd B i) : A = B := by
 apply BitVec.eq_of_getLsbD_eq
 intro j hj
 have h4 : j / 64 < 4 := by omega
 have h2 := h (j / 64) h4
 have h3 : W64 A (j / 64) = W64 B (j / 64) := by
  apply BitVec.eq_of_toNat_eq
  unfold wd at h2
  omega
 have h5 := congrArg (fun x : BitVec 64 => x.getLsbD (j % 64)) h3
 have hlt : j % 64 < 64 := Nat.mod_lt _ (by decide)
 simp only [W64, BitVec.getLsbD_extractLsb', hlt, decide_true, Bool.true_and] at h5
 rwa [show 64 * (j / 64) + j % 64 = j by omega] at h5
theorem z7t (S T : BS) : (wd S 0 == wd T 0 && wd S 1 == wd T 1 && wd S 2 == wd T 2 && wd S 3 == wd T 3) = decide (S = T) := by
 by_cases h : S = T
 ·subst h; simp
 ·simp only [h, decide_false]
  cases hb : (wd S 0 == wd T 0 && wd S 1 == wd T 1 && wd S 2 == wd T 2 && wd S 3 == wd T 3) with
  | false => rfl
  | true =>
   simp only [Bool.and_eq_true, beq_iff_eq] at hb
   refine absurd (wd_inj fun i hi => ?_) h
   match i, hi with
   | 0, _ => exact hb.1.1.1
   | 1, _ => exact hb.1.1.2
   | 2, _ => exact hb.1.2
   | 3, _ => exact hb.2
def zpc (t : Tr) (k : Nat) : Bool := t.l.any fun y => decide (y.k = k)
def oddT (t : Tr) : Bool := ((t.k : Int) != 2 && decide (t.s ≠ 0#256)) || ((t.k : Int) != 5 && (t.mn != 0 || t.mx != 0)) || (decide ((t.k : Int) < 3) && decide ((t.l.length : Int) > 0))
def zcq (t : Tr) : Bool := !oddT t && (bif (t.k : Int) == 1 then true else bif (t.k : Int) == 2 then decide (t.s ≠ 0#256) else bif (t.k : Int) == 3 then decide ((t.l.length : Int) > 1) && !zpc t 1 && !zpc t 3
 else bif (t.k : Int) == 4 then decide ((t.l.length : Int) > 1) && !zpc t 4 else bif (t.k : Int) == 5 then (t.l.length : Int) == 1 && zbl t.mn t.mx && !zpc t 1 else (t.k : Int) == 6 && (t.l.length : Int) == 1)
theorem zg8 (k : Nat) (s : BS) (mn mx : Int) (ts : List Tr) : oddT (.mk k s mn mx ts) = (((k : Int) != 2 && decide (s ≠ 0#256)) || ((k : Int) != 5 && (mn != 0 || mx != 0)) || (decide ((k : Int) < 3) && decide ((ts.length : Int) > 0))) := rfl
theorem zcj (k : Nat) (s : BS) (mn mx : Int) (ts : List Tr) : zcq (.mk k s mn mx ts) = (!oddT (.mk k s mn mx ts) && (bif (k : Int) == 1 then true else bif (k : Int) == 2 then decide (s ≠ 0#256) else bif (k : Int) == 3 then decide ((ts.length : Int) > 1) && !zpc (.mk k s mn mx ts) 1 && !zpc (.mk k s mn mx ts) 3
 else bif (k : Int) == 4 then decide ((ts.length : Int) > 1) && !zpc (.mk k s mn mx ts) 4 else bif (k : Int) == 5 then (ts.length : Int) == 1 && zbl mn mx && !zpc (.mk k s mn mx ts) 1 else (k : Int) == 6 && (ts.length : Int) == 1)) := rfl
def zcy (t : Tr) : Bool := decide ((pre t).length ≤ 10000)
def zbx (t : Tr) : Bool := zcy t && (pre t).all zcq
mutual
def zm4 : Tr → Int
 | .mk k s mn mx ts => min (if k = 5 then ((if k = 2 then 1 else 0) + zf7 ts) * min (if mx = -1 then max (max mn 0) 1 else max (max mn 0) mx) 10001 else (if k = 2 then 1 else 0) + zf7 ts) 10001
def zf7 : List Tr → Int
 | [] => 0
 | t :: l => zm4 t + zf7 l
end
theorem ztk : ∀ (t : Tr), t.l.length < (pre t).length
 | .mk k s mn mx ts => by
  have : ∀ l : List Tr, l.length ≤ (zam l).length := fun l => by
   induction l with
   | nil => simp [zam]
   | cons a l ih => rw [zam, List.length_append, List.length_cons]; rw [zcw]; simp; omega
  simp [pre, Tr.l]; have := this ts; omega
theorem zp5 {t x : Tr} (h : x ∈ pre t) : (pre x).length ≤ (pre t).length := by
 have key : ∀ n, (∀ t : Tr, SizeOf.sizeOf t ≤ n → ∀ x ∈ pre t, (pre x).length ≤ (pre t).length) := by
  intro n
  induction n with
  | zero => intro t ht; cases t; simp at ht
  | succ n ih =>
   intro t ht x hx
   rw [zcw] at hx
   rcases List.mem_cons.1 hx with rfl | hx
   ·exact Nat.le_refl _
   ·have hl : ∀ l : List Tr, (∀ y ∈ l, SizeOf.sizeOf y ≤ n) → ∀ x ∈ zam l, (pre x).length ≤ (zam l).length := by
     intro l
     induction l with
     | nil => intro _ x hx; simp [zam] at hx
     | cons a l ihl =>
      intro hs x hx
      rw [zam] at hx ⊢
      rw [List.length_append]
      rcases List.mem_append.1 hx with hx | hx
      ·have := ih a (hs a (by simp)) x hx; omega
      ·have := ihl (fun y hy => hs y (by simp [hy])) x hx; omega
    have := hl t.l (fun y hy => by have := Tr.sizeOf_l hy; omega) x hx
    rw [zcw t, List.length_cons]; omega
 exact key _ t (Nat.le_refl _) x h
mutual
theorem zkb : ∀ t, 0 ≤ zm4 t
 | .mk k s mn mx ts => by
  have hl := zew ts
  rw [zm4]
  have h0 : 0 ≤ (if k = 2 then 1 else 0) + zf7 ts := by split <;> omega
  split
  ·have : 0 ≤ ((if k = 2 then 1 else 0) + zf7 ts) * min (if mx = -1 then max (max mn 0) 1 else max (max mn 0) mx) 10001 := Int.mul_nonneg h0 (by split <;> omega)
   omega
  ·omega
theorem zew : ∀ l, 0 ≤ zf7 l
 | [] => by simp [zf7]
 | t :: l => by have h1 := zkb t; have h2 := zew l; rw [zf7]; omega
end
mutual
def zjt : Tr → Tr → Bool
 | .mk k s mn mx l, .mk k' s' mn' mx' l' => (k : Int) == k' && decide (s = s') && mn == mn' && mx == mx' && zlb l l'
def zlb : List Tr → List Tr → Bool
 | [], [] => true
 | x :: a, y :: b => zjt x y && zlb a b
 | _, _ => false
end
mutual
theorem zi0 : ∀ a b, zjt a b = true ↔ a = b
 | .mk k s mn mx l, .mk k' s' mn' mx' l' => by
  rw [zjt]
  simp only [Bool.and_eq_true, zu2 l l', Tr.mk.injEq, beq_iff_eq, decide_eq_true_eq]
  constructor
  ·rintro ⟨⟨⟨⟨h1, h2⟩, h3⟩, h4⟩, h5⟩; exact ⟨by omega, h2, h3, h4, h5⟩
  ·rintro ⟨h1, h2, h3, h4, h5⟩; exact ⟨⟨⟨⟨by omega, h2⟩, h3⟩, h4⟩, h5⟩
theorem zu2 : ∀ a b, zlb a b = true ↔ a = b
 | [], [] => by simp [zlb]
 | x :: a, [] => by simp [zlb]
 | [], y :: b => by simp [zlb]
 | x :: a, y :: b => by rw [zlb, Bool.and_eq_true, zi0 x y, zu2 a b]; simp
end
def zd0 (a b : Tr) : Bool := zcy a && zcy b && zjt a b
def noneT : Tr := .mk 0 0#256 0 0 []
def emptyT : Tr := .mk 1 0#256 0 0 []
def zke (t : Tr) : Bool := zjt t noneT || zbx t
def zd8 (t : Tr) : Tr := if zbx t = true then t else noneT
def z0g (t : Tr) : Tr := if zcy t = true then t else noneT
theorem zeh {t : Tr} (h : zbx t = true) : (pre t).length ≤ 10000 := by rw [zbx, Bool.and_eq_true] at h; simpa [zcy] using h.1
def zg3 (kind without : Nat) (l : List Tr) : List Tr := l.flatMap fun x => bif (x.k : Int) == kind then x.l else bif (x.k : Int) == without then [] else [x]
def zkl (kind : Nat) (l : List Tr) (none : Tr) : Tr := bif (l.length : Int) == 0 then none else bif (l.length : Int) == 1 then zd8 (l.headD none) else zd8 (Tr.mk kind 0#256 0 0 l)
def zhi (l : List Tr) : Tr := if (l.any fun x => (x.k : Int) == 0 || !zbx x) = true then noneT else zkl 3 (zg3 3 1 l) emptyT
def orT (l : List Tr) : Tr := if (l.any fun x => !zke x) = true then noneT else zkl 4 (zg3 4 0 l) noneT
theorem zbo : ∀ a b, zam (a ++ b) = zam a ++ zam b
 | [], b => by simp [zam]
 | x :: a, b => by rw [List.cons_append, zam, zam, zbo a b, List.append_assoc]
theorem zag : ∀ l : List Tr, l.length ≤ (zam l).length
 | [] => by simp [zam]
 | x :: l => by have := zag l; rw [zam, List.length_append, List.length_cons, zcw]; simp; omega
theorem zhu (t : Tr) : (zam t.l).length < (pre t).length := by rw [zcw]; simp
theorem zjs (kind without : Nat) : ∀ l : List Tr, (zam (zg3 kind without l)).length ≤ (zam l).length
 | [] => by simp [zg3, zam]
 | x :: l => by
  have h := zjs kind without l
  have hx := zhu x
  rw [zg3, List.flatMap_cons, zbo, List.length_append, zam, List.length_append]
  have h2 : (zam (bif (x.k : Int) == kind then x.l else bif (x.k : Int) == without then [] else [x])).length ≤ (pre x).length := by
   cases (x.k : Int) == kind <;> cases (x.k : Int) == without <;> simp [zam] <;> omega
  rw [zg3] at h
  omega
theorem zbt {x : Tr} : ∀ {l : List Tr}, x ∈ l → (pre x).length ≤ (zam l).length
 | y :: l, h => by
  rw [zam, List.length_append]
  rcases List.mem_cons.1 h with rfl | h
  ·omega
  ·have := zbt h; omega
def zbd (t : Tr) (lo hi : Int) : Tr :=
 bif !zke t || (!(lo == 0 && hi == 0) && !(lo == 1 && hi == 1) && !zbl lo hi) then noneT
 else bif (t.k : Int) == 0 && decide (lo > 0) then noneT
 else bif (lo == 0 && hi == 0) || (t.k : Int) == 0 || (t.k : Int) == 1 then emptyT
 else bif lo == 1 && hi == 1 then t else zd8 (.mk 5 0#256 lo hi [t])
def zfu (t : Tr) : Tr := zd8 (.mk 6 0#256 0 0 [t])
def ofT (s : BS) : Tr := if s = 0#256 then noneT else .mk 2 s 0 0 []
theorem zgq (k : Nat) (s : BS) (mn mx : Int) (t : Tr) : (pre (.mk k s mn mx [t])).length = 1 + (pre t).length := by simp [pre, zam]; omega
def zbz (kind : Nat) (l : List Tr) : List Tr := l.flatMap fun x => bif (x.k : Int) == kind then x.l else bif (kind : Int) == 3 && (x.k : Int) == 1 then [] else [x]
def zqd (kind : Nat) (l : List Tr) : Tr := bif (l.length : Int) == 0 then emptyT else bif (l.length : Int) == 1 then l.headD emptyT else .mk kind 0#256 0 0 l
def zej (kind : Nat) (a b : Tr) : Tr := zqd kind (zbz kind [a, b])
theorem ze0 (kind : Nat) : ∀ l : List Tr, (zam (zbz kind l)).length ≤ (zam l).length
 | [] => by simp [zbz, zam]
 | x :: l => by
  have h := ze0 kind l
  have hx := zhu x
  rw [zbz, List.flatMap_cons, zbo, List.length_append, zam, List.length_append]
  have h2 : (zam (bif (x.k : Int) == kind then x.l else bif (kind : Int) == 3 && (x.k : Int) == 1 then [] else [x])).length ≤ (pre x).length := by
   cases (x.k : Int) == kind <;> cases (kind : Int) == 3 && (x.k : Int) == 1 <;> simp [zam] <;> omega
  rw [zbz] at h
  omega
theorem z0v (kind : Nat) (l : List Tr) (i : Nat) (hi : i < l.length) : zbz kind (l.take (i + 1)) = zbz kind (l.take i) ++ (bif (l[i].k : Int) == kind then l[i].l else bif (kind : Int) == 3 && (l[i].k : Int) == 1 then [] else [l[i]]) := by
 rw [List.take_succ_eq_append_getElem hi, zbz, List.flatMap_append]; simp [zbz]
theorem zp3 (kind : Nat) (l : List Tr) (i : Nat) : (zbz kind (l.take i)).length ≤ (zam l).length := by
 refine Nat.le_trans (zag _) (Nat.le_trans (ze0 _ _) ?_)
 conv => rhs; rw [← List.take_append_drop i l]
 rw [zbo, List.length_append]; omega
def bsOf (l : List Nat) : BS := l.foldl (fun s b => s ||| (1#256 <<< b)) 0#256
def zqg (l : List Nat) : Tr := .mk 2 (bsOf l) 0 0 []
def zrf : Nat → List Nat
 | 0 => [97] | 1 => [98] | 2 => [97, 98] | 3 => [97] | 4 => [98] | 5 => [99] | 6 => [97, 98, 99] | 7 => [98, 99] | 8 => [10] | 9 => [0, 255] | 10 => [97] | _ => [98]
abbrev Sm := Nat × Nat × Nat
abbrev MSt := List Tr × Int × Int
def kI (x : Sm) : Int := ((x.1 % 12 : Nat) : Int)
def zed (p : List Tr) (i : Nat) : Tr := p[p.length - i]?.getD emptyT
def cA (p : List Tr) (x : Sm) : Bool := decide (kI x < 7) && decide ((p.length : Int) > 1)
def cB (p : List Tr) (x : Sm) : Bool := decide (kI x < 9) && decide ((p.length : Int) > 1)
def cC (p : List Tr) (g : Int) (x : Sm) : Bool := kI x == 9 && decide ((p.length : Int) > 0) && decide (g < 9)
def cD (p : List Tr) (x : Sm) : Bool := decide (kI x > 9) && decide ((p.length : Int) > 0) && ((zed p 1).k : Int) != 1
def loM (x : Sm) : Int := ((x.2.1 % 3 : Nat) : Int)
def m4 (x : Sm) : Int := ((x.2.2 % 4 : Nat) : Int)
def badM (x : Sm) : Bool := decide (m4 x < loM x) || m4 x == 0 || loM x == 1 && m4 x == 1
def moM (x : Sm) : Int := bif badM x then -1 else m4 x
def tmM (x : Sm) : Int := max (max (loM x) (moM x)) 1
def zng (st : MSt) (x : Sm) : MSt :=
 bif decide (kI x < 4) then (st.1 ++ [zqg (zrf (x.2.1 % 12))], st.2.1, st.2.2)
 else bif kI x == 4 then (st.1 ++ [emptyT], st.2.1, st.2.2)
 else bif cA st.1 x then (st.1.take (st.1.length - 2) ++ [zej 3 (zed st.1 2) (zed st.1 1)], st.2.1, st.2.2)
 else bif cB st.1 x then (st.1.take (st.1.length - 2) ++ [zej 4 (zed st.1 2) (zed st.1 1)], st.2.1, st.2.2)
 else bif cC st.1 st.2.2 x then (st.1.set (st.1.length - 1) (.mk 6 0#256 0 0 [zed st.1 1]), st.2.1, st.2.2 + 1)
 else bif cD st.1 x then (bif decide (st.2.1 * tmM x ≤ 16) then (st.1.set (st.1.length - 1) (.mk 5 0#256 (loM x) (moM x) [zed st.1 1]), st.2.1 * tmM x, st.2.2) else st)
 else st
def MM (l : List Sm) (i : Nat) : MSt := (l.take i).foldl zng ([], 1, 0)
def z8b (p : List Tr) : Tr := match p with
 | [] => zqg [97]
 | x :: r => r.foldl (zej 4) x
def zon (l : List Sm) : Tr := z8b (MM (l.take 25) 25).1
theorem zwt (l : List Sm) (i : Nat) (hi : i < l.length) : MM l (i + 1) = zng (MM l i) l[i] := by
 rw [MM, List.take_succ_eq_append_getElem hi, List.foldl_append]; rfl
theorem zjr (kind : Nat) (a b : Tr) : (pre (zej kind a b)).length ≤ (pre a).length + (pre b).length + 1 := by
 have h := ze0 kind [a, b]
 simp only [zam, List.append_nil, List.length_append] at h
 rw [zej, zqd]
 obtain ⟨l, hl⟩ : ∃ l, zbz kind [a, b] = l := ⟨_, rfl⟩
 rw [hl] at h ⊢
 match l, h with
 | [], _ => simp [emptyT, pre, zam]
 | [x], h => simp [zam] at h ⊢; omega
 | x :: y :: l, h =>
  have e1 : (((x :: y :: l).length : Int) == 0) = false := by simp; omega
  have e2 : (((x :: y :: l).length : Int) == 1) = false := by simp; omega
  rw [e1, e2]
  simp only [cond_false, pre, List.length_cons]
  omega
theorem zhb {p : List Tr} {i : Nat} (h0 : 0 < i) (h : i ≤ p.length) : zed p i = p[p.length - i]'(by omega) := by
 rw [zed, List.getElem?_eq_getElem (by omega)]; rfl
theorem zk9 {p : List Tr} (h : 2 ≤ p.length) : (zam (p.take (p.length - 2))).length + (pre (zed p 2)).length + (pre (zed p 1)).length = (zam p).length := by
 rw [zhb (by omega) h, zhb (by omega) (by omega)]
 conv => rhs; rw [← List.take_append_drop (p.length - 2) p]
 rw [zbo, List.length_append, List.drop_eq_getElem_cons (by omega), show p.length - 2 + 1 = p.length - 1 by omega, List.drop_eq_getElem_cons (by omega), show p.length - 1 + 1 = p.length by omega, List.drop_length]
 simp [zam]; omega
theorem zyr {p : List Tr} {y : Tr} (h : 0 < p.length) : (zam (p.set (p.length - 1) y)).length + (pre (zed p 1)).length = (zam p).length + (pre y).length := by
 rw [zhb (by omega) h]
 rw [List.set_eq_take_append_cons_drop, if_pos (by omega), show p.length - 1 + 1 = p.length by omega, List.drop_length, zbo, List.length_append]
 conv => rhs; rw [← List.take_append_drop (p.length - 1) p]
 rw [zbo, List.length_append, List.drop_eq_getElem_cons (by omega), show p.length - 1 + 1 = p.length by omega, List.drop_length]
 simp [zam]; omega
theorem z43 (x : Sm) : 1 ≤ tmM x ∧ tmM x ≤ 3 := by
 have h1 : x.2.1 % 3 < 3 := Nat.mod_lt _ (by decide)
 have h2 : x.2.2 % 4 < 4 := Nat.mod_lt _ (by decide)
 unfold tmM moM
 have h3 : loM x ≤ 2 := by unfold loM; omega
 have h4 : m4 x ≤ 3 := by unfold m4; omega
 cases badM x <;> simp only [cond_true, cond_false] <;> omega
theorem z1x (st : MSt) (x : Sm) (i : Nat) (h : (zam st.1).length ≤ i ∧ 0 ≤ st.2.2 ∧ st.2.2 ≤ 9 ∧ 1 ≤ st.2.1 ∧ st.2.1 ≤ 16) :
 (zam (zng st x).1).length ≤ i + 1 ∧ 0 ≤ (zng st x).2.2 ∧ (zng st x).2.2 ≤ 9 ∧ 1 ≤ (zng st x).2.1 ∧ (zng st x).2.1 ≤ 16 := by
 obtain ⟨h1, h2, h3, h4, h5⟩ := h
 unfold zng
 cases decide (kI x < 4)
 ·cases kI x == 4
  ·cases hA : cA st.1 x
   ·cases hB : cB st.1 x
    ·cases hC : cC st.1 st.2.2 x
     ·cases hD : cD st.1 x
      ·simp only [cond_false]; omega
      ·simp only [cond_false, cond_true]
       cases hT : decide (st.2.1 * tmM x ≤ 16)
       ·simp only [cond_false]; omega
       ·simp only [cond_true]
        have hp : 0 < st.1.length := by
         unfold cD at hD
         simp only [Bool.and_eq_true, decide_eq_true_eq] at hD; omega
        have e := zyr (p := st.1) (y := .mk 5 0#256 (loM x) (moM x) [zed st.1 1]) hp
        rw [zgq] at e
        have := (z43 x).1
        have h6 : 1 ≤ st.2.1 * tmM x := by
         have := Int.mul_le_mul h4 this (by omega) (by omega); omega
        simp only [decide_eq_true_eq] at hT
        exact ⟨by omega, by omega, by omega, h6, hT⟩
     ·simp only [cond_false, cond_true]
      unfold cC at hC
      simp only [Bool.and_eq_true, decide_eq_true_eq] at hC
      have e := zyr (p := st.1) (y := .mk 6 0#256 0 0 [zed st.1 1]) (by omega)
      rw [zgq] at e
      omega
    ·simp only [cond_false, cond_true]
     unfold cB at hB
     simp only [Bool.and_eq_true, decide_eq_true_eq] at hB
     have e := zk9 (p := st.1) (by omega)
     have e2 := zjr 4 (zed st.1 2) (zed st.1 1)
     rw [zbo, List.length_append]
     simp only [zam, List.append_nil]; omega
   ·simp only [cond_false, cond_true]
    unfold cA at hA
    simp only [Bool.and_eq_true, decide_eq_true_eq] at hA
    have e := zk9 (p := st.1) (by omega)
    have e2 := zjr 3 (zed st.1 2) (zed st.1 1)
    rw [zbo, List.length_append]
    simp only [zam, List.append_nil]; omega
  ·simp only [cond_false, cond_true]
   rw [zbo, List.length_append]
   simp [zam, emptyT, pre]; omega
 ·simp only [cond_true]
  rw [zbo, List.length_append]
  simp [zam, zqg, pre]; omega
theorem invM (l : List Sm) : ∀ i, i ≤ l.length → (zam (MM l i).1).length ≤ i ∧ 0 ≤ (MM l i).2.2 ∧ (MM l i).2.2 ≤ 9 ∧ 1 ≤ (MM l i).2.1 ∧ (MM l i).2.1 ≤ 16
 | 0, _ => by simp [MM, zam]
 | i + 1, h => by
  rw [zwt l i (by omega)]
  exact z1x _ _ i (invM l i (by omega))
def smc (x : Sm) : List AV := [.raw (.int .u8 x.1), .raw (.int .u8 x.2.1), .raw (.int .u8 x.2.2)]
def z8h : List Sm → List AV
 | [] => []
 | x :: l => smc x ++ z8h l
def z48 (p : List Tr) (i : Nat) : Tr := match p with
 | [] => emptyT
 | x :: r => (r.take i).foldl (zej 4) x
theorem zub {p : List Tr} {i : Nat} (h : i + 1 < p.length) : z48 p (i + 1) = zej 4 (z48 p i) p[i + 1] := by
 cases p with
 | nil => simp at h
 | cons x r =>
  have hi : i < r.length := by simpa using h
  simp only [z48, List.take_succ_eq_append_getElem hi, List.foldl_append, List.foldl_cons, List.foldl_nil, List.getElem_cons_succ]
theorem z1s {p : List Tr} (hp : p ≠ []) : ∀ i, i < p.length → (pre (z48 p i)).length ≤ (zam (p.take (i + 1))).length + i
 | 0, _ => by
  cases p with
  | nil => exact absurd rfl hp
  | cons x r => simp [z48, zam]
 | i + 1, h => by
  rw [zub h]
  have h1 := zjr 4 (z48 p i) p[i + 1]
  have h2 := z1s hp i (by omega)
  rw [List.take_succ_eq_append_getElem h, zbo, List.length_append]
  simp only [zam, List.append_nil]; omega
theorem znb (p : List Tr) (i : Nat) : (zam (p.take i)).length ≤ (zam p).length := by
 conv => rhs; rw [← List.take_append_drop i p]
 rw [zbo, List.length_append]; omega
theorem z5y {p : List Tr} (hp : p ≠ []) : z48 p (p.length - 1) = z8b p := by
 cases p with
 | nil => exact absurd rfl hp
 | cons x r => simp [z48, z8b]
def aT := zqg [97]
def bT := zqg [98]
def cT := zqg [99]
def CR (t : Tr) : Prop := (pre t).all zcq = true
def CRL (l : List Tr) : Prop := (zam l).all zcq = true
theorem zb0 : CRL [] := by simp [CRL, zam]
theorem zao (t : Tr) (l : List Tr) : CRL (t :: l) ↔ CR t ∧ CRL l := by simp [CRL, CR, zam]
theorem zct (a b : List Tr) : CRL (a ++ b) ↔ CRL a ∧ CRL b := by simp [CRL, zbo]
theorem zcu : ∀ l : List Tr, CRL l ↔ ∀ t ∈ l, CR t
 | [] => by simp [zb0]
 | t :: l => by rw [zao, zcu l]; simp
theorem zbc (t : Tr) : CR t ↔ zcq t = true ∧ CRL t.l := by rw [CR, zcw, List.all_cons, Bool.and_eq_true]; rfl
theorem zex {t : Tr} {k : Nat} : zpc t k = false ↔ ∀ y ∈ t.l, y.k ≠ k := by simp [zpc]
theorem zu5 {l : List Tr} (h : 1 < l.length) (h1 : ∀ t ∈ l, t.k ≠ 1 ∧ t.k ≠ 3) : zcq (.mk 3 0#256 0 0 l) = true := by
 have e1 : zpc (.mk 3 0#256 0 0 l) 1 = false := zex.2 fun y hy => (h1 y hy).1
 have e3 : zpc (.mk 3 0#256 0 0 l) 3 = false := zex.2 fun y hy => (h1 y hy).2
 simp [zcj, zg8, e1, e3]; omega
theorem zts {l : List Tr} (h : 1 < l.length) (h1 : ∀ t ∈ l, t.k ≠ 4) : zcq (.mk 4 0#256 0 0 l) = true := by
 have e1 : zpc (.mk 4 0#256 0 0 l) 4 = false := zex.2 fun y hy => h1 y hy
 simp [zcj, zg8, e1]; omega
theorem zi1 {t : Tr} {lo hi : Int} (h : t.k ≠ 1) (hb : zbl lo hi = true) : zcq (.mk 5 0#256 lo hi [t]) = true := by
 have e1 : zpc (.mk 5 0#256 lo hi [t]) 1 = false := zex.2 fun y hy => by simp [Tr.l] at hy; subst hy; exact h
 simp [zcj, zg8, e1, hb]
theorem zpj (t : Tr) : zcq (.mk 6 0#256 0 0 [t]) = true := by simp [zcj, zg8]
theorem zgx : zcq emptyT = true := by simp [emptyT, zcj, zg8]
theorem zpx {t : Tr} (h : zcq t = true) : t.k = 1 ∨ t.k = 2 ∨ t.k = 3 ∨ t.k = 4 ∨ t.k = 5 ∨ t.k = 6 := by
 cases t with
 | mk k s mn mx l =>
  rw [zcj] at h
  simp only [Tr.k]
  by_cases h1 : k = 1; · exact .inl h1
  by_cases h2 : k = 2; · exact .inr (.inl h2)
  by_cases h3 : k = 3; · exact .inr (.inr (.inl h3))
  by_cases h4 : k = 4; · exact .inr (.inr (.inr (.inl h4)))
  by_cases h5 : k = 5; · exact .inr (.inr (.inr (.inr (.inl h5))))
  by_cases h6 : k = 6; · exact .inr (.inr (.inr (.inr (.inr h6))))
  exfalso
  have e : ∀ n : Nat, k ≠ n → ((k : Int) == n) = false := fun n hn => by simp; omega
  rw [show ((k : Int) == 1) = false from e 1 h1, show ((k : Int) == 2) = false from e 2 h2, show ((k : Int) == 3) = false from e 3 h3, show ((k : Int) == 4) = false from e 4 h4, show ((k : Int) == 5) = false from e 5 h5, show ((k : Int) == 6) = false from e 6 h6] at h
  simp at h
theorem zig {t : Tr} (h : zcq t = true) (hk : t.k = 3) : 1 < t.l.length ∧ ∀ y ∈ t.l, y.k ≠ 1 ∧ y.k ≠ 3 := by
 cases t with
 | mk k s mn mx l =>
  simp only [Tr.k] at hk; subst hk
  rw [zcj] at h
  simp only [Bool.and_eq_true, Bool.not_eq_true'] at h
  have h2 := h.2
  simp only [show ((((3 : Nat) : Int)) == 1) = false from rfl, show ((((3 : Nat) : Int)) == 2) = false from rfl, show ((((3 : Nat) : Int)) == 3) = true from rfl, cond_false, cond_true, Bool.and_eq_true, Bool.not_eq_true', decide_eq_true_eq] at h2
  exact ⟨by simp only [Tr.l]; omega, fun y hy => ⟨zex.1 h2.1.2 y hy, zex.1 h2.2 y hy⟩⟩
theorem zb9 {t : Tr} (h : zcq t = true) (hk : t.k = 4) : 1 < t.l.length ∧ ∀ y ∈ t.l, y.k ≠ 4 := by
 cases t with
 | mk k s mn mx l =>
  simp only [Tr.k] at hk; subst hk
  rw [zcj] at h
  simp only [Bool.and_eq_true, Bool.not_eq_true'] at h
  have h2 := h.2
  simp only [show ((((4 : Nat) : Int)) == 1) = false from rfl, show ((((4 : Nat) : Int)) == 2) = false from rfl, show ((((4 : Nat) : Int)) == 3) = false from rfl, show ((((4 : Nat) : Int)) == 4) = true from rfl, cond_false, cond_true, Bool.and_eq_true, Bool.not_eq_true', decide_eq_true_eq] at h2
  exact ⟨by simp only [Tr.l]; omega, fun y hy => zex.1 h2.2 y hy⟩
theorem zwv (t : Tr) (h5 : t.k ≠ 5) (h2 : t.k ≠ 2) : zm4 t = min (zf7 t.l) 10001 := by
 cases t with
 | mk k s mn mx l => simp only [Tr.k] at h5 h2; simp [zm4, h5, h2, Tr.l]
theorem zch : ∀ a b, zf7 (a ++ b) = zf7 a + zf7 b
 | [], b => by simp [zf7]
 | x :: a, b => by rw [List.cons_append, zf7, zf7, zch a b]; omega
theorem zrh : zm4 emptyT = 0 := by simp [emptyT, zm4, zf7]; rfl
theorem zzf (l : List Nat) : zm4 (zqg l) = 1 := by simp [zqg, zm4, zf7]; rfl
def grT (t : Tr) : Nat := (pre t).countP fun x => decide (x.k = 6)
def grL (l : List Tr) : Nat := (zam l).countP fun x => decide (x.k = 6)
theorem zd2 : grL [] = 0 := by simp [grL, zam]
theorem zce (t : Tr) (l : List Tr) : grL (t :: l) = grT t + grL l := by simp [grL, grT, zam]
theorem zdg (a b : List Tr) : grL (a ++ b) = grL a + grL b := by simp [grL, zbo]
theorem z73 (t : Tr) : grT t = grL t.l + (if t.k = 6 then 1 else 0) := by rw [grT, zcw, List.countP_cons]; simp [grL]
theorem z1u (k : Nat) (s : BS) (mn mx : Int) (l : List Tr) : grT (.mk k s mn mx l) = grL l + (if k = 6 then 1 else 0) := z73 _
theorem zvm : grT emptyT = 0 := by simp [emptyT, grT, pre, zam, Tr.k]
theorem z2w (l : List Nat) : grT (zqg l) = 0 := by simp [zqg, grT, pre, zam, Tr.k]
theorem zdt (kind : Nat) (x : Tr) (l : List Tr) : zbz kind (x :: l) = (bif (x.k : Int) == kind then x.l else bif (kind : Int) == 3 && (x.k : Int) == 1 then [] else [x]) ++ zbz kind l := by simp [zbz]
def G3 (l : List Tr) : Prop := CRL l ∧ ∀ y ∈ l, y.k ≠ 1 ∧ y.k ≠ 3
def G4 (l : List Tr) : Prop := CRL l ∧ ∀ y ∈ l, y.k ≠ 4
theorem zhl : ∀ {l : List Tr}, CRL l → G3 (zbz 3 l)
 | [], _ => ⟨zb0, by simp [zbz]⟩
 | x :: l, h => by
  rw [zao] at h
  obtain ⟨g1, g2⟩ := zhl h.2
  have hx := (zbc x).1 h.1
  rw [zdt]
  by_cases h3 : x.k = 3
  ·have e : ((x.k : Int) == ((3 : Nat) : Int)) = true := by simp [h3]
   rw [e, cond_true]
   refine ⟨(zct _ _).2 ⟨hx.2, g1⟩, fun y hy => ?_⟩
   rcases List.mem_append.1 hy with hy | hy
   ·exact (zig hx.1 h3).2 y hy
   ·exact g2 y hy
  ·have e : ((x.k : Int) == ((3 : Nat) : Int)) = false := by simp; omega
   rw [e, cond_false]
   by_cases h1 : x.k = 1
   ·have e1 : ((((3 : Nat) : Int) == 3) && ((x.k : Int) == 1)) = true := by simp [h1]
    rw [e1, cond_true, List.nil_append]; exact ⟨g1, g2⟩
   ·have e1 : ((((3 : Nat) : Int) == 3) && ((x.k : Int) == 1)) = false := by simp; omega
    rw [e1, cond_false, List.singleton_append]
    refine ⟨(zao _ _).2 ⟨h.1, g1⟩, fun y hy => ?_⟩
    rcases List.mem_cons.1 hy with rfl | hy
    ·exact ⟨h1, h3⟩
    ·exact g2 y hy
theorem zgn : ∀ {l : List Tr}, CRL l → G4 (zbz 4 l)
 | [], _ => ⟨zb0, by simp [zbz]⟩
 | x :: l, h => by
  rw [zao] at h
  obtain ⟨g1, g2⟩ := zgn h.2
  have hx := (zbc x).1 h.1
  rw [zdt]
  by_cases h3 : x.k = 4
  ·have e : ((x.k : Int) == ((4 : Nat) : Int)) = true := by simp [h3]
   rw [e, cond_true]
   refine ⟨(zct _ _).2 ⟨hx.2, g1⟩, fun y hy => ?_⟩
   rcases List.mem_append.1 hy with hy | hy
   ·exact (zb9 hx.1 h3).2 y hy
   ·exact g2 y hy
  ·have e : ((x.k : Int) == ((4 : Nat) : Int)) = false := by simp; omega
   have e1 : ((((4 : Nat) : Int) == 3) && ((x.k : Int) == 1)) = false := by simp
   rw [e, cond_false, e1, cond_false, List.singleton_append]
   refine ⟨(zao _ _).2 ⟨h.1, g1⟩, fun y hy => ?_⟩
   rcases List.mem_cons.1 hy with rfl | hy
   ·exact h3
   ·exact g2 y hy
theorem zfw (kind : Nat) (x : Tr) : zqd kind [x] = x := rfl
theorem zdn (kind : Nat) (x y : Tr) (l : List Tr) : zqd kind (x :: y :: l) = .mk kind 0#256 0 0 (x :: y :: l) := by
 have e1 : (((x :: y :: l).length : Int) == 0) = false := by simp; omega
 have e2 : (((x :: y :: l).length : Int) == 1) = false := by simp; omega
 rw [zqd, e1, e2]; rfl
theorem ztc : ∀ {l : List Tr}, G3 l → CR (zqd 3 l)
 | [], _ => (zbc _).2 ⟨zgx, zb0⟩
 | [x], h => (zcu _).1 h.1 x (by simp)
 | x :: y :: l, h => by rw [zdn]; exact (zbc _).2 ⟨zu5 (by simp) h.2, h.1⟩
theorem zsp : ∀ {l : List Tr}, G4 l → CR (zqd 4 l)
 | [], _ => (zbc _).2 ⟨zgx, zb0⟩
 | [x], h => (zcu _).1 h.1 x (by simp)
 | x :: y :: l, h => by rw [zdn]; exact (zbc _).2 ⟨zts (by simp) h.2, h.1⟩
theorem z27 {a b : Tr} (ha : CR a) (hb : CR b) : CR (zej 3 a b) := ztc (zhl ((zcu _).2 (by simp [ha, hb])))
theorem zt6 {a b : Tr} (ha : CR a) (hb : CR b) : CR (zej 4 a b) := zsp (zgn ((zcu _).2 (by simp [ha, hb])))
theorem ztz (kind : Nat) (hk : kind = 3 ∨ kind = 4) : ∀ l : List Tr, zf7 l ≤ 10000 → zf7 (zbz kind l) ≤ zf7 l
 | [], _ => by simp [zbz, zf7]
 | x :: l, h => by
  rw [zf7] at h
  have h1 := zkb x
  have h2 := zew l
  have ih := ztz kind hk l (by omega)
  rw [zdt, zch, zf7]
  have : zf7 (bif (x.k : Int) == kind then x.l else bif (kind : Int) == 3 && (x.k : Int) == 1 then [] else [x]) ≤ zm4 x := by
   cases e : (x.k : Int) == kind
   ·rw [cond_false]
    cases (kind : Int) == 3 && (x.k : Int) == 1
    ·simp [zf7]
    ·simp [zf7]; omega
   ·rw [cond_true]
    have e' : x.k = kind := by simp at e; omega
    have := zwv x (by omega) (by omega)
    omega
  omega
theorem z52 (kind : Nat) (hk : kind = 3 ∨ kind = 4) : ∀ l : List Tr, zm4 (zqd kind l) ≤ zf7 l
 | [] => by rw [show zqd kind [] = emptyT from rfl, zrh]; simp [zf7]
 | [x] => by rw [zfw]; simp [zf7]
 | x :: y :: l => by
  rw [zdn, zwv _ (by simp only [Tr.k]; omega) (by simp only [Tr.k]; omega)]
  simp only [Tr.l]; omega
theorem zph (kind : Nat) (hk : kind = 3 ∨ kind = 4) {a b : Tr} (h : zm4 a + zm4 b ≤ 10000) : zm4 (zej kind a b) ≤ zm4 a + zm4 b := by
 have h0 : zf7 [a, b] = zm4 a + zm4 b := by simp [zf7]
 have h1 := ztz kind hk [a, b] (by omega)
 have h2 := z52 kind hk (zbz kind [a, b])
 rw [zej]; omega
theorem zx7 (kind : Nat) (hk : kind = 3 ∨ kind = 4) : ∀ l : List Tr, CRL l → grL (zbz kind l) ≤ grL l
 | [], _ => by simp [zbz]
 | x :: l, h => by
  rw [zao] at h
  have ih := zx7 kind hk l h.2
  rw [zdt, zdg, zce]
  have : grL (bif (x.k : Int) == kind then x.l else bif (kind : Int) == 3 && (x.k : Int) == 1 then [] else [x]) ≤ grT x := by
   cases e : (x.k : Int) == kind
   ·rw [cond_false]
    cases (kind : Int) == 3 && (x.k : Int) == 1
    ·rw [cond_false, zce, zd2]; omega
    ·rw [cond_true, zd2]; omega
   ·rw [cond_true]
    have := z73 x; omega
  omega
theorem endJ_gr (kind : Nat) (hk : kind = 3 ∨ kind = 4) : ∀ l : List Tr, grT (zqd kind l) ≤ grL l
 | [] => by rw [show zqd kind [] = emptyT from rfl, zvm]; omega
 | [x] => by rw [zfw, zce]; omega
 | x :: y :: l => by
  rw [zdn, z1u, if_neg (by omega)]; omega
theorem zte (kind : Nat) (hk : kind = 3 ∨ kind = 4) {a b : Tr} (ha : CR a) (hb : CR b) : grT (zej kind a b) ≤ grT a + grT b := by
 have h1 := zx7 kind hk [a, b] ((zcu _).2 (by simp [ha, hb]))
 have h2 := endJ_gr kind hk (zbz kind [a, b])
 simp only [zce, zd2] at h1
 rw [zej]; omega
structure OkM (st : MSt) (i : Nat) : Prop where
 cr : CRL st.1
 pos : zf7 st.1 ≤ (i : Int) * st.2.1
 gr : (grL st.1 : Int) ≤ st.2.2
theorem zq2 {p : List Tr} (h : 0 < p.length) : p = p.take (p.length - 1) ++ [zed p 1] := by
 rw [zhb (by omega) (by omega)]
 conv => lhs; rw [← List.take_append_drop (p.length - 1) p]
 rw [List.drop_eq_getElem_cons (by omega), List.drop_of_length_le (by omega)]
theorem zu9 {p : List Tr} (h : 2 ≤ p.length) : p = p.take (p.length - 2) ++ [zed p 2, zed p 1] := by
 rw [zhb (i := 2) (by omega) (by omega), zhb (i := 1) (by omega) (by omega)]
 conv => lhs; rw [← List.take_append_drop (p.length - 2) p]
 rw [List.drop_eq_getElem_cons (by omega), List.drop_eq_getElem_cons (by omega), List.drop_of_length_le (by omega)]
 simp only [show p.length - 2 + 1 = p.length - 1 by omega]
theorem zx2 {p : List Tr} (h : 0 < p.length) (y : Tr) : p.set (p.length - 1) y = p.take (p.length - 1) ++ [y] := by
 rw [List.set_eq_take_append_cons_drop, if_pos (by omega), List.drop_of_length_le (by omega)]
theorem z1r : ∀ j, j < 12 → zcq (zqg (zrf j)) = true := by decide +kernel
theorem z75 {j : Nat} (h : j < 12) : CR (zqg (zrf j)) := (zbc _).2 ⟨z1r j h, zb0⟩
theorem z2h (x : Sm) : zbl (loM x) (moM x) = true := by
 have h1 : x.2.1 % 3 < 3 := Nat.mod_lt _ (by decide)
 have h2 : x.2.2 % 4 < 4 := Nat.mod_lt _ (by decide)
 unfold moM badM loM m4
 generalize x.2.1 % 3 = a at *
 generalize x.2.2 % 4 = b at *
 have key : ∀ a, a < 3 → ∀ b, b < 4 → zbl ((a : Nat) : Int) (bif decide (((b : Nat) : Int) < (a : Int)) || (b : Int) == 0 || (a : Int) == 1 && (b : Int) == 1 then -1 else (b : Int)) = true := by decide
 exact key a h1 b h2
theorem zw9 (x : Sm) (t : Tr) : zm4 (.mk 5 0#256 (loM x) (moM x) [t]) ≤ zm4 t * tmM x := by
 have h1 : x.2.1 % 3 < 3 := Nat.mod_lt _ (by decide)
 have h2 : x.2.2 % 4 < 4 := Nat.mod_lt _ (by decide)
 have h0 := zkb t
 have hlo : 0 ≤ loM x := by unfold loM; omega
 have hf : min (if moM x = -1 then max (max (loM x) 0) 1 else max (max (loM x) 0) (moM x)) 10001 ≤ tmM x := by
  unfold tmM
  split
  ·rename_i e; rw [e]; omega
  ·omega
 have hm := Int.mul_le_mul_of_nonneg_left hf h0
 simp only [zm4, zf7, if_true, if_neg (show ¬ (5 = 2) by decide), Int.add_zero, Int.zero_add]
 omega
theorem z6c {st : MSt} {i : Nat} (x : Sm) (h : OkM st i) (hi : i ≤ 25) (hv : 0 ≤ st.2.2 ∧ st.2.2 ≤ 9 ∧ 1 ≤ st.2.1 ∧ st.2.1 ≤ 16) : OkM (zng st x) (i + 1) := by
 obtain ⟨c, p, g⟩ := h
 obtain ⟨v1, v2, v3, v4⟩ := hv
 have e0 : ((i + 1 : Nat) : Int) * st.2.1 = (i : Int) * st.2.1 + st.2.1 := by rw [Int.natCast_add, Int.add_mul]; simp
 have e400 : (i : Int) * st.2.1 ≤ 400 := by
  have := Int.mul_le_mul (show (i : Int) ≤ 25 by omega) v4 (by omega) (by omega)
  omega
 have c0 := (zcu _).1 c
 unfold zng
 cases decide (kI x < 4)
 ·cases kI x == 4
  ·cases hA : cA st.1 x
   ·cases hB : cB st.1 x
    ·cases hC : cC st.1 st.2.2 x
     ·cases hD : cD st.1 x
      ·simp only [cond_false]; exact ⟨c, by omega, g⟩
      ·simp only [cond_false, cond_true]
       cases hT : decide (st.2.1 * tmM x ≤ 16)
       ·simp only [cond_false]; exact ⟨c, by omega, g⟩
       ·simp only [cond_true]
        unfold cD at hD
        simp only [Bool.and_eq_true, decide_eq_true_eq, bne_iff_ne, ne_eq] at hD
        have hp : 0 < st.1.length := by omega
        have es := zq2 hp
        rw [zx2 hp]
        rw [es, zct, zao] at c
        rw [es, zch] at p
        rw [es, zdg, zce, zd2] at g
        simp only [zf7, Int.add_zero] at p
        refine ⟨(zct _ _).2 ⟨c.1, (zao _ _).2 ⟨(zbc _).2 ⟨zi1 (by omega) (z2h x), (zao _ _).2 ⟨c.2.1, zb0⟩⟩, zb0⟩⟩, ?_, ?_⟩
        ·have h1 := zw9 x (zed st.1 1)
         have h2 := zew (st.1.take (st.1.length - 1))
         have h3 := (z43 x).1
         rw [zch]
         simp only [zf7, Int.add_zero]
         have h4 := Int.mul_le_mul_of_nonneg_right p (show 0 ≤ tmM x by omega)
         have h5 := Int.mul_le_mul_of_nonneg_left h3 h2
         rw [Int.add_mul] at h4
         have e1 : ((i + 1 : Nat) : Int) * (st.2.1 * tmM x) = (i : Int) * st.2.1 * tmM x + st.2.1 * tmM x := by
          rw [Int.natCast_add, Int.add_mul, Int.mul_assoc]; simp
         have h6 : 0 ≤ st.2.1 * tmM x := Int.mul_nonneg (by omega) (by omega)
         rw [e1]; omega
        ·dsimp only; rw [zdg, zce, zd2, z1u, zce, zd2, if_neg (by decide)]; omega
     ·simp only [cond_false, cond_true]
      unfold cC at hC
      simp only [Bool.and_eq_true, decide_eq_true_eq] at hC
      have hp : 0 < st.1.length := by omega
      have es := zq2 hp
      rw [zx2 hp]
      rw [es, zct, zao] at c
      rw [es, zch] at p
      rw [es, zdg, zce, zd2] at g
      simp only [zf7, Int.add_zero] at p
      refine ⟨(zct _ _).2 ⟨c.1, (zao _ _).2 ⟨(zbc _).2 ⟨zpj _, (zao _ _).2 ⟨c.2.1, zb0⟩⟩, zb0⟩⟩, ?_, ?_⟩
      ·rw [zch, zf7, zwv _ (by simp only [Tr.k]; omega) (by simp only [Tr.k]; omega)]
       simp only [Tr.l, zf7, Int.add_zero]; omega
      ·dsimp only; rw [zdg, zce, zd2, z1u, zce, zd2, if_pos rfl]; omega
    ·simp only [cond_false, cond_true]
     unfold cB at hB
     simp only [Bool.and_eq_true, decide_eq_true_eq] at hB
     have hp : 2 ≤ st.1.length := by omega
     have es := zu9 hp
     rw [es, zct, zao, zao] at c
     rw [es, zch] at p
     rw [es, zdg, zce, zce, zd2] at g
     simp only [zf7, Int.add_zero] at p
     have n0 := zew (st.1.take (st.1.length - 2))
     refine ⟨(zct _ _).2 ⟨c.1, (zao _ _).2 ⟨zt6 c.2.1 c.2.2.1, zb0⟩⟩, ?_, ?_⟩
     ·have := zph 4 (.inr rfl) (a := zed st.1 2) (b := zed st.1 1) (by omega)
      rw [zch]; simp only [zf7, Int.add_zero]; omega
     ·dsimp only; have := zte 4 (.inr rfl) c.2.1 c.2.2.1
      rw [zdg, zce, zd2]; omega
   ·simp only [cond_false, cond_true]
    unfold cA at hA
    simp only [Bool.and_eq_true, decide_eq_true_eq] at hA
    have hp : 2 ≤ st.1.length := by omega
    have es := zu9 hp
    rw [es, zct, zao, zao] at c
    rw [es, zch] at p
    rw [es, zdg, zce, zce, zd2] at g
    simp only [zf7, Int.add_zero] at p
    have n0 := zew (st.1.take (st.1.length - 2))
    refine ⟨(zct _ _).2 ⟨c.1, (zao _ _).2 ⟨z27 c.2.1 c.2.2.1, zb0⟩⟩, ?_, ?_⟩
    ·have := zph 3 (.inl rfl) (a := zed st.1 2) (b := zed st.1 1) (by omega)
     rw [zch]; simp only [zf7, Int.add_zero]; omega
    ·dsimp only; have := zte 3 (.inl rfl) c.2.1 c.2.2.1
     rw [zdg, zce, zd2]; omega
  ·simp only [cond_false, cond_true]
   refine ⟨(zct _ _).2 ⟨c, (zao _ _).2 ⟨(zbc _).2 ⟨zgx, zb0⟩, zb0⟩⟩, ?_, ?_⟩
   ·rw [zch]; simp only [zf7, zrh]; omega
   ·dsimp only; rw [zdg, zce, zd2, zvm]; omega
 ·simp only [cond_true]
  refine ⟨(zct _ _).2 ⟨c, (zao _ _).2 ⟨z75 (Nat.mod_lt _ (by decide)), zb0⟩⟩, ?_, ?_⟩
  ·rw [zch]; simp only [zf7, zzf]; omega
  ·dsimp only; rw [zdg, zce, zd2, z2w]; omega
theorem okM (l : List Sm) (hl : l.length ≤ 25) : ∀ i, i ≤ l.length → OkM (MM l i) i
 | 0, _ => ⟨by simp [MM]; exact zb0, by simp [MM, zf7], by simp [MM, zd2]⟩
 | i + 1, h => by
  rw [zwt l i (by omega)]
  have := invM l i (by omega)
  exact z6c _ (okM l hl i (by omega)) (by omega) ⟨this.2.1, this.2.2.1, this.2.2.2.1, this.2.2.2.2⟩
theorem z4j : ∀ (r : List Tr) (x : Tr), CR x → CRL r → zm4 x + zf7 r ≤ 400 →
 CR (r.foldl (zej 4) x) ∧ zm4 (r.foldl (zej 4) x) ≤ zm4 x + zf7 r ∧ grT (r.foldl (zej 4) x) ≤ grT x + grL r ∧ (pre (r.foldl (zej 4) x)).length ≤ (pre x).length + (zam r).length + r.length
 | [], x, h, _, _ => by simp [zf7, zd2, zam, h]
 | y :: r, x, h, hr, hp => by
  rw [zao] at hr
  rw [zf7] at hp
  have n1 := zew r
  have j1 := zph 4 (.inr rfl) (a := x) (b := y) (by omega)
  have j2 := zte 4 (.inr rfl) h hr.1
  have j3 := zjr 4 x y
  obtain ⟨k1, k2, k3, k4⟩ := z4j r (zej 4 x y) (zt6 h hr.1) hr.2 (by omega)
  rw [List.foldl_cons, zf7, zce, zam, List.length_append, List.length_cons]
  exact ⟨k1, by omega, by omega, by omega⟩
theorem made_ok (l : List Sm) : CR (zon l) ∧ zm4 (zon l) ≤ 400 ∧ grT (zon l) ≤ 9 ∧ (pre (zon l)).length ≤ 50 := by
 obtain ⟨m, hm⟩ : ∃ m, l.take 25 = m := ⟨_, rfl⟩
 have hlen : m.length ≤ 25 := by rw [← hm, List.length_take]; omega
 rw [zon, hm]
 have e : MM m 25 = MM m m.length := by rw [MM, MM, List.take_of_length_le hlen, List.take_length]
 rw [e]
 have o := okM m hlen m.length (Nat.le_refl _)
 have v := invM m m.length (Nat.le_refl _)
 obtain ⟨c, p, g⟩ := o
 have p400 : zf7 (MM m m.length).1 ≤ 400 := by
  have := Int.mul_le_mul (show (m.length : Int) ≤ 25 by omega) v.2.2.2.2 (by omega) (by omega)
  omega
 match h : (MM m m.length).1 with
 | [] => exact ⟨z75 (j := 0) (by decide), by rw [z8b, zzf]; omega, by rw [z8b, z2w]; omega, by simp [z8b, zqg, pre, zam]⟩
 | x :: r =>
  rw [h] at c p400 g v
  rw [zao] at c
  rw [zf7] at p400
  rw [zce] at g
  have hv := v.1
  rw [zam, List.length_append] at hv
  obtain ⟨k1, k2, k3, k4⟩ := z4j r x c.1 c.2 (by omega)
  have hr := zag r
  rw [z8b]
  exact ⟨k1, by omega, by omega, by omega⟩
theorem zfc {t : Tr} (h : CR t) (hl : (pre t).length ≤ 10000) : zbx t = true := by
 rw [zbx, zcy, Bool.and_eq_true]; exact ⟨by simpa using hl, h⟩
theorem zz1 (lo hi : Int) : zbl lo hi = true ↔ (0 ≤ lo ∧ lo ≤ 16 ∧ ¬ (lo = 1 ∧ hi = 1)) ∧ (hi = -1 ∨ (1 ≤ hi ∧ hi ≤ 16 ∧ lo ≤ hi)) := by simp [zbl]; omega
structure MT (t : Tr) : Prop where
 cr : CR t
 pos : zm4 t ≤ 400
 gr : grT t ≤ 9
 len : (pre t).length ≤ 50
theorem MT.clean {t : Tr} (h : MT t) : zbx t = true := zfc h.cr (by have := h.len; omega)
theorem MT.good {t : Tr} (h : MT t) : zke t = true := by rw [zke, h.clean, Bool.or_true]
theorem MT.k0 {t : Tr} (h : MT t) : t.k ≠ 0 := by have := zpx ((zbc t).1 h.cr).1; omega
theorem made_mt (l : List Sm) : MT (zon l) := by obtain ⟨h1, h2, h3, h4⟩ := made_ok l; exact ⟨h1, h2, h3, h4⟩
theorem zoa {t : Tr} (h : zcy t = true) : zd0 t t = true := by rw [zd0, h, (zi0 t t).2 rfl]; rfl
theorem flatT3 (l : List Tr) : zg3 3 1 l = zbz 3 l := by
 unfold zg3 zbz
 congr 1
theorem z7u : ∀ {l : List Tr}, (∀ t ∈ l, t.k ≠ 0) → zg3 4 0 l = zbz 4 l
 | [], _ => rfl
 | x :: l, h => by
  have ih := z7u (l := l) fun t ht => h t (List.mem_cons_of_mem _ ht)
  have e0 : ((x.k : Int) == ((0 : Nat) : Int)) = false := by have := h x (by simp); simp; omega
  rw [zdt, ← ih, zg3, List.flatMap_cons, ← zg3, e0]
  rfl
def CS (n : Nat) (t : Tr) : Prop := CR t ∧ (pre t).length ≤ n
theorem MT.cs {t : Tr} (h : MT t) : CS 50 t := ⟨h.cr, h.len⟩
theorem CR.k0 {t : Tr} (h : CR t) : t.k ≠ 0 := by have := zpx ((zbc t).1 h).1; omega
theorem z3m {t : Tr} (h : CR t) (hk : t.k = 1) : t = emptyT := by
 have hr := ((zbc t).1 h).1
 cases t with
 | mk k s mn mx l =>
  simp only [Tr.k] at hk; subst hk
  rw [zcj, zg8] at hr
  simp only [Bool.and_eq_true, Bool.not_eq_true', Bool.or_eq_false_iff] at hr
  obtain ⟨⟨⟨h1, h2⟩, h3⟩, _⟩ := hr
  simp at h1 h2 h3
  have hl : l = [] := by cases l with | nil => rfl | cons x l => simp at h3
  rw [h1, h2.1, h2.2, hl]; rfl
theorem znp (kind : Nat) : ∀ l : List Tr, (pre (zqd kind l)).length ≤ (zam l).length + 1
 | [] => by rw [show zqd kind [] = emptyT from rfl]; simp [emptyT, pre, zam]
 | [x] => by rw [zfw]; simp [zam]
 | x :: y :: l => by rw [zdn, pre, List.length_cons]; omega
theorem zfj {t : Tr} (h : zbx t = true) : zd8 t = t := by rw [zd8, if_pos h]
theorem zpe {l : List Tr} (h : CRL l) (hl : (zam l).length ≤ 1000) : zhi l = zqd 3 (zbz 3 l) := by
 have hc := (zcu l).1 h
 have hln : ∀ t ∈ l, (pre t).length ≤ 1000 := fun t ht => by
  have : ∀ (l : List Tr), t ∈ l → (pre t).length ≤ (zam l).length := by
   intro l
   induction l with
   | nil => intro h; cases h
   | cons y l ih =>
    intro h
    rw [zam, List.length_append]
    rcases List.mem_cons.1 h with rfl | h
    ·omega
    ·have := ih h; omega
  have := this l ht; omega
 have ha : (l.any fun x => (x.k : Int) == 0 || !zbx x) = false := by
  rw [List.any_eq_false]
  intro x hx
  have h1 := zfc (hc x hx) (by have := hln x hx; omega)
  have h2 := (hc x hx).k0
  simp [h1]; omega
 rw [zhi, ha, if_neg (by decide), flatT3]
 have g := zhl h
 have hfl := ze0 3 l
 have hend := znp 3 (zbz 3 l)
 have hcr := ztc g
 revert hend hcr
 generalize zbz 3 l = m at g hfl
 intro hend hcr
 match m, g, hend, hcr with
 | [], _, _, _ => rfl
 | [x], _, hend, hcr =>
  rw [zfw] at hend hcr ⊢
  show zd8 x = x
  exact zfj (zfc hcr (by omega))
 | x :: y :: m, _, hend, hcr =>
  rw [zdn] at hend hcr ⊢
  have e1 : (((x :: y :: m).length : Int) == 0) = false := by simp; omega
  have e2 : (((x :: y :: m).length : Int) == 1) = false := by simp; omega
  rw [zkl, e1, e2]
  exact zfj (zfc hcr (by omega))
theorem zr4 {l : List Tr} (h : CRL l) (hl : l ≠ []) : zbz 4 l ≠ [] := by
 cases l with
 | nil => exact absurd rfl hl
 | cons x l =>
  rw [zao] at h
  rw [zdt]
  by_cases h4 : x.k = 4
  ·have e : ((x.k : Int) == ((4 : Nat) : Int)) = true := by simp [h4]
   rw [e, cond_true]
   have hlen := (zb9 ((zbc x).1 h.1).1 h4).1
   intro hn
   have h1 := (List.append_eq_nil_iff.1 hn).1
   rw [h1] at hlen
   simp at hlen
  ·have e : ((x.k : Int) == ((4 : Nat) : Int)) = false := by simp; omega
   have e1 : ((((4 : Nat) : Int) == 3) && ((x.k : Int) == 1)) = false := by simp
   rw [e, cond_false, e1, cond_false]
   simp
theorem z2x {l : List Tr} (h : CRL l) (hne : l ≠ []) (hl : (zam l).length ≤ 1000) : orT l = zqd 4 (zbz 4 l) := by
 have hc := (zcu l).1 h
 have hln : ∀ t ∈ l, (pre t).length ≤ 1000 := fun t ht => by
  have : ∀ (l : List Tr), t ∈ l → (pre t).length ≤ (zam l).length := by
   intro l
   induction l with
   | nil => intro h; cases h
   | cons y l ih =>
    intro h
    rw [zam, List.length_append]
    rcases List.mem_cons.1 h with rfl | h
    ·omega
    ·have := ih h; omega
  have := this l ht; omega
 have ha : (l.any fun x => !zke x) = false := by
  rw [List.any_eq_false]
  intro x hx
  have h1 := zfc (hc x hx) (by have := hln x hx; omega)
  rw [zke, h1]; simp
 rw [orT, ha, if_neg (by decide), z7u fun t ht => (hc t ht).k0]
 have g := zgn h
 have hn := zr4 h hne
 have hfl := ze0 4 l
 have hend := znp 4 (zbz 4 l)
 have hcr := zsp g
 revert hend hcr hn
 generalize zbz 4 l = m at g hfl
 intro hn hend hcr
 match m, g, hend, hcr, hn with
 | [], _, _, _, hn => exact absurd rfl hn
 | [x], _, hend, hcr, _ =>
  rw [zfw] at hend hcr ⊢
  show zd8 x = x
  exact zfj (zfc hcr (by omega))
 | x :: y :: m, _, hend, hcr, _ =>
  rw [zdn] at hend hcr ⊢
  have e1 : (((x :: y :: m).length : Int) == 0) = false := by simp; omega
  have e2 : (((x :: y :: m).length : Int) == 1) = false := by simp; omega
  rw [zkl, e1, e2]
  exact zfj (zfc hcr (by omega))
def z5u (c : Int) : List AV := [.raw (.int .u8 c)]
theorem zxo : ∀ j : Nat, j < 256 → zsb .u8 (j : Int) 6 = ((j / 64 : Nat) : Int) ∧ z3b .u8 (j : Int) 63 = ((j % 64 : Nat) : Int) ∧ IntKind.u8.wrap (j : Int) = (j : Int) := by decide +kernel
theorem zt0 {n : Nat} (h : n < 2 ^ 64) : IntKind.u64.wrap (n : Int) = (n : Int) := by
 simp only [IntKind.wrap, IntKind.bits, IntKind.signed]
 simp; omega
theorem zy8 (w : BitVec 64) : IntKind.u64.wrap ((w.toNat : Nat) : Int) = ((w.toNat : Nat) : Int) := zt0 w.isLt
theorem zsg (x : BitVec 64) : BitVec.ofInt 64 ((x.toNat : Nat) : Int) = x := by
 apply BitVec.eq_of_toNat_eq; simp
theorem orI64 (x y : BitVec 64) : orI .u64 (x.toNat : Int) (y.toNat : Int) = ((x ||| y).toNat : Int) := by
 show IntKind.u64.wrap (((BitVec.ofInt 64 (x.toNat : Int) ||| BitVec.ofInt 64 (y.toNat : Int)).toNat : Nat) : Int) = _
 rw [zsg, zsg]; exact zy8 _
theorem z2r (x y : BitVec 64) : zmm .u64 (x.toNat : Int) (y.toNat : Int) = ((x &&& ~~~ y).toNat : Int) := by
 show IntKind.u64.wrap (((BitVec.ofInt 64 (x.toNat : Int) &&& ~~~ BitVec.ofInt 64 (y.toNat : Int)).toNat : Nat) : Int) = _
 rw [zsg, zsg]; exact zy8 _
theorem wd_or (a b : BS) (i : Nat) : orI .u64 (wd a i) (wd b i) = wd (a ||| b) i := by
 unfold wd
 rw [orI64]
 have : W64 a i ||| W64 b i = W64 (a ||| b) i := by
  apply BitVec.eq_of_getLsbD_eq
  intro j hj
  simp only [W64, BitVec.getLsbD_or, BitVec.getLsbD_extractLsb', hj, decide_true, Bool.true_and]
 rw [this]
theorem zta (a b : BS) (i : Nat) (hi : i < 4) : zmm .u64 (wd a i) (wd b i) = wd (a &&& ~~~ b) i := by
 unfold wd
 rw [z2r]
 have : W64 a i &&& ~~~ W64 b i = W64 (a &&& ~~~ b) i := by
  apply BitVec.eq_of_getLsbD_eq
  intro j hj
  simp only [W64, BitVec.getLsbD_and, BitVec.getLsbD_not, BitVec.getLsbD_extractLsb', hj, decide_true, Bool.true_and]
  have : 64 * i + j < 256 := by omega
  simp [this]
 rw [this]
theorem z7d (w : BitVec 64) (r : Nat) (hr : r < 64) : (z3b .u64 (zsb .u64 ((w.toNat : Nat) : Int) (r : Int)) 1 == 1) = w.getLsbD r := by
 have hw := w.isLt
 have h1 : zsb .u64 ((w.toNat : Nat) : Int) (r : Int) = ((w.toNat / 2 ^ r : Nat) : Int) := by
  unfold zsb
  rw [show min (r : Int).toNat IntKind.u64.bits = r from by simp [IntKind.bits]; omega]
  rw [Int.fdiv_eq_ediv_of_nonneg _ (by exact_mod_cast Nat.zero_le _)]
  norm_cast
 rw [h1]
 have h2 : w.toNat / 2 ^ r < 2 ^ 64 := Nat.lt_of_le_of_lt (Nat.div_le_self _ _) hw
 show (IntKind.u64.wrap (((BitVec.ofInt 64 ((w.toNat / 2 ^ r : Nat) : Int) &&& BitVec.ofInt 64 1).toNat : Nat) : Int) == 1) = _
 have h3 : (BitVec.ofInt 64 ((w.toNat / 2 ^ r : Nat) : Int) &&& BitVec.ofInt 64 1).toNat = w.toNat / 2 ^ r % 2 := by
  rw [BitVec.toNat_and]
  have e1 : (BitVec.ofInt 64 ((w.toNat / 2 ^ r : Nat) : Int)).toNat = w.toNat / 2 ^ r := by
   rw [BitVec.ofInt_natCast, BitVec.toNat_ofNat]; exact Nat.mod_eq_of_lt h2
  have e2 : (BitVec.ofInt 64 1).toNat = 1 := rfl
  rw [e1, e2, Nat.and_one_is_mod]
 rw [h3]
 have h4 : w.toNat / 2 ^ r % 2 < 2 := Nat.mod_lt _ (by decide)
 have h5 : IntKind.u64.wrap ((w.toNat / 2 ^ r % 2 : Nat) : Int) = ((w.toNat / 2 ^ r % 2 : Nat) : Int) := zt0 (Nat.lt_trans h4 (by decide))
 rw [h5, BitVec.getLsbD, Nat.testBit_eq_decide_div_mod_eq]
 generalize w.toNat / 2 ^ r % 2 = m
 rw [Bool.eq_iff_iff]; simp only [beq_iff_eq, decide_eq_true_eq]; omega
def elN (s : BS) (i : Nat) : List Nat := (List.range i).filter fun j => s.getLsbD j
def els (s : BS) : List Int := (elN s 256).map fun (j : Nat) => (j : Int)
theorem zyv (s : BS) (i : Nat) : elN s (i + 1) = elN s i ++ (if s.getLsbD i = true then [i] else []) := by
 rw [elN, List.range_succ, List.filter_append]; simp [elN, List.filter_cons]
theorem z3f (s : BS) {i : Nat} (h : s.getLsbD i = true) : ∀ k, i < k → (elN s k)[(elN s i).length]? = some i
 | 0, hk => by omega
 | k + 1, hk => by
  rw [zyv]
  by_cases e : i = k
  ·subst e; rw [if_pos h]; simp
  ·have ih := z3f s h k (by omega)
   rw [List.getElem?_append_left (List.getElem?_eq_some_iff.1 ih).1]; exact ih
def zkm (x y : Int) : Int := if x < y then -1 else if x > y then 1 else 0
def zqa (p q : Nat → Bool) : List Nat → Int
 | [] => 0
 | j :: l => if p j = q j then zqa p q l else if p j = true then -1 else 1
def cmpS (s t : BS) : Int := zqa s.getLsbD t.getLsbD (List.range 256)
theorem zul (p q : Nat → Bool) : ∀ l, zqa p q l = - zqa q p l
 | [] => rfl
 | j :: l => by
  rw [zqa, zqa]
  by_cases h : p j = q j
  ·rw [if_pos h, if_pos h.symm, zul p q l]
  ·rw [if_neg h, if_neg (Ne.symm h)]
   cases hp : p j <;> cases hq : q j <;> simp_all
theorem zq0 (p q : Nat → Bool) : ∀ l, zqa p q l = -1 ∨ zqa p q l = 0 ∨ zqa p q l = 1
 | [] => .inr (.inl rfl)
 | j :: l => by
  rw [zqa]
  split
  ·exact zq0 p q l
  ·split
   ·exact .inl rfl
   ·exact .inr (.inr rfl)
theorem zvj (p q : Nat → Bool) : ∀ l, zqa p q l = 0 ↔ ∀ j ∈ l, p j = q j
 | [] => by simp [zqa]
 | j :: l => by
  rw [zqa]
  by_cases h : p j = q j
  ·rw [if_pos h, zvj p q l]; simp [h]
  ·rw [if_neg h]
   constructor
   ·intro e; split at e <;> simp at e
   ·intro e; exact absurd (e j (by simp)) h
theorem zq1 (p q r : Nat → Bool) : ∀ l, zqa p q l ≤ 0 → zqa q r l ≤ 0 → zqa p r l ≤ 0
 | [], _, _ => by simp [zqa]
 | j :: l, h1, h2 => by
  rw [zqa] at h1 h2 ⊢
  have ih := zq1 p q r l
  cases hp : p j <;> cases hq : q j <;> cases hr : r j <;> simp [hp, hq, hr] at h1 h2 ⊢ <;> first | exact ih h1 h2 | skip
theorem z17 (s t : BS) : cmpS s t = 0 ↔ s = t := by
 rw [cmpS, zvj]
 constructor
 ·intro h; apply BitVec.eq_of_getLsbD_eq; intro j hj; exact h j (List.mem_range.2 hj)
 ·rintro rfl j _; rfl
theorem z0x (p q : Nat → Bool) (d : Nat → Bool) (l : List Nat) (hd : ∀ j ∈ l, d j = (p j != q j)) : zqa p q l = (match l.filter d with | [] => 0 | c :: _ => if p c = true then -1 else 1) := by
 induction l with
 | nil => rfl
 | cons j l ih =>
  have h := hd j (by simp)
  rw [zqa, List.filter_cons]
  by_cases e : p j = q j
  ·rw [if_pos e, if_neg (by rw [h, e]; simp)]
   exact ih fun k hk => hd k (by simp [hk])
  ·have hb : d j = true := by rw [h]; simpa using e
   rw [if_neg e, hb]; rfl
def zdv (c d : Int) : Int := if c ≠ 0 then c else d
def zw6 (mx : Int) : Int := if mx = -1 then 9223372036854775807 else mx
mutual
def zge : Tr → Tr → Int
 | .mk k s mn mx l, .mk k' s' mn' mx' l' => if k ≠ k' then zkm k k' else if k = 2 then cmpS s s' else if k = 5 then zdv (zdv (zkm mn mn') (zkm (zw6 mx) (zw6 mx'))) (zh2 l l') else if k = 0 ∨ k = 1 then 0 else zh2 l l'
def zh2 : List Tr → List Tr → Int
 | [], [] => 0
 | [], _ :: _ => -1
 | _ :: _, [] => 1
 | x :: a, y :: b => zdv (zge x y) (zh2 a b)
end
theorem zoy (x y : Int) : zkm x y = - zkm y x := by unfold zkm; split <;> split <;> (try split) <;> omega
theorem zmj (x y : Int) : zkm x y = -1 ∨ zkm x y = 0 ∨ zkm x y = 1 := by unfold zkm; split <;> (try split) <;> simp
theorem zpg (x y : Int) : zkm x y = 0 ↔ x = y := by unfold zkm; split <;> (try split) <;> omega
theorem zpt (x y : Int) : zkm x y ≤ 0 ↔ x ≤ y := by unfold zkm; split <;> (try split) <;> omega
theorem zj9 {c d : Int} (h : c = -1 ∨ c = 0 ∨ c = 1) (k : d = -1 ∨ d = 0 ∨ d = 1) : zdv c d = -1 ∨ zdv c d = 0 ∨ zdv c d = 1 := by unfold zdv; split <;> assumption
theorem zlx {c d c' d' : Int} (h : c = -c') (k : d = -d') : zdv c d = - zdv c' d' := by unfold zdv; split <;> split <;> omega
theorem zl9 {c d : Int} : zdv c d = 0 ↔ c = 0 ∧ d = 0 := by unfold zdv; split <;> omega
theorem zoc {m m' m'' d d' d'' : Int} (h : d ≤ 0 → d' ≤ 0 → d'' ≤ 0) : zdv (zkm m m') d ≤ 0 → zdv (zkm m' m'') d' ≤ 0 → zdv (zkm m m'') d'' ≤ 0 := by
 unfold zdv zkm
 repeat' split
 all_goals first | omega | (intro h1 h2; first | omega | exact h h1 h2)
theorem zwc {xy yx yz zy xz zx d d' d'' : Int} (a1 : xy = -yx) (a2 : yz = -zy) (a3 : xz = -zx) (t1 : xy ≤ 0 → yz ≤ 0 → xz ≤ 0) (t2 : yz ≤ 0 → zx ≤ 0 → yx ≤ 0) (t3 : zx ≤ 0 → xy ≤ 0 → zy ≤ 0) (h : d ≤ 0 → d' ≤ 0 → d'' ≤ 0) :
 zdv xy d ≤ 0 → zdv yz d' ≤ 0 → zdv xz d'' ≤ 0 := by
 unfold zdv
 intro h1 h2
 split at h1 <;> split at h2 <;> split <;> first | omega | exact h h1 h2
def SetG (S : Tr → Prop) : Prop := (∀ x y, S x → S y → zge x y = - zge y x) ∧ (∀ x y z, S x → S y → S z → zge x y ≤ 0 → zge y z ≤ 0 → zge x z ≤ 0)
theorem zu3 {S : Tr → Prop} (g : SetG S) : ∀ a b, (∀ x ∈ a, S x) → (∀ x ∈ b, S x) → zh2 a b = - zh2 b a
 | [], [], _, _ => by simp [zh2]
 | [], _ :: _, _, _ => by simp [zh2]
 | _ :: _, [], _, _ => by simp [zh2]
 | x :: a, y :: b, ha, hb => by
  rw [zh2, zh2]
  exact zlx (g.1 x y (ha x (by simp)) (hb y (by simp))) (zu3 g a b (fun z hz => ha z (by simp [hz])) (fun z hz => hb z (by simp [hz])))
theorem zqu {S : Tr → Prop} (g : SetG S) : ∀ a b c, (∀ x ∈ a, S x) → (∀ x ∈ b, S x) → (∀ x ∈ c, S x) → zh2 a b ≤ 0 → zh2 b c ≤ 0 → zh2 a c ≤ 0
 | [], b, [], _, _, _ => by intros; simp [zh2]
 | [], b, _ :: _, _, _, _ => by intros; simp [zh2]
 | x :: a, [], c, _, _, _ => by intro h; simp [zh2] at h
 | x :: a, y :: b, [], _, _, _ => by intro _ h; simp [zh2] at h
 | x :: a, y :: b, z :: c, ha, hb, hc => by
  rw [zh2, zh2, zh2]
  have sx := ha x (by simp); have sy := hb y (by simp); have sz := hc z (by simp)
  exact zwc (g.1 x y sx sy) (g.1 y z sy sz) (g.1 x z sx sz) (g.2 x y z sx sy sz) (fun h1 h2 => g.2 y z x sy sz sx h1 h2) (fun h1 h2 => g.2 z x y sz sx sy h1 h2)
   (zqu g a b c (fun w hw => ha w (by simp [hw])) (fun w hw => hb w (by simp [hw])) (fun w hw => hc w (by simp [hw])))
theorem zwj : ∀ n, SetG fun t => (pre t).length ≤ n
 | 0 => ⟨fun x y h => by have h : (pre x).length ≤ 0 := h; rw [zcw] at h; simp at h, fun x y z h => by have h : (pre x).length ≤ 0 := h; rw [zcw] at h; simp at h⟩
 | n + 1 => by
  have g := zwj n
  have sub : ∀ t : Tr, (pre t).length ≤ n + 1 → ∀ x ∈ t.l, (pre x).length ≤ n := fun t h x hx => by
   have h1 := zbt hx
   rw [zcw] at h; simp at h; omega
  constructor
  ·rintro ⟨k, s, mn, mx, l⟩ ⟨k', s', mn', mx', l'⟩ h1 h2
   have s1 := sub _ h1
   have s2 := sub _ h2
   simp only [Tr.l] at s1 s2
   have hl := zu3 g l l' s1 s2
   rw [zge, zge]
   by_cases e : k = k'
   ·subst e
    simp only [ne_eq, not_true_eq_false, if_false]
    split
    ·exact zul _ _ _
    split
    ·exact zlx (zlx (zoy _ _) (zoy _ _)) hl
    split
    ·rfl
    ·exact hl
   ·rw [if_pos e, if_pos (Ne.symm e)]; exact zoy _ _
  ·rintro ⟨k, s, mn, mx, l⟩ ⟨k', s', mn', mx', l'⟩ ⟨k'', s'', mn'', mx'', l''⟩ h1 h2 h3
   have s1 := sub _ h1
   have s2 := sub _ h2
   have s3 := sub _ h3
   simp only [Tr.l] at s1 s2 s3
   have hl := zqu g l l' l'' s1 s2 s3
   rw [zge, zge, zge]
   by_cases e : k = k'
   ·subst e
    by_cases e2 : k = k''
    ·subst e2
     simp only [ne_eq, not_true_eq_false, if_false]
     split
     ·exact zq1 _ _ _ _
     split
     ·rename_i h5
      have key : ∀ (a b c a' b' c' : Int) (d d' d'' : Int), (d ≤ 0 → d' ≤ 0 → d'' ≤ 0) → zdv (zdv (zkm a b) (zkm a' b')) d ≤ 0 → zdv (zdv (zkm b c) (zkm b' c')) d' ≤ 0 → zdv (zdv (zkm a c) (zkm a' c')) d'' ≤ 0 := by
       intro a b c a' b' c' d d' d'' h
       have asc : ∀ x y z : Int, zdv (zdv x y) z = zdv x (zdv y z) := fun x y z => by
        unfold zdv
        by_cases hx : x = 0
        ·simp [hx]
        ·simp [hx]
       rw [asc, asc, asc]
       exact zoc (zoc h)
      exact key _ _ _ _ _ _ _ _ _ hl
     split
     ·intros; omega
     ·exact hl
    ·intro _ h
     rw [if_pos (by simpa using e2)] at h ⊢
     rw [zpt] at h ⊢; exact h
   ·rw [if_pos (show k ≠ k' from e)]
    intro h
    rw [zpt] at h
    by_cases e2 : k' = k''
    ·subst e2
     intro _
     rw [if_pos (show k ≠ k' from e)]
     rw [zpt]; exact h
    ·rw [if_pos (show k' ≠ k'' from e2)]
     intro h'
     rw [zpt] at h'
     rw [if_pos (show k ≠ k'' by omega), zpt]; omega
theorem zen (x y : Tr) : zge x y = - zge y x := (zwj (max (pre x).length (pre y).length)).1 x y (Nat.le_max_left _ _) (Nat.le_max_right _ _)
theorem ze2 (x y z : Tr) : zge x y ≤ 0 → zge y z ≤ 0 → zge x z ≤ 0 := (zwj ((pre x).length + (pre y).length + (pre z).length)).2 x y z (by omega) (by omega) (by omega)
theorem zs3 (x : Tr) : zge x x = 0 := by have := zen x x; omega
mutual
theorem z01 : ∀ x y, zge x y = -1 ∨ zge x y = 0 ∨ zge x y = 1
 | .mk k s mn mx l, .mk k' s' mn' mx' l' => by
  rw [zge]
  have hl := zqj l l'
  split
  ·exact zmj _ _
  split
  ·exact zq0 _ _ _
  split
  ·exact zj9 (zj9 (zmj _ _) (zmj _ _)) hl
  split
  ·exact .inr (.inl rfl)
  ·exact hl
theorem zqj : ∀ a b, zh2 a b = -1 ∨ zh2 a b = 0 ∨ zh2 a b = 1
 | [], [] => by simp [zh2]
 | [], _ :: _ => by simp [zh2]
 | _ :: _, [] => by simp [zh2]
 | x :: a, y :: b => by rw [zh2]; exact zj9 (z01 x y) (zqj a b)
end
theorem zxh {k : Nat} {s : BS} {mn mx : Int} {l : List Tr} (h : zcq (.mk k s mn mx l) = true) : (k ≠ 2 → s = 0#256) ∧ (k ≠ 5 → mn = 0 ∧ mx = 0) ∧ (k < 3 → l = []) ∧ (k = 5 → mx = -1 ∨ (1 ≤ mx ∧ mx ≤ 16)) := by
 have hk := zpx h
 simp only [Tr.k] at hk
 rw [zcj, Bool.and_eq_true, zg8] at h
 obtain ⟨h1, h2⟩ := h
 simp only [Bool.not_eq_true', Bool.or_eq_false_iff, Bool.and_eq_false_iff] at h1
 obtain ⟨⟨a, b⟩, c⟩ := h1
 refine ⟨fun h => ?_, fun h => ?_, fun h => ?_, fun h => ?_⟩
 ·rcases a with a | a
  ·simp at a; omega
  ·simpa using a
 ·rcases b with b | b
  ·simp at b; omega
  ·simp at b; exact b
 ·rcases c with c | c
  ·simp at c; omega
  ·cases l with
   | nil => rfl
   | cons x l => simp at c
 ·subst h
  simp [zbl] at h2
  have := h2.1.2
  omega
mutual
theorem zwk : ∀ x y, CR x → CR y → zge x y = 0 → x = y
 | .mk k s mn mx l, .mk k' s' mn' mx' l', hx, hy, h => by
  rw [zbc] at hx hy
  simp only [Tr.l] at hx hy
  obtain ⟨a1, a2, a3, a4⟩ := zxh hx.1
  obtain ⟨b1, b2, b3, b4⟩ := zxh hy.1
  have hk := zpx hx.1
  simp only [Tr.k] at hk
  rw [zge] at h
  by_cases e : k = k'
  ·subst e
   simp only [ne_eq, not_true_eq_false, if_false] at h
   split at h
   ·rename_i h2
    rw [(z17 s s').1 h, (a2 (by omega)).1, (a2 (by omega)).2, (b2 (by omega)).1, (b2 (by omega)).2, a3 (by omega), b3 (by omega)]
   split at h
   ·rename_i h2 h5
    rw [zl9, zl9, zpg, zpg] at h
    have a5 := a4 h5
    have b5 := b4 h5
    have hm : mx = mx' := by
     have := h.1.2
     unfold zw6 at this
     split at this <;> split at this <;> omega
    rw [a1 h2, b1 h2, h.1.1, hm, zxb l l' hx.2 hy.2 h.2]
   split at h
   ·rename_i h2 h5 h0
    rw [a1 h2, b1 h2, (a2 h5).1, (a2 h5).2, (b2 h5).1, (b2 h5).2, a3 (by omega), b3 (by omega)]
   ·rename_i h2 h5 h0
    rw [a1 h2, b1 h2, (a2 h5).1, (a2 h5).2, (b2 h5).1, (b2 h5).2, zxb l l' hx.2 hy.2 h]
  ·rw [if_pos e, zpg] at h; omega
theorem zxb : ∀ a b, CRL a → CRL b → zh2 a b = 0 → a = b
 | [], [], _, _, _ => rfl
 | [], _ :: _, _, _, h => by simp [zh2] at h
 | _ :: _, [], _, _, h => by simp [zh2] at h
 | x :: a, y :: b, ha, hb, h => by
  rw [zao] at ha hb
  rw [zh2, zl9] at h
  rw [zwk x y ha.1 hb.1 h.1, zxb a b ha.2 hb.2 h.2]
end
def zt5 (t : Tr) : List AV := [.raw (.int .u8 t.k), .raw (.int .u64 (wd t.s 0)), .raw (.int .u64 (wd t.s 1)), .raw (.int .u64 (wd t.s 2)), .raw (.int .u64 (wd t.s 3)), .raw (.int .i64 t.mn), .raw (.int .i64 t.mx), .list t.l.length (cellsL t.l) .none]
theorem zpv (t : Tr) : cells t = zt5 t := z5i t
instance : Enc Tr where
 inh := noneT
 cells := zt5
 cellsL := cellsL
 sz := 8
 pos := by decide
 nil := by simp [cellsL]
 cons a l := by rw [cellsL, zpv]
 len _ := rfl
 clo t := by rw [← zpv]; exact zvq t
theorem enc_eq (t : Tr) : enc t = .agg (Enc.cells t) := by rw [enc, zpv]; rfl
theorem z06 {E : Int} (g : 0 ≤ E) (s : BS) (mn mx : Int) (l : List Tr) : AV.agg (Enc.cells (Tr.mk (Int.toNat E) s mn mx l)) = .agg [.raw (.int .u8 E), .raw (.int .u64 (wd s 0)), .raw (.int .u64 (wd s 1)), .raw (.int .u64 (wd s 2)), .raw (.int .u64 (wd s 3)), .raw (.int .i64 mn), .raw (.int .i64 mx), .list l.length (cellsL l) .none] := by
 show AV.agg (zt5 _) = _
 simp only [zt5, Tr.k, Tr.s, Tr.mn, Tr.mx, Tr.l, Int.toNat_of_nonneg g]
def zbh (t : Tr) (st : Room) : AV := .agg [.raw (.int .u8 t.k), .raw (.int .u64 (wd t.s 0)), .raw (.int .u64 (wd t.s 1)), .raw (.int .u64 (wd t.s 2)), .raw (.int .u64 (wd t.s 3)), .raw (.int .i64 t.mn), .raw (.int .i64 t.mx), .list t.l.length (cellsL t.l) st]
theorem zi (t : Tr) (st : Room) : zcm (zbh t st) = .agg (Enc.cells t) := by
 simp only [zbh, zcm, stripL, zhg]; rfl
def z7k (s : BS) : List AV := [.raw (.int .u64 (wd s 0)), .raw (.int .u64 (wd s 1)), .raw (.int .u64 (wd s 2)), .raw (.int .u64 (wd s 3))]
instance : Enc BS where
 inh := 0#256
 cells := z7k
 cellsL l := l.flatMap z7k
 sz := 4
 pos := by decide
 nil := rfl
 cons _ _ := rfl
 len _ := rfl
 clo _ := rfl
instance : Enc Sm where
 inh := (0, 0, 0)
 cells := smc
 cellsL := z8h
 sz := 3
 pos := by decide
 nil := by simp [z8h]
 cons _ _ := by simp [z8h]
 len _ := rfl
 clo _ := rfl
structure Rgx where
 b : Bool
 e : Bool
 t : Tr
def z7w (r : Rgx) : List AV := .raw (.bool r.b) :: .raw (.bool r.e) :: zt5 r.t
instance : Enc Rgx where
 inh := ⟨false, false, noneT⟩
 cells := z7w
 cellsL l := l.flatMap z7w
 sz := 10
 pos := by decide
 nil := rfl
 cons _ _ := rfl
 len _ := rfl
 clo r := by have := Enc.clo r.t; exact this
def zuv (t : Tr) : List AV := [.agg (Enc.cells t)]
theorem zkw {t : Tr} (h : (pre t).length ≤ 10000) : zcy t = true := by simpa [zcy] using h
theorem zm3 {α : Type} [Enc α] {l : List α} {i : Nat} (h : i < l.length) : ix l (i : Int) = l[i] := by simp [ix, h]
def z59 (k : Int) (s : BS) (mn mx : Int) (l : List Tr) (st : Room) : AV := .agg [.raw (.int .u8 k), .raw (.int .u64 (wd s 0)), .raw (.int .u64 (wd s 1)), .raw (.int .u64 (wd s 2)), .raw (.int .u64 (wd s 3)), .raw (.int .i64 mn), .raw (.int .i64 mx), .list l.length (cellsL l) st]
theorem zot {k : Int} (g : 0 ≤ k) (s : BS) (mn mx : Int) (l : List Tr) (st : Room) : zcm (z59 k s mn mx l st) = .agg (Enc.cells (Tr.mk k.toNat s mn mx l)) := by
 rw [z06 g]; simp only [z59, zcm, stripL, zhg]
end Go.Ab
