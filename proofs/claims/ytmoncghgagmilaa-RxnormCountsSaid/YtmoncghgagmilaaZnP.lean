/-
  Trees of rx: words, plain laws.
-/
import Derived.Test.YtmoncghgagmilaaZdSh
set_option linter.unusedSimpArgs false
set_option linter.unusedVariables false
namespace Go.Ab
open Go Go.RowKit Go.Fwd
abbrev BS := BitVec 256
def W64 (S : BS) (i : Nat) : BitVec 64 := S.extractLsb' (64 * i) 64
def wd (S : BS) (i : Nat) : Int := ((W64 S i).toNat : Int)
inductive Tr where
 | mk (k : Nat) (s : BS) (mn mx : Int) (l : List Tr)
def Tr.k : Tr → Nat | .mk k _ _ _ _ => k
def Tr.s : Tr → BS | .mk _ s _ _ _ => s
def Tr.mn : Tr → Int | .mk _ _ m _ _ => m
def Tr.mx : Tr → Int | .mk _ _ _ m _ => m
def Tr.l : Tr → List Tr | .mk _ _ _ _ l => l
theorem Tr.eta (t : Tr) : t = .mk t.k t.s t.mn t.mx t.l := by cases t; rfl
theorem Tr.sizeOf_l {t x : Tr} (h : x ∈ t.l) : SizeOf.sizeOf x < SizeOf.sizeOf t := by
 cases t with
 | mk k s mn mx l => simp only [Tr.l] at h; have := List.sizeOf_lt_of_mem h; simp; omega
mutual
def cells : Tr → List AV
 | .mk k s mn mx l => [.raw (.int .u8 k), .raw (.int .u64 (wd s 0)), .raw (.int .u64 (wd s 1)), .raw (.int .u64 (wd s 2)), .raw (.int .u64 (wd s 3)), .raw (.int .i64 mn), .raw (.int .i64 mx), .list l.length (cellsL l) .none]
def cellsL : List Tr → List AV
 | [] => []
 | t :: l => cells t ++ cellsL l
end
def enc (t : Tr) : AV := .agg (cells t)
theorem zvg (t : Tr) : (cells t).length = 8 := by cases t; simp [cells]
theorem z6j (t : Tr) : cells t = [.raw (.int .u8 t.k), .raw (.int .u64 (wd t.s 0)), .raw (.int .u64 (wd t.s 1)), .raw (.int .u64 (wd t.s 2)), .raw (.int .u64 (wd t.s 3)), .raw (.int .i64 t.mn), .raw (.int .i64 t.mx), .list t.l.length (cellsL t.l) .none] := by cases t; simp [cells, Tr.k, Tr.s, Tr.mn, Tr.mx, Tr.l]
theorem zlc : ∀ l, (cellsL l).length = l.length * 8
 | [] => by simp [cellsL]
 | t :: l => by rw [cellsL, List.length_append, zvg, zlc l, List.length_cons]; omega
theorem z44 {l : List Tr} (h : l ≠ []) : cellsL l ≠ [] := by
 intro e
 have := zlc l
 rw [e] at this
 simp at this
 exact h (List.length_eq_zero_iff.1 (by omega))
mutual
theorem zvd (n : Nat) : ∀ t, z7 n (cells t) = true
 | .mk k s mn mx l => by simp [cells, z7, za9, zk3 n l]
theorem zk3 (n : Nat) : ∀ l, z7 n (cellsL l) = true
 | [] => by simp [cellsL, z7]
 | t :: l => by
  rw [cellsL, zg5, List.all_append, ← zg5, ← zg5, zvd n t, zk3 n l]; rfl
end
mutual
theorem zmy : ∀ t, zb0 (cells t) = true
 | .mk k s mn mx l => by simp [cells, zb0, zim, zlq l]
theorem zlq : ∀ l, zb0 (cellsL l) = true
 | [] => by simp [cellsL, zb0]
 | t :: l => by
  have h : ∀ l m : List AV, zb0 (l ++ m) = (zb0 l && zb0 m) := fun l m => by
   induction l with
   | nil => simp [zb0]
   | cons a l ih => rw [List.cons_append, zb0, zb0, ih, Bool.and_assoc]
  rw [cellsL, h, zmy t, zlq l]; rfl
end
mutual
theorem zwe : ∀ t, stripL (cells t) = cells t
 | .mk k s mn mx l => by simp [cells, stripL, zcj, zhe l]
theorem zhe : ∀ l, stripL (cellsL l) = cellsL l
 | [] => by simp [cellsL, stripL]
 | t :: l => by
  rw [cellsL, zjp, List.map_append, ← zjp, ← zjp, zwe t, zhe l]
end
mutual
theorem zvr (g : FZ) : ∀ t, zbf g (cells t) = cells t
 | .mk k s mn mx l => by simp [cells, zbf, zdw, zlh g l]
theorem zlh (g : FZ) : ∀ l, zbf g (cellsL l) = cellsL l
 | [] => by simp [cellsL, zbf]
 | t :: l => by
  have h : ∀ l m : List AV, zbf g (l ++ m) = zbf g l ++ zbf g m := fun l m => by
   induction l with
   | nil => simp [zbf]
   | cons a l ih => rw [List.cons_append, zbf, zbf, ih, List.cons_append]
  rw [cellsL, h, zvr g t, zlh g l]
end
mutual
theorem zuu : ∀ t, cloL (cells t) = true
 | .mk k s mn mx l => by simp [cells, cloL, clo, zqs l]
theorem zqs : ∀ l, cloL (cellsL l) = true
 | [] => by simp [cellsL, cloL]
 | t :: l => by rw [cellsL, zgu, zuu t, zqs l]; rfl
end
theorem z02 (t : Tr) : zim (enc t) = true := by rw [enc, zim]; exact zmy t
mutual
def pre : Tr → List Tr
 | .mk k s mn mx l => .mk k s mn mx l :: zam l
def zam : List Tr → List Tr
 | [] => []
 | t :: l => pre t ++ zam l
end
theorem zcv (t : Tr) : pre t = t :: zam t.l := by cases t; simp [pre, Tr.l]
theorem zjz : ∀ (ts : List Tr) (i : Nat) (hi : i < ts.length), (zam (ts.take (i + 1))).length = (zam (ts.take i)).length + (pre ts[i]).length
 | [], i, hi => by simp at hi
 | t :: ts, 0, hi => by simp [zam]
 | t :: ts, i + 1, hi => by
  simp only [List.take_succ_cons, zam, List.length_append, List.getElem_cons_succ, zjz ts i (by simpa using hi)]
  omega
theorem z32 : ∀ ts : List Tr, ts.length ≤ (zam ts).length
 | [] => by simp [zam]
 | t :: ts => by
  have := z32 ts
  cases t with
  | mk k s mn mx l => simp [zam, pre]; omega
theorem ze1 : ∀ {ts : List Tr} {x : Tr}, x ∈ ts → (pre x).length ≤ (zam ts).length
 | [], x, h => by simp at h
 | t :: ts, x, h => by
  simp only [zam, List.length_append]
  rcases List.mem_cons.1 h with rfl | h
  ·omega
  ·have := ze1 h; omega
def zbk (least most : Int) : Bool := !(decide (least < 0) || decide (least > 16) || decide (least = 1) && decide (most = 1)) && (decide (most = -1) || decide (most ≥ 1) && decide (most ≤ 16) && decide (most ≥ least))
def z48 (s : BS) : AV := .agg [.raw (.int .u64 (wd s 0)), .raw (.int .u64 (wd s 1)), .raw (.int .u64 (wd s 2)), .raw (.int .u64 (wd s 3))]
theorem wd_inj {A B : BS} (h : ∀ i, i < 4 → wd A i = wd B i) : A = B := by
 apply BitVec.eq_of_getLsbD_eq
 intro j hj
 have h4 : j / 64 < 4 := by omega
 have h2 := h (j / 64) h4
 have h3 : W64 A (j / 64) = W64 B (j / 64) := by
  apply BitVec.eq_of_toNat_eq
  unfold wd at h2
  omega
 have h5 := congrArg (fun x : BitVec 64 => x.getLsbD (j % 64)) h3
 have hlt : j % 64 < 64 := Nat.mod_lt _ (by decide)
 simp only [W64, BitVec.getLsbD_extractLsb', hlt, decide_true, Bool.true_and] at h5
 rwa [show 64 * (j / 64) + j % 64 = j by omega] at h5
theorem z7z (S T : BS) : (wd S 0 == wd T 0 && wd S 1 == wd T 1 && wd S 2 == wd T 2 && wd S 3 == wd T 3) = decide (S = T) := by
 by_cases h : S = T
 ·subst h; simp
 ·simp only [h, decide_false]
  cases hb : (wd S 0 == wd T 0 && wd S 1 == wd T 1 && wd S 2 == wd T 2 && wd S 3 == wd T 3) with
  | false => rfl
  | true =>
   simp only [Bool.and_eq_true, beq_iff_eq] at hb
   refine absurd (wd_inj fun i hi => ?_) h
   match i, hi with
   | 0, _ => exact hb.1.1.1
   | 1, _ => exact hb.1.1.2
   | 2, _ => exact hb.1.2
   | 3, _ => exact hb.2
def zpl (t : Tr) (k : Nat) : Bool := t.l.any fun y => decide (y.k = k)
def oddT (t : Tr) : Bool := ((t.k : Int) != 2 && decide (t.s ≠ 0#256)) || ((t.k : Int) != 5 && (t.mn != 0 || t.mx != 0)) || (decide ((t.k : Int) < 3) && decide ((t.l.length : Int) > 0))
def zcq (t : Tr) : Bool := !oddT t && (bif (t.k : Int) == 1 then true else bif (t.k : Int) == 2 then decide (t.s ≠ 0#256) else bif (t.k : Int) == 3 then decide ((t.l.length : Int) > 1) && !zpl t 1 && !zpl t 3
 else bif (t.k : Int) == 4 then decide ((t.l.length : Int) > 1) && !zpl t 4 else bif (t.k : Int) == 5 then (t.l.length : Int) == 1 && zbk t.mn t.mx && !zpl t 1 else (t.k : Int) == 6 && (t.l.length : Int) == 1)
theorem zg6 (k : Nat) (s : BS) (mn mx : Int) (ts : List Tr) : oddT (.mk k s mn mx ts) = (((k : Int) != 2 && decide (s ≠ 0#256)) || ((k : Int) != 5 && (mn != 0 || mx != 0)) || (decide ((k : Int) < 3) && decide ((ts.length : Int) > 0))) := rfl
theorem zck (k : Nat) (s : BS) (mn mx : Int) (ts : List Tr) : zcq (.mk k s mn mx ts) = (!oddT (.mk k s mn mx ts) && (bif (k : Int) == 1 then true else bif (k : Int) == 2 then decide (s ≠ 0#256) else bif (k : Int) == 3 then decide ((ts.length : Int) > 1) && !zpl (.mk k s mn mx ts) 1 && !zpl (.mk k s mn mx ts) 3
 else bif (k : Int) == 4 then decide ((ts.length : Int) > 1) && !zpl (.mk k s mn mx ts) 4 else bif (k : Int) == 5 then (ts.length : Int) == 1 && zbk mn mx && !zpl (.mk k s mn mx ts) 1 else (k : Int) == 6 && (ts.length : Int) == 1)) := rfl
def zcx (t : Tr) : Bool := decide ((pre t).length ≤ 10000)
def zbx (t : Tr) : Bool := zcx t && (pre t).all zcq
mutual
def zna : Tr → Int
 | .mk k s mn mx ts => min (if k = 5 then ((if k = 2 then 1 else 0) + zf7 ts) * min (if mx = -1 then max (max mn 0) 1 else max (max mn 0) mx) 10001 else (if k = 2 then 1 else 0) + zf7 ts) 10001
def zf7 : List Tr → Int
 | [] => 0
 | t :: l => zna t + zf7 l
end
theorem zt0 : ∀ (t : Tr), t.l.length < (pre t).length
 | .mk k s mn mx ts => by
  have : ∀ l : List Tr, l.length ≤ (zam l).length := fun l => by
   induction l with
   | nil => simp [zam]
   | cons a l ih => rw [zam, List.length_append, List.length_cons]; rw [zcv]; simp; omega
  simp [pre, Tr.l]; have := this ts; omega
theorem zp5 {t x : Tr} (h : x ∈ pre t) : (pre x).length ≤ (pre t).length := by
 have key : ∀ n, (∀ t : Tr, SizeOf.sizeOf t ≤ n → ∀ x ∈ pre t, (pre x).length ≤ (pre t).length) := by
  intro n
  induction n with
  | zero => intro t ht; cases t; simp at ht
  | succ n ih =>
   intro t ht x hx
   rw [zcv] at hx
   rcases List.mem_cons.1 hx with rfl | hx
   ·exact Nat.le_refl _
   ·have hl : ∀ l : List Tr, (∀ y ∈ l, SizeOf.sizeOf y ≤ n) → ∀ x ∈ zam l, (pre x).length ≤ (zam l).length := by
     intro l
     induction l with
     | nil => intro _ x hx; simp [zam] at hx
     | cons a l ihl =>
      intro hs x hx
      rw [zam] at hx ⊢
      rw [List.length_append]
      rcases List.mem_append.1 hx with hx | hx
      ·have := ih a (hs a (by simp)) x hx; omega
      ·have := ihl (fun y hy => hs y (by simp [hy])) x hx; omega
    have := hl t.l (fun y hy => by have := Tr.sizeOf_l hy; omega) x hx
    rw [zcv t, List.length_cons]; omega
 exact key _ t (Nat.le_refl _) x h
mutual
theorem zke : ∀ t, 0 ≤ zna t
 | .mk k s mn mx ts => by
  have hl := zeu ts
  rw [zna]
  have h0 : 0 ≤ (if k = 2 then 1 else 0) + zf7 ts := by split <;> omega
  split
  ·have : 0 ≤ ((if k = 2 then 1 else 0) + zf7 ts) * min (if mx = -1 then max (max mn 0) 1 else max (max mn 0) mx) 10001 := Int.mul_nonneg h0 (by split <;> omega)
   omega
  ·omega
theorem zeu : ∀ l, 0 ≤ zf7 l
 | [] => by simp [zf7]
 | t :: l => by have h1 := zke t; have h2 := zeu l; rw [zf7]; omega
end
mutual
def zjt : Tr → Tr → Bool
 | .mk k s mn mx l, .mk k' s' mn' mx' l' => (k : Int) == k' && decide (s = s') && mn == mn' && mx == mx' && zks l l'
def zks : List Tr → List Tr → Bool
 | [], [] => true
 | x :: a, y :: b => zjt x y && zks a b
 | _, _ => false
end
mutual
theorem ziv : ∀ a b, zjt a b = true ↔ a = b
 | .mk k s mn mx l, .mk k' s' mn' mx' l' => by
  rw [zjt]
  simp only [Bool.and_eq_true, zvb l l', Tr.mk.injEq, beq_iff_eq, decide_eq_true_eq]
  constructor
  ·rintro ⟨⟨⟨⟨h1, h2⟩, h3⟩, h4⟩, h5⟩; exact ⟨by omega, h2, h3, h4, h5⟩
  ·rintro ⟨h1, h2, h3, h4, h5⟩; exact ⟨⟨⟨⟨by omega, h2⟩, h3⟩, h4⟩, h5⟩
theorem zvb : ∀ a b, zks a b = true ↔ a = b
 | [], [] => by simp [zks]
 | x :: a, [] => by simp [zks]
 | [], y :: b => by simp [zks]
 | x :: a, y :: b => by rw [zks, Bool.and_eq_true, ziv x y, zvb a b]; simp
end
def zdz (a b : Tr) : Bool := zcx a && zcx b && zjt a b
def noneT : Tr := .mk 0 0#256 0 0 []
def emptyT : Tr := .mk 1 0#256 0 0 []
def zj4 (t : Tr) : Bool := zjt t noneT || zbx t
def zd8 (t : Tr) : Tr := if zbx t = true then t else noneT
def z0n (t : Tr) : Tr := if zcx t = true then t else noneT
theorem zel {t : Tr} (h : zbx t = true) : (pre t).length ≤ 10000 := by rw [zbx, Bool.and_eq_true] at h; simpa [zcx] using h.1
def zgw (kind without : Nat) (l : List Tr) : List Tr := l.flatMap fun x => bif (x.k : Int) == kind then x.l else bif (x.k : Int) == without then [] else [x]
def zkf (kind : Nat) (l : List Tr) (none : Tr) : Tr := bif (l.length : Int) == 0 then none else bif (l.length : Int) == 1 then zd8 (l.headD none) else zd8 (Tr.mk kind 0#256 0 0 l)
def zhi (l : List Tr) : Tr := if (l.any fun x => (x.k : Int) == 0 || !zbx x) = true then noneT else zkf 3 (zgw 3 1 l) emptyT
def orT (l : List Tr) : Tr := if (l.any fun x => !zj4 x) = true then noneT else zkf 4 (zgw 4 0 l) noneT
theorem zbp : ∀ a b, zam (a ++ b) = zam a ++ zam b
 | [], b => by simp [zam]
 | x :: a, b => by rw [List.cons_append, zam, zam, zbp a b, List.append_assoc]
theorem zag : ∀ l : List Tr, l.length ≤ (zam l).length
 | [] => by simp [zam]
 | x :: l => by have := zag l; rw [zam, List.length_append, List.length_cons, zcv]; simp; omega
theorem zhk (t : Tr) : (zam t.l).length < (pre t).length := by rw [zcv]; simp
theorem zjq (kind without : Nat) : ∀ l : List Tr, (zam (zgw kind without l)).length ≤ (zam l).length
 | [] => by simp [zgw, zam]
 | x :: l => by
  have h := zjq kind without l
  have hx := zhk x
  rw [zgw, List.flatMap_cons, zbp, List.length_append, zam, List.length_append]
  have h2 : (zam (bif (x.k : Int) == kind then x.l else bif (x.k : Int) == without then [] else [x])).length ≤ (pre x).length := by
   cases (x.k : Int) == kind <;> cases (x.k : Int) == without <;> simp [zam] <;> omega
  rw [zgw] at h
  omega
theorem zbu {x : Tr} : ∀ {l : List Tr}, x ∈ l → (pre x).length ≤ (zam l).length
 | y :: l, h => by
  rw [zam, List.length_append]
  rcases List.mem_cons.1 h with rfl | h
  ·omega
  ·have := zbu h; omega
def zbd (t : Tr) (lo hi : Int) : Tr :=
 bif !zj4 t || (!(lo == 0 && hi == 0) && !(lo == 1 && hi == 1) && !zbk lo hi) then noneT
 else bif (t.k : Int) == 0 && decide (lo > 0) then noneT
 else bif (lo == 0 && hi == 0) || (t.k : Int) == 0 || (t.k : Int) == 1 then emptyT
 else bif lo == 1 && hi == 1 then t else zd8 (.mk 5 0#256 lo hi [t])
def zft (t : Tr) : Tr := zd8 (.mk 6 0#256 0 0 [t])
def ofT (s : BS) : Tr := if s = 0#256 then noneT else .mk 2 s 0 0 []
theorem zgs (k : Nat) (s : BS) (mn mx : Int) (t : Tr) : (pre (.mk k s mn mx [t])).length = 1 + (pre t).length := by simp [pre, zam]; omega
def zb2 (kind : Nat) (l : List Tr) : List Tr := l.flatMap fun x => bif (x.k : Int) == kind then x.l else bif (kind : Int) == 3 && (x.k : Int) == 1 then [] else [x]
def zqv (kind : Nat) (l : List Tr) : Tr := bif (l.length : Int) == 0 then emptyT else bif (l.length : Int) == 1 then l.headD emptyT else .mk kind 0#256 0 0 l
def zeh (kind : Nat) (a b : Tr) : Tr := zqv kind (zb2 kind [a, b])
theorem zey (kind : Nat) : ∀ l : List Tr, (zam (zb2 kind l)).length ≤ (zam l).length
 | [] => by simp [zb2, zam]
 | x :: l => by
  have h := zey kind l
  have hx := zhk x
  rw [zb2, List.flatMap_cons, zbp, List.length_append, zam, List.length_append]
  have h2 : (zam (bif (x.k : Int) == kind then x.l else bif (kind : Int) == 3 && (x.k : Int) == 1 then [] else [x])).length ≤ (pre x).length := by
   cases (x.k : Int) == kind <;> cases (kind : Int) == 3 && (x.k : Int) == 1 <;> simp [zam] <;> omega
  rw [zb2] at h
  omega
theorem z0j (kind : Nat) (l : List Tr) (i : Nat) (hi : i < l.length) : zb2 kind (l.take (i + 1)) = zb2 kind (l.take i) ++ (bif (l[i].k : Int) == kind then l[i].l else bif (kind : Int) == 3 && (l[i].k : Int) == 1 then [] else [l[i]]) := by
 rw [List.take_succ_eq_append_getElem hi, zb2, List.flatMap_append]; simp [zb2]
theorem zp4 (kind : Nat) (l : List Tr) (i : Nat) : (zb2 kind (l.take i)).length ≤ (zam l).length := by
 refine Nat.le_trans (zag _) (Nat.le_trans (zey _ _) ?_)
 conv => rhs; rw [← List.take_append_drop i l]
 rw [zbp, List.length_append]; omega
def bsOf (l : List Nat) : BS := l.foldl (fun s b => s ||| (1#256 <<< b)) 0#256
def zqp (l : List Nat) : Tr := .mk 2 (bsOf l) 0 0 []
def zp8 : Nat → List Nat
 | 0 => [97] | 1 => [98] | 2 => [97, 98] | 3 => [97] | 4 => [98] | 5 => [99] | 6 => [97, 98, 99] | 7 => [98, 99] | 8 => [10] | 9 => [0, 255] | 10 => [97] | _ => [98]
abbrev Sm := Nat × Nat × Nat
abbrev MSt := List Tr × Int × Int
def kI (x : Sm) : Int := ((x.1 % 12 : Nat) : Int)
def zed (p : List Tr) (i : Nat) : Tr := p[p.length - i]?.getD emptyT
def cA (p : List Tr) (x : Sm) : Bool := decide (kI x < 7) && decide ((p.length : Int) > 1)
def cB (p : List Tr) (x : Sm) : Bool := decide (kI x < 9) && decide ((p.length : Int) > 1)
def cC (p : List Tr) (g : Int) (x : Sm) : Bool := kI x == 9 && decide ((p.length : Int) > 0) && decide (g < 9)
def cD (p : List Tr) (x : Sm) : Bool := decide (kI x > 9) && decide ((p.length : Int) > 0) && ((zed p 1).k : Int) != 1
def loM (x : Sm) : Int := ((x.2.1 % 3 : Nat) : Int)
def m4 (x : Sm) : Int := ((x.2.2 % 4 : Nat) : Int)
def badM (x : Sm) : Bool := decide (m4 x < loM x) || m4 x == 0 || loM x == 1 && m4 x == 1
def moM (x : Sm) : Int := bif badM x then -1 else m4 x
def tmM (x : Sm) : Int := max (max (loM x) (moM x)) 1
def znf (st : MSt) (x : Sm) : MSt :=
 bif decide (kI x < 4) then (st.1 ++ [zqp (zp8 (x.2.1 % 12))], st.2.1, st.2.2)
 else bif kI x == 4 then (st.1 ++ [emptyT], st.2.1, st.2.2)
 else bif cA st.1 x then (st.1.take (st.1.length - 2) ++ [zeh 3 (zed st.1 2) (zed st.1 1)], st.2.1, st.2.2)
 else bif cB st.1 x then (st.1.take (st.1.length - 2) ++ [zeh 4 (zed st.1 2) (zed st.1 1)], st.2.1, st.2.2)
 else bif cC st.1 st.2.2 x then (st.1.set (st.1.length - 1) (.mk 6 0#256 0 0 [zed st.1 1]), st.2.1, st.2.2 + 1)
 else bif cD st.1 x then (bif decide (st.2.1 * tmM x ≤ 16) then (st.1.set (st.1.length - 1) (.mk 5 0#256 (loM x) (moM x) [zed st.1 1]), st.2.1 * tmM x, st.2.2) else st)
 else st
def MM (l : List Sm) (i : Nat) : MSt := (l.take i).foldl znf ([], 1, 0)
def z7t (p : List Tr) : Tr := match p with
 | [] => zqp [97]
 | x :: r => r.foldl (zeh 4) x
def zpz (l : List Sm) : Tr := z7t (MM (l.take 25) 25).1
theorem zwx (l : List Sm) (i : Nat) (hi : i < l.length) : MM l (i + 1) = znf (MM l i) l[i] := by
 rw [MM, List.take_succ_eq_append_getElem hi, List.foldl_append]; rfl
theorem zjc (kind : Nat) (a b : Tr) : (pre (zeh kind a b)).length ≤ (pre a).length + (pre b).length + 1 := by
 have h := zey kind [a, b]
 simp only [zam, List.append_nil, List.length_append] at h
 rw [zeh, zqv]
 obtain ⟨l, hl⟩ : ∃ l, zb2 kind [a, b] = l := ⟨_, rfl⟩
 rw [hl] at h ⊢
 match l, h with
 | [], _ => simp [emptyT, pre, zam]
 | [x], h => simp [zam] at h ⊢; omega
 | x :: y :: l, h =>
  have e1 : (((x :: y :: l).length : Int) == 0) = false := by simp; omega
  have e2 : (((x :: y :: l).length : Int) == 1) = false := by simp; omega
  rw [e1, e2]
  simp only [cond_false, pre, List.length_cons]
  omega
theorem zhc {p : List Tr} {i : Nat} (h0 : 0 < i) (h : i ≤ p.length) : zed p i = p[p.length - i]'(by omega) := by
 rw [zed, List.getElem?_eq_getElem (by omega)]; rfl
theorem zlb {p : List Tr} (h : 2 ≤ p.length) : (zam (p.take (p.length - 2))).length + (pre (zed p 2)).length + (pre (zed p 1)).length = (zam p).length := by
 rw [zhc (by omega) h, zhc (by omega) (by omega)]
 conv => rhs; rw [← List.take_append_drop (p.length - 2) p]
 rw [zbp, List.length_append, List.drop_eq_getElem_cons (by omega), show p.length - 2 + 1 = p.length - 1 by omega, List.drop_eq_getElem_cons (by omega), show p.length - 1 + 1 = p.length by omega, List.drop_length]
 simp [zam]; omega
theorem zx7 {p : List Tr} {y : Tr} (h : 0 < p.length) : (zam (p.set (p.length - 1) y)).length + (pre (zed p 1)).length = (zam p).length + (pre y).length := by
 rw [zhc (by omega) h]
 rw [List.set_eq_take_append_cons_drop, if_pos (by omega), show p.length - 1 + 1 = p.length by omega, List.drop_length, zbp, List.length_append]
 conv => rhs; rw [← List.take_append_drop (p.length - 1) p]
 rw [zbp, List.length_append, List.drop_eq_getElem_cons (by omega), show p.length - 1 + 1 = p.length by omega, List.drop_length]
 simp [zam]; omega
theorem z1n (x : Sm) : 1 ≤ tmM x ∧ tmM x ≤ 3 := by
 have h1 : x.2.1 % 3 < 3 := Nat.mod_lt _ (by decide)
 have h2 : x.2.2 % 4 < 4 := Nat.mod_lt _ (by decide)
 unfold tmM moM
 have h3 : loM x ≤ 2 := by unfold loM; omega
 have h4 : m4 x ≤ 3 := by unfold m4; omega
 cases badM x <;> simp only [cond_true, cond_false] <;> omega
theorem z4j (st : MSt) (x : Sm) (i : Nat) (h : (zam st.1).length ≤ i ∧ 0 ≤ st.2.2 ∧ st.2.2 ≤ 9 ∧ 1 ≤ st.2.1 ∧ st.2.1 ≤ 16) :
 (zam (znf st x).1).length ≤ i + 1 ∧ 0 ≤ (znf st x).2.2 ∧ (znf st x).2.2 ≤ 9 ∧ 1 ≤ (znf st x).2.1 ∧ (znf st x).2.1 ≤ 16 := by
 obtain ⟨h1, h2, h3, h4, h5⟩ := h
 unfold znf
 cases decide (kI x < 4)
 ·cases kI x == 4
  ·cases hA : cA st.1 x
   ·cases hB : cB st.1 x
    ·cases hC : cC st.1 st.2.2 x
     ·cases hD : cD st.1 x
      ·simp only [cond_false]; omega
      ·simp only [cond_false, cond_true]
       cases hT : decide (st.2.1 * tmM x ≤ 16)
       ·simp only [cond_false]; omega
       ·simp only [cond_true]
        have hp : 0 < st.1.length := by
         unfold cD at hD
         simp only [Bool.and_eq_true, decide_eq_true_eq] at hD; omega
        have e := zx7 (p := st.1) (y := .mk 5 0#256 (loM x) (moM x) [zed st.1 1]) hp
        rw [zgs] at e
        have := (z1n x).1
        have h6 : 1 ≤ st.2.1 * tmM x := by
         have := Int.mul_le_mul h4 this (by omega) (by omega); omega
        simp only [decide_eq_true_eq] at hT
        exact ⟨by omega, by omega, by omega, h6, hT⟩
     ·simp only [cond_false, cond_true]
      unfold cC at hC
      simp only [Bool.and_eq_true, decide_eq_true_eq] at hC
      have e := zx7 (p := st.1) (y := .mk 6 0#256 0 0 [zed st.1 1]) (by omega)
      rw [zgs] at e
      omega
    ·simp only [cond_false, cond_true]
     unfold cB at hB
     simp only [Bool.and_eq_true, decide_eq_true_eq] at hB
     have e := zlb (p := st.1) (by omega)
     have e2 := zjc 4 (zed st.1 2) (zed st.1 1)
     rw [zbp, List.length_append]
     simp only [zam, List.append_nil]; omega
   ·simp only [cond_false, cond_true]
    unfold cA at hA
    simp only [Bool.and_eq_true, decide_eq_true_eq] at hA
    have e := zlb (p := st.1) (by omega)
    have e2 := zjc 3 (zed st.1 2) (zed st.1 1)
    rw [zbp, List.length_append]
    simp only [zam, List.append_nil]; omega
  ·simp only [cond_false, cond_true]
   rw [zbp, List.length_append]
   simp [zam, emptyT, pre]; omega
 ·simp only [cond_true]
  rw [zbp, List.length_append]
  simp [zam, zqp, pre]; omega
theorem invM (l : List Sm) : ∀ i, i ≤ l.length → (zam (MM l i).1).length ≤ i ∧ 0 ≤ (MM l i).2.2 ∧ (MM l i).2.2 ≤ 9 ∧ 1 ≤ (MM l i).2.1 ∧ (MM l i).2.1 ≤ 16
 | 0, _ => by simp [MM, zam]
 | i + 1, h => by
  rw [zwx l i (by omega)]
  exact z4j _ _ i (invM l i (by omega))
def smc (x : Sm) : List AV := [.raw (.int .u8 x.1), .raw (.int .u8 x.2.1), .raw (.int .u8 x.2.2)]
def z75 : List Sm → List AV
 | [] => []
 | x :: l => smc x ++ z75 l
def z5a (p : List Tr) (i : Nat) : Tr := match p with
 | [] => emptyT
 | x :: r => (r.take i).foldl (zeh 4) x
theorem zts {p : List Tr} {i : Nat} (h : i + 1 < p.length) : z5a p (i + 1) = zeh 4 (z5a p i) p[i + 1] := by
 cases p with
 | nil => simp at h
 | cons x r =>
  have hi : i < r.length := by simpa using h
  simp only [z5a, List.take_succ_eq_append_getElem hi, List.foldl_append, List.foldl_cons, List.foldl_nil, List.getElem_cons_succ]
theorem z47 {p : List Tr} (hp : p ≠ []) : ∀ i, i < p.length → (pre (z5a p i)).length ≤ (zam (p.take (i + 1))).length + i
 | 0, _ => by
  cases p with
  | nil => exact absurd rfl hp
  | cons x r => simp [z5a, zam]
 | i + 1, h => by
  rw [zts h]
  have h1 := zjc 4 (z5a p i) p[i + 1]
  have h2 := z47 hp i (by omega)
  rw [List.take_succ_eq_append_getElem h, zbp, List.length_append]
  simp only [zam, List.append_nil]; omega
theorem zm3 (p : List Tr) (i : Nat) : (zam (p.take i)).length ≤ (zam p).length := by
 conv => rhs; rw [← List.take_append_drop i p]
 rw [zbp, List.length_append]; omega
theorem z6y {p : List Tr} (hp : p ≠ []) : z5a p (p.length - 1) = z7t p := by
 cases p with
 | nil => exact absurd rfl hp
 | cons x r => simp [z5a, z7t]
def aT := zqp [97]
def bT := zqp [98]
def cT := zqp [99]
def CR (t : Tr) : Prop := (pre t).all zcq = true
def CRL (l : List Tr) : Prop := (zam l).all zcq = true
theorem zbz : CRL [] := by simp [CRL, zam]
theorem zao (t : Tr) (l : List Tr) : CRL (t :: l) ↔ CR t ∧ CRL l := by simp [CRL, CR, zam]
theorem zcr (a b : List Tr) : CRL (a ++ b) ↔ CRL a ∧ CRL b := by simp [CRL, zbp]
theorem zcu : ∀ l : List Tr, CRL l ↔ ∀ t ∈ l, CR t
 | [] => by simp [zbz]
 | t :: l => by rw [zao, zcu l]; simp
theorem zbc (t : Tr) : CR t ↔ zcq t = true ∧ CRL t.l := by rw [CR, zcv, List.all_cons, Bool.and_eq_true]; rfl
theorem ze0 {t : Tr} {k : Nat} : zpl t k = false ↔ ∀ y ∈ t.l, y.k ≠ k := by simp [zpl]
theorem zt8 {l : List Tr} (h : 1 < l.length) (h1 : ∀ t ∈ l, t.k ≠ 1 ∧ t.k ≠ 3) : zcq (.mk 3 0#256 0 0 l) = true := by
 have e1 : zpl (.mk 3 0#256 0 0 l) 1 = false := ze0.2 fun y hy => (h1 y hy).1
 have e3 : zpl (.mk 3 0#256 0 0 l) 3 = false := ze0.2 fun y hy => (h1 y hy).2
 simp [zck, zg6, e1, e3]; omega
theorem zt9 {l : List Tr} (h : 1 < l.length) (h1 : ∀ t ∈ l, t.k ≠ 4) : zcq (.mk 4 0#256 0 0 l) = true := by
 have e1 : zpl (.mk 4 0#256 0 0 l) 4 = false := ze0.2 fun y hy => h1 y hy
 simp [zck, zg6, e1]; omega
theorem ziw {t : Tr} {lo hi : Int} (h : t.k ≠ 1) (hb : zbk lo hi = true) : zcq (.mk 5 0#256 lo hi [t]) = true := by
 have e1 : zpl (.mk 5 0#256 lo hi [t]) 1 = false := ze0.2 fun y hy => by simp [Tr.l] at hy; subst hy; exact h
 simp [zck, zg6, e1, hb]
theorem zpd (t : Tr) : zcq (.mk 6 0#256 0 0 [t]) = true := by simp [zck, zg6]
theorem zg4 : zcq emptyT = true := by simp [emptyT, zck, zg6]
theorem zo6 {t : Tr} (h : zcq t = true) : t.k = 1 ∨ t.k = 2 ∨ t.k = 3 ∨ t.k = 4 ∨ t.k = 5 ∨ t.k = 6 := by
 cases t with
 | mk k s mn mx l =>
  rw [zck] at h
  simp only [Tr.k]
  by_cases h1 : k = 1; · exact .inl h1
  by_cases h2 : k = 2; · exact .inr (.inl h2)
  by_cases h3 : k = 3; · exact .inr (.inr (.inl h3))
  by_cases h4 : k = 4; · exact .inr (.inr (.inr (.inl h4)))
  by_cases h5 : k = 5; · exact .inr (.inr (.inr (.inr (.inl h5))))
  by_cases h6 : k = 6; · exact .inr (.inr (.inr (.inr (.inr h6))))
  exfalso
  have e : ∀ n : Nat, k ≠ n → ((k : Int) == n) = false := fun n hn => by simp; omega
  rw [show ((k : Int) == 1) = false from e 1 h1, show ((k : Int) == 2) = false from e 2 h2, show ((k : Int) == 3) = false from e 3 h3, show ((k : Int) == 4) = false from e 4 h4, show ((k : Int) == 5) = false from e 5 h5, show ((k : Int) == 6) = false from e 6 h6] at h
  simp at h
theorem zib {t : Tr} (h : zcq t = true) (hk : t.k = 3) : 1 < t.l.length ∧ ∀ y ∈ t.l, y.k ≠ 1 ∧ y.k ≠ 3 := by
 cases t with
 | mk k s mn mx l =>
  simp only [Tr.k] at hk; subst hk
  rw [zck] at h
  simp only [Bool.and_eq_true, Bool.not_eq_true'] at h
  have h2 := h.2
  simp only [show ((((3 : Nat) : Int)) == 1) = false from rfl, show ((((3 : Nat) : Int)) == 2) = false from rfl, show ((((3 : Nat) : Int)) == 3) = true from rfl, cond_false, cond_true, Bool.and_eq_true, Bool.not_eq_true', decide_eq_true_eq] at h2
  exact ⟨by simp only [Tr.l]; omega, fun y hy => ⟨ze0.1 h2.1.2 y hy, ze0.1 h2.2 y hy⟩⟩
theorem zb9 {t : Tr} (h : zcq t = true) (hk : t.k = 4) : 1 < t.l.length ∧ ∀ y ∈ t.l, y.k ≠ 4 := by
 cases t with
 | mk k s mn mx l =>
  simp only [Tr.k] at hk; subst hk
  rw [zck] at h
  simp only [Bool.and_eq_true, Bool.not_eq_true'] at h
  have h2 := h.2
  simp only [show ((((4 : Nat) : Int)) == 1) = false from rfl, show ((((4 : Nat) : Int)) == 2) = false from rfl, show ((((4 : Nat) : Int)) == 3) = false from rfl, show ((((4 : Nat) : Int)) == 4) = true from rfl, cond_false, cond_true, Bool.and_eq_true, Bool.not_eq_true', decide_eq_true_eq] at h2
  exact ⟨by simp only [Tr.l]; omega, fun y hy => ze0.1 h2.2 y hy⟩
theorem zxc (t : Tr) (h5 : t.k ≠ 5) (h2 : t.k ≠ 2) : zna t = min (zf7 t.l) 10001 := by
 cases t with
 | mk k s mn mx l => simp only [Tr.k] at h5 h2; simp [zna, h5, h2, Tr.l]
theorem zch : ∀ a b, zf7 (a ++ b) = zf7 a + zf7 b
 | [], b => by simp [zf7]
 | x :: a, b => by rw [List.cons_append, zf7, zf7, zch a b]; omega
theorem zp7 : zna emptyT = 0 := by simp [emptyT, zna, zf7]; rfl
theorem zzd (l : List Nat) : zna (zqp l) = 1 := by simp [zqp, zna, zf7]; rfl
def grT (t : Tr) : Nat := (pre t).countP fun x => decide (x.k = 6)
def grL (l : List Tr) : Nat := (zam l).countP fun x => decide (x.k = 6)
theorem zd3 : grL [] = 0 := by simp [grL, zam]
theorem zcf (t : Tr) (l : List Tr) : grL (t :: l) = grT t + grL l := by simp [grL, grT, zam]
theorem zdf (a b : List Tr) : grL (a ++ b) = grL a + grL b := by simp [grL, zbp]
theorem z8g (t : Tr) : grT t = grL t.l + (if t.k = 6 then 1 else 0) := by rw [grT, zcv, List.countP_cons]; simp [grL]
theorem z2w (k : Nat) (s : BS) (mn mx : Int) (l : List Tr) : grT (.mk k s mn mx l) = grL l + (if k = 6 then 1 else 0) := z8g _
theorem zt2 : grT emptyT = 0 := by simp [emptyT, grT, pre, zam, Tr.k]
theorem z31 (l : List Nat) : grT (zqp l) = 0 := by simp [zqp, grT, pre, zam, Tr.k]
theorem zds (kind : Nat) (x : Tr) (l : List Tr) : zb2 kind (x :: l) = (bif (x.k : Int) == kind then x.l else bif (kind : Int) == 3 && (x.k : Int) == 1 then [] else [x]) ++ zb2 kind l := by simp [zb2]
def G3 (l : List Tr) : Prop := CRL l ∧ ∀ y ∈ l, y.k ≠ 1 ∧ y.k ≠ 3
def G4 (l : List Tr) : Prop := CRL l ∧ ∀ y ∈ l, y.k ≠ 4
theorem zhl : ∀ {l : List Tr}, CRL l → G3 (zb2 3 l)
 | [], _ => ⟨zbz, by simp [zb2]⟩
 | x :: l, h => by
  rw [zao] at h
  obtain ⟨g1, g2⟩ := zhl h.2
  have hx := (zbc x).1 h.1
  rw [zds]
  by_cases h3 : x.k = 3
  ·have e : ((x.k : Int) == ((3 : Nat) : Int)) = true := by simp [h3]
   rw [e, cond_true]
   refine ⟨(zcr _ _).2 ⟨hx.2, g1⟩, fun y hy => ?_⟩
   rcases List.mem_append.1 hy with hy | hy
   ·exact (zib hx.1 h3).2 y hy
   ·exact g2 y hy
  ·have e : ((x.k : Int) == ((3 : Nat) : Int)) = false := by simp; omega
   rw [e, cond_false]
   by_cases h1 : x.k = 1
   ·have e1 : ((((3 : Nat) : Int) == 3) && ((x.k : Int) == 1)) = true := by simp [h1]
    rw [e1, cond_true, List.nil_append]; exact ⟨g1, g2⟩
   ·have e1 : ((((3 : Nat) : Int) == 3) && ((x.k : Int) == 1)) = false := by simp; omega
    rw [e1, cond_false, List.singleton_append]
    refine ⟨(zao _ _).2 ⟨h.1, g1⟩, fun y hy => ?_⟩
    rcases List.mem_cons.1 hy with rfl | hy
    ·exact ⟨h1, h3⟩
    ·exact g2 y hy
theorem zgm : ∀ {l : List Tr}, CRL l → G4 (zb2 4 l)
 | [], _ => ⟨zbz, by simp [zb2]⟩
 | x :: l, h => by
  rw [zao] at h
  obtain ⟨g1, g2⟩ := zgm h.2
  have hx := (zbc x).1 h.1
  rw [zds]
  by_cases h3 : x.k = 4
  ·have e : ((x.k : Int) == ((4 : Nat) : Int)) = true := by simp [h3]
   rw [e, cond_true]
   refine ⟨(zcr _ _).2 ⟨hx.2, g1⟩, fun y hy => ?_⟩
   rcases List.mem_append.1 hy with hy | hy
   ·exact (zb9 hx.1 h3).2 y hy
   ·exact g2 y hy
  ·have e : ((x.k : Int) == ((4 : Nat) : Int)) = false := by simp; omega
   have e1 : ((((4 : Nat) : Int) == 3) && ((x.k : Int) == 1)) = false := by simp
   rw [e, cond_false, e1, cond_false, List.singleton_append]
   refine ⟨(zao _ _).2 ⟨h.1, g1⟩, fun y hy => ?_⟩
   rcases List.mem_cons.1 hy with rfl | hy
   ·exact h3
   ·exact g2 y hy
theorem zfu (kind : Nat) (x : Tr) : zqv kind [x] = x := rfl
theorem zdk (kind : Nat) (x y : Tr) (l : List Tr) : zqv kind (x :: y :: l) = .mk kind 0#256 0 0 (x :: y :: l) := by
 have e1 : (((x :: y :: l).length : Int) == 0) = false := by simp; omega
 have e2 : (((x :: y :: l).length : Int) == 1) = false := by simp; omega
 rw [zqv, e1, e2]; rfl
theorem zr4 : ∀ {l : List Tr}, G3 l → CR (zqv 3 l)
 | [], _ => (zbc _).2 ⟨zg4, zbz⟩
 | [x], h => (zcu _).1 h.1 x (by simp)
 | x :: y :: l, h => by rw [zdk]; exact (zbc _).2 ⟨zt8 (by simp) h.2, h.1⟩
theorem ztg : ∀ {l : List Tr}, G4 l → CR (zqv 4 l)
 | [], _ => (zbc _).2 ⟨zg4, zbz⟩
 | [x], h => (zcu _).1 h.1 x (by simp)
 | x :: y :: l, h => by rw [zdk]; exact (zbc _).2 ⟨zt9 (by simp) h.2, h.1⟩
theorem z2n {a b : Tr} (ha : CR a) (hb : CR b) : CR (zeh 3 a b) := zr4 (zhl ((zcu _).2 (by simp [ha, hb])))
theorem ztx {a b : Tr} (ha : CR a) (hb : CR b) : CR (zeh 4 a b) := ztg (zgm ((zcu _).2 (by simp [ha, hb])))
theorem zvh (kind : Nat) (hk : kind = 3 ∨ kind = 4) : ∀ l : List Tr, zf7 l ≤ 10000 → zf7 (zb2 kind l) ≤ zf7 l
 | [], _ => by simp [zb2, zf7]
 | x :: l, h => by
  rw [zf7] at h
  have h1 := zke x
  have h2 := zeu l
  have ih := zvh kind hk l (by omega)
  rw [zds, zch, zf7]
  have : zf7 (bif (x.k : Int) == kind then x.l else bif (kind : Int) == 3 && (x.k : Int) == 1 then [] else [x]) ≤ zna x := by
   cases e : (x.k : Int) == kind
   ·rw [cond_false]
    cases (kind : Int) == 3 && (x.k : Int) == 1
    ·simp [zf7]
    ·simp [zf7]; omega
   ·rw [cond_true]
    have e' : x.k = kind := by simp at e; omega
    have := zxc x (by omega) (by omega)
    omega
  omega
theorem z56 (kind : Nat) (hk : kind = 3 ∨ kind = 4) : ∀ l : List Tr, zna (zqv kind l) ≤ zf7 l
 | [] => by rw [show zqv kind [] = emptyT from rfl, zp7]; simp [zf7]
 | [x] => by rw [zfu]; simp [zf7]
 | x :: y :: l => by
  rw [zdk, zxc _ (by simp only [Tr.k]; omega) (by simp only [Tr.k]; omega)]
  simp only [Tr.l]; omega
theorem zn9 (kind : Nat) (hk : kind = 3 ∨ kind = 4) {a b : Tr} (h : zna a + zna b ≤ 10000) : zna (zeh kind a b) ≤ zna a + zna b := by
 have h0 : zf7 [a, b] = zna a + zna b := by simp [zf7]
 have h1 := zvh kind hk [a, b] (by omega)
 have h2 := z56 kind hk (zb2 kind [a, b])
 rw [zeh]; omega
theorem zyo (kind : Nat) (hk : kind = 3 ∨ kind = 4) : ∀ l : List Tr, CRL l → grL (zb2 kind l) ≤ grL l
 | [], _ => by simp [zb2]
 | x :: l, h => by
  rw [zao] at h
  have ih := zyo kind hk l h.2
  rw [zds, zdf, zcf]
  have : grL (bif (x.k : Int) == kind then x.l else bif (kind : Int) == 3 && (x.k : Int) == 1 then [] else [x]) ≤ grT x := by
   cases e : (x.k : Int) == kind
   ·rw [cond_false]
    cases (kind : Int) == 3 && (x.k : Int) == 1
    ·rw [cond_false, zcf, zd3]; omega
    ·rw [cond_true, zd3]; omega
   ·rw [cond_true]
    have := z8g x; omega
  omega
theorem endJ_gr (kind : Nat) (hk : kind = 3 ∨ kind = 4) : ∀ l : List Tr, grT (zqv kind l) ≤ grL l
 | [] => by rw [show zqv kind [] = emptyT from rfl, zt2]; omega
 | [x] => by rw [zfu, zcf]; omega
 | x :: y :: l => by
  rw [zdk, z2w, if_neg (by omega)]; omega
theorem zr3 (kind : Nat) (hk : kind = 3 ∨ kind = 4) {a b : Tr} (ha : CR a) (hb : CR b) : grT (zeh kind a b) ≤ grT a + grT b := by
 have h1 := zyo kind hk [a, b] ((zcu _).2 (by simp [ha, hb]))
 have h2 := endJ_gr kind hk (zb2 kind [a, b])
 simp only [zcf, zd3] at h1
 rw [zeh]; omega
structure OkM (st : MSt) (i : Nat) : Prop where
 cr : CRL st.1
 pos : zf7 st.1 ≤ (i : Int) * st.2.1
 gr : (grL st.1 : Int) ≤ st.2.2
theorem zqj {p : List Tr} (h : 0 < p.length) : p = p.take (p.length - 1) ++ [zed p 1] := by
 rw [zhc (by omega) (by omega)]
 conv => lhs; rw [← List.take_append_drop (p.length - 1) p]
 rw [List.drop_eq_getElem_cons (by omega), List.drop_of_length_le (by omega)]
theorem zt3 {p : List Tr} (h : 2 ≤ p.length) : p = p.take (p.length - 2) ++ [zed p 2, zed p 1] := by
 rw [zhc (i := 2) (by omega) (by omega), zhc (i := 1) (by omega) (by omega)]
 conv => lhs; rw [← List.take_append_drop (p.length - 2) p]
 rw [List.drop_eq_getElem_cons (by omega), List.drop_eq_getElem_cons (by omega), List.drop_of_length_le (by omega)]
 simp only [show p.length - 2 + 1 = p.length - 1 by omega]
theorem zx1 {p : List Tr} (h : 0 < p.length) (y : Tr) : p.set (p.length - 1) y = p.take (p.length - 1) ++ [y] := by
 rw [List.set_eq_take_append_cons_drop, if_pos (by omega), List.drop_of_length_le (by omega)]
theorem z3e : ∀ j, j < 12 → zcq (zqp (zp8 j)) = true := by decide +kernel
theorem z8f {j : Nat} (h : j < 12) : CR (zqp (zp8 j)) := (zbc _).2 ⟨z3e j h, zbz⟩
theorem z3l (x : Sm) : zbk (loM x) (moM x) = true := by
 have h1 : x.2.1 % 3 < 3 := Nat.mod_lt _ (by decide)
 have h2 : x.2.2 % 4 < 4 := Nat.mod_lt _ (by decide)
 unfold moM badM loM m4
 generalize x.2.1 % 3 = a at *
 generalize x.2.2 % 4 = b at *
 have key : ∀ a, a < 3 → ∀ b, b < 4 → zbk ((a : Nat) : Int) (bif decide (((b : Nat) : Int) < (a : Int)) || (b : Int) == 0 || (a : Int) == 1 && (b : Int) == 1 then -1 else (b : Int)) = true := by decide
 exact key a h1 b h2
theorem zv6 (x : Sm) (t : Tr) : zna (.mk 5 0#256 (loM x) (moM x) [t]) ≤ zna t * tmM x := by
 have h1 : x.2.1 % 3 < 3 := Nat.mod_lt _ (by decide)
 have h2 : x.2.2 % 4 < 4 := Nat.mod_lt _ (by decide)
 have h0 := zke t
 have hlo : 0 ≤ loM x := by unfold loM; omega
 have hf : min (if moM x = -1 then max (max (loM x) 0) 1 else max (max (loM x) 0) (moM x)) 10001 ≤ tmM x := by
  unfold tmM
  split
  ·rename_i e; rw [e]; omega
  ·omega
 have hm := Int.mul_le_mul_of_nonneg_left hf h0
 simp only [zna, zf7, if_true, if_neg (show ¬ (5 = 2) by decide), Int.add_zero, Int.zero_add]
 omega
theorem z6d {st : MSt} {i : Nat} (x : Sm) (h : OkM st i) (hi : i ≤ 25) (hv : 0 ≤ st.2.2 ∧ st.2.2 ≤ 9 ∧ 1 ≤ st.2.1 ∧ st.2.1 ≤ 16) : OkM (znf st x) (i + 1) := by
 obtain ⟨c, p, g⟩ := h
 obtain ⟨v1, v2, v3, v4⟩ := hv
 have e0 : ((i + 1 : Nat) : Int) * st.2.1 = (i : Int) * st.2.1 + st.2.1 := by rw [Int.natCast_add, Int.add_mul]; simp
 have e400 : (i : Int) * st.2.1 ≤ 400 := by
  have := Int.mul_le_mul (show (i : Int) ≤ 25 by omega) v4 (by omega) (by omega)
  omega
 have c0 := (zcu _).1 c
 unfold znf
 cases decide (kI x < 4)
 ·cases kI x == 4
  ·cases hA : cA st.1 x
   ·cases hB : cB st.1 x
    ·cases hC : cC st.1 st.2.2 x
     ·cases hD : cD st.1 x
      ·simp only [cond_false]; exact ⟨c, by omega, g⟩
      ·simp only [cond_false, cond_true]
       cases hT : decide (st.2.1 * tmM x ≤ 16)
       ·simp only [cond_false]; exact ⟨c, by omega, g⟩
       ·simp only [cond_true]
        unfold cD at hD
        simp only [Bool.and_eq_true, decide_eq_true_eq, bne_iff_ne, ne_eq] at hD
        have hp : 0 < st.1.length := by omega
        have es := zqj hp
        rw [zx1 hp]
        rw [es, zcr, zao] at c
        rw [es, zch] at p
        rw [es, zdf, zcf, zd3] at g
        simp only [zf7, Int.add_zero] at p
        refine ⟨(zcr _ _).2 ⟨c.1, (zao _ _).2 ⟨(zbc _).2 ⟨ziw (by omega) (z3l x), (zao _ _).2 ⟨c.2.1, zbz⟩⟩, zbz⟩⟩, ?_, ?_⟩
        ·have h1 := zv6 x (zed st.1 1)
         have h2 := zeu (st.1.take (st.1.length - 1))
         have h3 := (z1n x).1
         rw [zch]
         simp only [zf7, Int.add_zero]
         have h4 := Int.mul_le_mul_of_nonneg_right p (show 0 ≤ tmM x by omega)
         have h5 := Int.mul_le_mul_of_nonneg_left h3 h2
         rw [Int.add_mul] at h4
         have e1 : ((i + 1 : Nat) : Int) * (st.2.1 * tmM x) = (i : Int) * st.2.1 * tmM x + st.2.1 * tmM x := by
          rw [Int.natCast_add, Int.add_mul, Int.mul_assoc]; simp
         have h6 : 0 ≤ st.2.1 * tmM x := Int.mul_nonneg (by omega) (by omega)
         rw [e1]; omega
        ·dsimp only; rw [zdf, zcf, zd3, z2w, zcf, zd3, if_neg (by decide)]; omega
     ·simp only [cond_false, cond_true]
      unfold cC at hC
      simp only [Bool.and_eq_true, decide_eq_true_eq] at hC
      have hp : 0 < st.1.length := by omega
      have es := zqj hp
      rw [zx1 hp]
      rw [es, zcr, zao] at c
      rw [es, zch] at p
      rw [es, zdf, zcf, zd3] at g
      simp only [zf7, Int.add_zero] at p
      refine ⟨(zcr _ _).2 ⟨c.1, (zao _ _).2 ⟨(zbc _).2 ⟨zpd _, (zao _ _).2 ⟨c.2.1, zbz⟩⟩, zbz⟩⟩, ?_, ?_⟩
      ·rw [zch, zf7, zxc _ (by simp only [Tr.k]; omega) (by simp only [Tr.k]; omega)]
       simp only [Tr.l, zf7, Int.add_zero]; omega
      ·dsimp only; rw [zdf, zcf, zd3, z2w, zcf, zd3, if_pos rfl]; omega
    ·simp only [cond_false, cond_true]
     unfold cB at hB
     simp only [Bool.and_eq_true, decide_eq_true_eq] at hB
     have hp : 2 ≤ st.1.length := by omega
     have es := zt3 hp
     rw [es, zcr, zao, zao] at c
     rw [es, zch] at p
     rw [es, zdf, zcf, zcf, zd3] at g
     simp only [zf7, Int.add_zero] at p
     have n0 := zeu (st.1.take (st.1.length - 2))
     refine ⟨(zcr _ _).2 ⟨c.1, (zao _ _).2 ⟨ztx c.2.1 c.2.2.1, zbz⟩⟩, ?_, ?_⟩
     ·have := zn9 4 (.inr rfl) (a := zed st.1 2) (b := zed st.1 1) (by omega)
      rw [zch]; simp only [zf7, Int.add_zero]; omega
     ·dsimp only; have := zr3 4 (.inr rfl) c.2.1 c.2.2.1
      rw [zdf, zcf, zd3]; omega
   ·simp only [cond_false, cond_true]
    unfold cA at hA
    simp only [Bool.and_eq_true, decide_eq_true_eq] at hA
    have hp : 2 ≤ st.1.length := by omega
    have es := zt3 hp
    rw [es, zcr, zao, zao] at c
    rw [es, zch] at p
    rw [es, zdf, zcf, zcf, zd3] at g
    simp only [zf7, Int.add_zero] at p
    have n0 := zeu (st.1.take (st.1.length - 2))
    refine ⟨(zcr _ _).2 ⟨c.1, (zao _ _).2 ⟨z2n c.2.1 c.2.2.1, zbz⟩⟩, ?_, ?_⟩
    ·have := zn9 3 (.inl rfl) (a := zed st.1 2) (b := zed st.1 1) (by omega)
     rw [zch]; simp only [zf7, Int.add_zero]; omega
    ·dsimp only; have := zr3 3 (.inl rfl) c.2.1 c.2.2.1
     rw [zdf, zcf, zd3]; omega
  ·simp only [cond_false, cond_true]
   refine ⟨(zcr _ _).2 ⟨c, (zao _ _).2 ⟨(zbc _).2 ⟨zg4, zbz⟩, zbz⟩⟩, ?_, ?_⟩
   ·rw [zch]; simp only [zf7, zp7]; omega
   ·dsimp only; rw [zdf, zcf, zd3, zt2]; omega
 ·simp only [cond_true]
  refine ⟨(zcr _ _).2 ⟨c, (zao _ _).2 ⟨z8f (Nat.mod_lt _ (by decide)), zbz⟩⟩, ?_, ?_⟩
  ·rw [zch]; simp only [zf7, zzd]; omega
  ·dsimp only; rw [zdf, zcf, zd3, z31]; omega
theorem okM (l : List Sm) (hl : l.length ≤ 25) : ∀ i, i ≤ l.length → OkM (MM l i) i
 | 0, _ => ⟨by simp [MM]; exact zbz, by simp [MM, zf7], by simp [MM, zd3]⟩
 | i + 1, h => by
  rw [zwx l i (by omega)]
  have := invM l i (by omega)
  exact z6d _ (okM l hl i (by omega)) (by omega) ⟨this.2.1, this.2.2.1, this.2.2.2.1, this.2.2.2.2⟩
theorem z35 : ∀ (r : List Tr) (x : Tr), CR x → CRL r → zna x + zf7 r ≤ 400 →
 CR (r.foldl (zeh 4) x) ∧ zna (r.foldl (zeh 4) x) ≤ zna x + zf7 r ∧ grT (r.foldl (zeh 4) x) ≤ grT x + grL r ∧ (pre (r.foldl (zeh 4) x)).length ≤ (pre x).length + (zam r).length + r.length
 | [], x, h, _, _ => by simp [zf7, zd3, zam, h]
 | y :: r, x, h, hr, hp => by
  rw [zao] at hr
  rw [zf7] at hp
  have n1 := zeu r
  have j1 := zn9 4 (.inr rfl) (a := x) (b := y) (by omega)
  have j2 := zr3 4 (.inr rfl) h hr.1
  have j3 := zjc 4 x y
  obtain ⟨k1, k2, k3, k4⟩ := z35 r (zeh 4 x y) (ztx h hr.1) hr.2 (by omega)
  rw [List.foldl_cons, zf7, zcf, zam, List.length_append, List.length_cons]
  exact ⟨k1, by omega, by omega, by omega⟩
theorem made_ok (l : List Sm) : CR (zpz l) ∧ zna (zpz l) ≤ 400 ∧ grT (zpz l) ≤ 9 ∧ (pre (zpz l)).length ≤ 50 := by
 obtain ⟨m, hm⟩ : ∃ m, l.take 25 = m := ⟨_, rfl⟩
 have hlen : m.length ≤ 25 := by rw [← hm, List.length_take]; omega
 rw [zpz, hm]
 have e : MM m 25 = MM m m.length := by rw [MM, MM, List.take_of_length_le hlen, List.take_length]
 rw [e]
 have o := okM m hlen m.length (Nat.le_refl _)
 have v := invM m m.length (Nat.le_refl _)
 obtain ⟨c, p, g⟩ := o
 have p400 : zf7 (MM m m.length).1 ≤ 400 := by
  have := Int.mul_le_mul (show (m.length : Int) ≤ 25 by omega) v.2.2.2.2 (by omega) (by omega)
  omega
 match h : (MM m m.length).1 with
 | [] => exact ⟨z8f (j := 0) (by decide), by rw [z7t, zzd]; omega, by rw [z7t, z31]; omega, by simp [z7t, zqp, pre, zam]⟩
 | x :: r =>
  rw [h] at c p400 g v
  rw [zao] at c
  rw [zf7] at p400
  rw [zcf] at g
  have hv := v.1
  rw [zam, List.length_append] at hv
  obtain ⟨k1, k2, k3, k4⟩ := z35 r x c.1 c.2 (by omega)
  have hr := zag r
  rw [z7t]
  exact ⟨k1, by omega, by omega, by omega⟩
theorem ze5 {t : Tr} (h : CR t) (hl : (pre t).length ≤ 10000) : zbx t = true := by
 rw [zbx, zcx, Bool.and_eq_true]; exact ⟨by simpa using hl, h⟩
theorem zzx (lo hi : Int) : zbk lo hi = true ↔ (0 ≤ lo ∧ lo ≤ 16 ∧ ¬ (lo = 1 ∧ hi = 1)) ∧ (hi = -1 ∨ (1 ≤ hi ∧ hi ≤ 16 ∧ lo ≤ hi)) := by simp [zbk]; omega
structure MT (t : Tr) : Prop where
 cr : CR t
 pos : zna t ≤ 400
 gr : grT t ≤ 9
 len : (pre t).length ≤ 50
theorem MT.clean {t : Tr} (h : MT t) : zbx t = true := ze5 h.cr (by have := h.len; omega)
theorem MT.good {t : Tr} (h : MT t) : zj4 t = true := by rw [zj4, h.clean, Bool.or_true]
theorem MT.k0 {t : Tr} (h : MT t) : t.k ≠ 0 := by have := zo6 ((zbc t).1 h.cr).1; omega
theorem made_mt (l : List Sm) : MT (zpz l) := by obtain ⟨h1, h2, h3, h4⟩ := made_ok l; exact ⟨h1, h2, h3, h4⟩
theorem zo0 {t : Tr} (h : zcx t = true) : zdz t t = true := by rw [zdz, h, (ziv t t).2 rfl]; rfl
theorem flatT3 (l : List Tr) : zgw 3 1 l = zb2 3 l := by
 unfold zgw zb2
 congr 1
theorem z74 : ∀ {l : List Tr}, (∀ t ∈ l, t.k ≠ 0) → zgw 4 0 l = zb2 4 l
 | [], _ => rfl
 | x :: l, h => by
  have ih := z74 (l := l) fun t ht => h t (List.mem_cons_of_mem _ ht)
  have e0 : ((x.k : Int) == ((0 : Nat) : Int)) = false := by have := h x (by simp); simp; omega
  rw [zds, ← ih, zgw, List.flatMap_cons, ← zgw, e0]
  rfl
def CS (n : Nat) (t : Tr) : Prop := CR t ∧ (pre t).length ≤ n
theorem MT.cs {t : Tr} (h : MT t) : CS 50 t := ⟨h.cr, h.len⟩
theorem CR.k0 {t : Tr} (h : CR t) : t.k ≠ 0 := by have := zo6 ((zbc t).1 h).1; omega
theorem z4y {t : Tr} (h : CR t) (hk : t.k = 1) : t = emptyT := by
 have hr := ((zbc t).1 h).1
 cases t with
 | mk k s mn mx l =>
  simp only [Tr.k] at hk; subst hk
  rw [zck, zg6] at hr
  simp only [Bool.and_eq_true, Bool.not_eq_true', Bool.or_eq_false_iff] at hr
  obtain ⟨⟨⟨h1, h2⟩, h3⟩, _⟩ := hr
  simp at h1 h2 h3
  have hl : l = [] := by cases l with | nil => rfl | cons x l => simp at h3
  rw [h1, h2.1, h2.2, hl]; rfl
theorem zn5 (kind : Nat) : ∀ l : List Tr, (pre (zqv kind l)).length ≤ (zam l).length + 1
 | [] => by rw [show zqv kind [] = emptyT from rfl]; simp [emptyT, pre, zam]
 | [x] => by rw [zfu]; simp [zam]
 | x :: y :: l => by rw [zdk, pre, List.length_cons]; omega
theorem zfm {t : Tr} (h : zbx t = true) : zd8 t = t := by rw [zd8, if_pos h]
theorem zof {l : List Tr} (h : CRL l) (hl : (zam l).length ≤ 1000) : zhi l = zqv 3 (zb2 3 l) := by
 have hc := (zcu l).1 h
 have hln : ∀ t ∈ l, (pre t).length ≤ 1000 := fun t ht => by
  have : ∀ (l : List Tr), t ∈ l → (pre t).length ≤ (zam l).length := by
   intro l
   induction l with
   | nil => intro h; cases h
   | cons y l ih =>
    intro h
    rw [zam, List.length_append]
    rcases List.mem_cons.1 h with rfl | h
    ·omega
    ·have := ih h; omega
  have := this l ht; omega
 have ha : (l.any fun x => (x.k : Int) == 0 || !zbx x) = false := by
  rw [List.any_eq_false]
  intro x hx
  have h1 := ze5 (hc x hx) (by have := hln x hx; omega)
  have h2 := (hc x hx).k0
  simp [h1]; omega
 rw [zhi, ha, if_neg (by decide), flatT3]
 have g := zhl h
 have hfl := zey 3 l
 have hend := zn5 3 (zb2 3 l)
 have hcr := zr4 g
 revert hend hcr
 generalize zb2 3 l = m at g hfl
 intro hend hcr
 match m, g, hend, hcr with
 | [], _, _, _ => rfl
 | [x], _, hend, hcr =>
  rw [zfu] at hend hcr ⊢
  show zd8 x = x
  exact zfm (ze5 hcr (by omega))
 | x :: y :: m, _, hend, hcr =>
  rw [zdk] at hend hcr ⊢
  have e1 : (((x :: y :: m).length : Int) == 0) = false := by simp; omega
  have e2 : (((x :: y :: m).length : Int) == 1) = false := by simp; omega
  rw [zkf, e1, e2]
  exact zfm (ze5 hcr (by omega))
theorem zs6 {l : List Tr} (h : CRL l) (hl : l ≠ []) : zb2 4 l ≠ [] := by
 cases l with
 | nil => exact absurd rfl hl
 | cons x l =>
  rw [zao] at h
  rw [zds]
  by_cases h4 : x.k = 4
  ·have e : ((x.k : Int) == ((4 : Nat) : Int)) = true := by simp [h4]
   rw [e, cond_true]
   have hlen := (zb9 ((zbc x).1 h.1).1 h4).1
   intro hn
   have h1 := (List.append_eq_nil_iff.1 hn).1
   rw [h1] at hlen
   simp at hlen
  ·have e : ((x.k : Int) == ((4 : Nat) : Int)) = false := by simp; omega
   have e1 : ((((4 : Nat) : Int) == 3) && ((x.k : Int) == 1)) = false := by simp
   rw [e, cond_false, e1, cond_false]
   simp
theorem z13 {l : List Tr} (h : CRL l) (hne : l ≠ []) (hl : (zam l).length ≤ 1000) : orT l = zqv 4 (zb2 4 l) := by
 have hc := (zcu l).1 h
 have hln : ∀ t ∈ l, (pre t).length ≤ 1000 := fun t ht => by
  have : ∀ (l : List Tr), t ∈ l → (pre t).length ≤ (zam l).length := by
   intro l
   induction l with
   | nil => intro h; cases h
   | cons y l ih =>
    intro h
    rw [zam, List.length_append]
    rcases List.mem_cons.1 h with rfl | h
    ·omega
    ·have := ih h; omega
  have := this l ht; omega
 have ha : (l.any fun x => !zj4 x) = false := by
  rw [List.any_eq_false]
  intro x hx
  have h1 := ze5 (hc x hx) (by have := hln x hx; omega)
  rw [zj4, h1]; simp
 rw [orT, ha, if_neg (by decide), z74 fun t ht => (hc t ht).k0]
 have g := zgm h
 have hn := zs6 h hne
 have hfl := zey 4 l
 have hend := zn5 4 (zb2 4 l)
 have hcr := ztg g
 revert hend hcr hn
 generalize zb2 4 l = m at g hfl
 intro hn hend hcr
 match m, g, hend, hcr, hn with
 | [], _, _, _, hn => exact absurd rfl hn
 | [x], _, hend, hcr, _ =>
  rw [zfu] at hend hcr ⊢
  show zd8 x = x
  exact zfm (ze5 hcr (by omega))
 | x :: y :: m, _, hend, hcr, _ =>
  rw [zdk] at hend hcr ⊢
  have e1 : (((x :: y :: m).length : Int) == 0) = false := by simp; omega
  have e2 : (((x :: y :: m).length : Int) == 1) = false := by simp; omega
  rw [zkf, e1, e2]
  exact zfm (ze5 hcr (by omega))
def z61 (c : Int) : List AV := [.raw (.int .u8 c)]
theorem zxf : ∀ j : Nat, j < 256 → zr6 .u8 (j : Int) 6 = ((j / 64 : Nat) : Int) ∧ z2f .u8 (j : Int) 63 = ((j % 64 : Nat) : Int) ∧ IntKind.u8.wrap (j : Int) = (j : Int) := by decide +kernel
theorem zuf {n : Nat} (h : n < 2 ^ 64) : IntKind.u64.wrap (n : Int) = (n : Int) := by
 simp only [IntKind.wrap, IntKind.bits, IntKind.signed]
 simp; omega
theorem zyj (w : BitVec 64) : IntKind.u64.wrap ((w.toNat : Nat) : Int) = ((w.toNat : Nat) : Int) := zuf w.isLt
theorem zrm (x : BitVec 64) : BitVec.ofInt 64 ((x.toNat : Nat) : Int) = x := by
 apply BitVec.eq_of_toNat_eq; simp
theorem orI64 (x y : BitVec 64) : orI .u64 (x.toNat : Int) (y.toNat : Int) = ((x ||| y).toNat : Int) := by
 show IntKind.u64.wrap (((BitVec.ofInt 64 (x.toNat : Int) ||| BitVec.ofInt 64 (y.toNat : Int)).toNat : Nat) : Int) = _
 rw [zrm, zrm]; exact zyj _
theorem z3t (x y : BitVec 64) : zl5 .u64 (x.toNat : Int) (y.toNat : Int) = ((x &&& ~~~ y).toNat : Int) := by
 show IntKind.u64.wrap (((BitVec.ofInt 64 (x.toNat : Int) &&& ~~~ BitVec.ofInt 64 (y.toNat : Int)).toNat : Nat) : Int) = _
 rw [zrm, zrm]; exact zyj _
theorem wd_or (a b : BS) (i : Nat) : orI .u64 (wd a i) (wd b i) = wd (a ||| b) i := by
 unfold wd
 rw [orI64]
 have : W64 a i ||| W64 b i = W64 (a ||| b) i := by
  apply BitVec.eq_of_getLsbD_eq
  intro j hj
  simp only [W64, BitVec.getLsbD_or, BitVec.getLsbD_extractLsb', hj, decide_true, Bool.true_and]
 rw [this]
theorem zrw (a b : BS) (i : Nat) (hi : i < 4) : zl5 .u64 (wd a i) (wd b i) = wd (a &&& ~~~ b) i := by
 unfold wd
 rw [z3t]
 have : W64 a i &&& ~~~ W64 b i = W64 (a &&& ~~~ b) i := by
  apply BitVec.eq_of_getLsbD_eq
  intro j hj
  simp only [W64, BitVec.getLsbD_and, BitVec.getLsbD_not, BitVec.getLsbD_extractLsb', hj, decide_true, Bool.true_and]
  have : 64 * i + j < 256 := by omega
  simp [this]
 rw [this]
theorem z65 (w : BitVec 64) (r : Nat) (hr : r < 64) : (z2f .u64 (zr6 .u64 ((w.toNat : Nat) : Int) (r : Int)) 1 == 1) = w.getLsbD r := by
 have hw := w.isLt
 have h1 : zr6 .u64 ((w.toNat : Nat) : Int) (r : Int) = ((w.toNat / 2 ^ r : Nat) : Int) := by
  unfold zr6
  rw [show min (r : Int).toNat IntKind.u64.bits = r from by simp [IntKind.bits]; omega]
  rw [Int.fdiv_eq_ediv_of_nonneg _ (by exact_mod_cast Nat.zero_le _)]
  norm_cast
 rw [h1]
 have h2 : w.toNat / 2 ^ r < 2 ^ 64 := Nat.lt_of_le_of_lt (Nat.div_le_self _ _) hw
 show (IntKind.u64.wrap (((BitVec.ofInt 64 ((w.toNat / 2 ^ r : Nat) : Int) &&& BitVec.ofInt 64 1).toNat : Nat) : Int) == 1) = _
 have h3 : (BitVec.ofInt 64 ((w.toNat / 2 ^ r : Nat) : Int) &&& BitVec.ofInt 64 1).toNat = w.toNat / 2 ^ r % 2 := by
  rw [BitVec.toNat_and]
  have e1 : (BitVec.ofInt 64 ((w.toNat / 2 ^ r : Nat) : Int)).toNat = w.toNat / 2 ^ r := by
   rw [BitVec.ofInt_natCast, BitVec.toNat_ofNat]; exact Nat.mod_eq_of_lt h2
  have e2 : (BitVec.ofInt 64 1).toNat = 1 := rfl
  rw [e1, e2, Nat.and_one_is_mod]
 rw [h3]
 have h4 : w.toNat / 2 ^ r % 2 < 2 := Nat.mod_lt _ (by decide)
 have h5 : IntKind.u64.wrap ((w.toNat / 2 ^ r % 2 : Nat) : Int) = ((w.toNat / 2 ^ r % 2 : Nat) : Int) := zuf (Nat.lt_trans h4 (by decide))
 rw [h5, BitVec.getLsbD, Nat.testBit_eq_decide_div_mod_eq]
 generalize w.toNat / 2 ^ r % 2 = m
 rw [Bool.eq_iff_iff]; simp only [beq_iff_eq, decide_eq_true_eq]; omega
def elN (s : BS) (i : Nat) : List Nat := (List.range i).filter fun j => s.getLsbD j
def els (s : BS) : List Int := (elN s 256).map fun (j : Nat) => (j : Int)
theorem zyx (s : BS) (i : Nat) : elN s (i + 1) = elN s i ++ (if s.getLsbD i = true then [i] else []) := by
 rw [elN, List.range_succ, List.filter_append]; simp [elN, List.filter_cons]
theorem z2a (s : BS) {i : Nat} (h : s.getLsbD i = true) : ∀ k, i < k → (elN s k)[(elN s i).length]? = some i
 | 0, hk => by omega
 | k + 1, hk => by
  rw [zyx]
  by_cases e : i = k
  ·subst e; rw [if_pos h]; simp
  ·have ih := z2a s h k (by omega)
   rw [List.getElem?_append_left (List.getElem?_eq_some_iff.1 ih).1]; exact ih
def zkm (x y : Int) : Int := if x < y then -1 else if x > y then 1 else 0
def zp9 (p q : Nat → Bool) : List Nat → Int
 | [] => 0
 | j :: l => if p j = q j then zp9 p q l else if p j = true then -1 else 1
def cmpS (s t : BS) : Int := zp9 s.getLsbD t.getLsbD (List.range 256)
theorem zvn (p q : Nat → Bool) : ∀ l, zp9 p q l = - zp9 q p l
 | [] => rfl
 | j :: l => by
  rw [zp9, zp9]
  by_cases h : p j = q j
  ·rw [if_pos h, if_pos h.symm, zvn p q l]
  ·rw [if_neg h, if_neg (Ne.symm h)]
   cases hp : p j <;> cases hq : q j <;> simp_all
theorem zrc (p q : Nat → Bool) : ∀ l, zp9 p q l = -1 ∨ zp9 p q l = 0 ∨ zp9 p q l = 1
 | [] => .inr (.inl rfl)
 | j :: l => by
  rw [zp9]
  split
  ·exact zrc p q l
  ·split
   ·exact .inl rfl
   ·exact .inr (.inr rfl)
theorem zuv (p q : Nat → Bool) : ∀ l, zp9 p q l = 0 ↔ ∀ j ∈ l, p j = q j
 | [] => by simp [zp9]
 | j :: l => by
  rw [zp9]
  by_cases h : p j = q j
  ·rw [if_pos h, zuv p q l]; simp [h]
  ·rw [if_neg h]
   constructor
   ·intro e; split at e <;> simp at e
   ·intro e; exact absurd (e j (by simp)) h
theorem zq0 (p q r : Nat → Bool) : ∀ l, zp9 p q l ≤ 0 → zp9 q r l ≤ 0 → zp9 p r l ≤ 0
 | [], _, _ => by simp [zp9]
 | j :: l, h1, h2 => by
  rw [zp9] at h1 h2 ⊢
  have ih := zq0 p q r l
  cases hp : p j <;> cases hq : q j <;> cases hr : r j <;> simp [hp, hq, hr] at h1 h2 ⊢ <;> first | exact ih h1 h2 | skip
theorem z4s (s t : BS) : cmpS s t = 0 ↔ s = t := by
 rw [cmpS, zuv]
 constructor
 ·intro h; apply BitVec.eq_of_getLsbD_eq; intro j hj; exact h j (List.mem_range.2 hj)
 ·rintro rfl j _; rfl
theorem zz0 (p q : Nat → Bool) (d : Nat → Bool) (l : List Nat) (hd : ∀ j ∈ l, d j = (p j != q j)) : zp9 p q l = (match l.filter d with | [] => 0 | c :: _ => if p c = true then -1 else 1) := by
 induction l with
 | nil => rfl
 | cons j l ih =>
  have h := hd j (by simp)
  rw [zp9, List.filter_cons]
  by_cases e : p j = q j
  ·rw [if_pos e, if_neg (by rw [h, e]; simp)]
   exact ih fun k hk => hd k (by simp [hk])
  ·have hb : d j = true := by rw [h]; simpa using e
   rw [if_neg e, hb]; rfl
def zdu (c d : Int) : Int := if c ≠ 0 then c else d
def zxn (mx : Int) : Int := if mx = -1 then 9223372036854775807 else mx
mutual
def zgj : Tr → Tr → Int
 | .mk k s mn mx l, .mk k' s' mn' mx' l' => if k ≠ k' then zkm k k' else if k = 2 then cmpS s s' else if k = 5 then zdu (zdu (zkm mn mn') (zkm (zxn mx) (zxn mx'))) (zh2 l l') else if k = 0 ∨ k = 1 then 0 else zh2 l l'
def zh2 : List Tr → List Tr → Int
 | [], [] => 0
 | [], _ :: _ => -1
 | _ :: _, [] => 1
 | x :: a, y :: b => zdu (zgj x y) (zh2 a b)
end
theorem zpm (x y : Int) : zkm x y = - zkm y x := by unfold zkm; split <;> split <;> (try split) <;> omega
theorem zmp (x y : Int) : zkm x y = -1 ∨ zkm x y = 0 ∨ zkm x y = 1 := by unfold zkm; split <;> (try split) <;> simp
theorem zow (x y : Int) : zkm x y = 0 ↔ x = y := by unfold zkm; split <;> (try split) <;> omega
theorem zos (x y : Int) : zkm x y ≤ 0 ↔ x ≤ y := by unfold zkm; split <;> (try split) <;> omega
theorem zkd {c d : Int} (h : c = -1 ∨ c = 0 ∨ c = 1) (k : d = -1 ∨ d = 0 ∨ d = 1) : zdu c d = -1 ∨ zdu c d = 0 ∨ zdu c d = 1 := by unfold zdu; split <;> assumption
theorem zlx {c d c' d' : Int} (h : c = -c') (k : d = -d') : zdu c d = - zdu c' d' := by unfold zdu; split <;> split <;> omega
theorem zl2 {c d : Int} : zdu c d = 0 ↔ c = 0 ∧ d = 0 := by unfold zdu; split <;> omega
theorem zom {m m' m'' d d' d'' : Int} (h : d ≤ 0 → d' ≤ 0 → d'' ≤ 0) : zdu (zkm m m') d ≤ 0 → zdu (zkm m' m'') d' ≤ 0 → zdu (zkm m m'') d'' ≤ 0 := by
 unfold zdu zkm
 repeat' split
 all_goals first | omega | (intro h1 h2; first | omega | exact h h1 h2)
theorem zwy {xy yx yz zy xz zx d d' d'' : Int} (a1 : xy = -yx) (a2 : yz = -zy) (a3 : xz = -zx) (t1 : xy ≤ 0 → yz ≤ 0 → xz ≤ 0) (t2 : yz ≤ 0 → zx ≤ 0 → yx ≤ 0) (t3 : zx ≤ 0 → xy ≤ 0 → zy ≤ 0) (h : d ≤ 0 → d' ≤ 0 → d'' ≤ 0) :
 zdu xy d ≤ 0 → zdu yz d' ≤ 0 → zdu xz d'' ≤ 0 := by
 unfold zdu
 intro h1 h2
 split at h1 <;> split at h2 <;> split <;> first | omega | exact h h1 h2
def SetG (S : Tr → Prop) : Prop := (∀ x y, S x → S y → zgj x y = - zgj y x) ∧ (∀ x y z, S x → S y → S z → zgj x y ≤ 0 → zgj y z ≤ 0 → zgj x z ≤ 0)
theorem zun {S : Tr → Prop} (g : SetG S) : ∀ a b, (∀ x ∈ a, S x) → (∀ x ∈ b, S x) → zh2 a b = - zh2 b a
 | [], [], _, _ => by simp [zh2]
 | [], _ :: _, _, _ => by simp [zh2]
 | _ :: _, [], _, _ => by simp [zh2]
 | x :: a, y :: b, ha, hb => by
  rw [zh2, zh2]
  exact zlx (g.1 x y (ha x (by simp)) (hb y (by simp))) (zun g a b (fun z hz => ha z (by simp [hz])) (fun z hz => hb z (by simp [hz])))
theorem zqf {S : Tr → Prop} (g : SetG S) : ∀ a b c, (∀ x ∈ a, S x) → (∀ x ∈ b, S x) → (∀ x ∈ c, S x) → zh2 a b ≤ 0 → zh2 b c ≤ 0 → zh2 a c ≤ 0
 | [], b, [], _, _, _ => by intros; simp [zh2]
 | [], b, _ :: _, _, _, _ => by intros; simp [zh2]
 | x :: a, [], c, _, _, _ => by intro h; simp [zh2] at h
 | x :: a, y :: b, [], _, _, _ => by intro _ h; simp [zh2] at h
 | x :: a, y :: b, z :: c, ha, hb, hc => by
  rw [zh2, zh2, zh2]
  have sx := ha x (by simp); have sy := hb y (by simp); have sz := hc z (by simp)
  exact zwy (g.1 x y sx sy) (g.1 y z sy sz) (g.1 x z sx sz) (g.2 x y z sx sy sz) (fun h1 h2 => g.2 y z x sy sz sx h1 h2) (fun h1 h2 => g.2 z x y sz sx sy h1 h2)
   (zqf g a b c (fun w hw => ha w (by simp [hw])) (fun w hw => hb w (by simp [hw])) (fun w hw => hc w (by simp [hw])))
theorem zv9 : ∀ n, SetG fun t => (pre t).length ≤ n
 | 0 => ⟨fun x y h => by have h : (pre x).length ≤ 0 := h; rw [zcv] at h; simp at h, fun x y z h => by have h : (pre x).length ≤ 0 := h; rw [zcv] at h; simp at h⟩
 | n + 1 => by
  have g := zv9 n
  have sub : ∀ t : Tr, (pre t).length ≤ n + 1 → ∀ x ∈ t.l, (pre x).length ≤ n := fun t h x hx => by
   have h1 := zbu hx
   rw [zcv] at h; simp at h; omega
  constructor
  ·rintro ⟨k, s, mn, mx, l⟩ ⟨k', s', mn', mx', l'⟩ h1 h2
   have s1 := sub _ h1
   have s2 := sub _ h2
   simp only [Tr.l] at s1 s2
   have hl := zun g l l' s1 s2
   rw [zgj, zgj]
   by_cases e : k = k'
   ·subst e
    simp only [ne_eq, not_true_eq_false, if_false]
    split
    ·exact zvn _ _ _
    split
    ·exact zlx (zlx (zpm _ _) (zpm _ _)) hl
    split
    ·rfl
    ·exact hl
   ·rw [if_pos e, if_pos (Ne.symm e)]; exact zpm _ _
  ·rintro ⟨k, s, mn, mx, l⟩ ⟨k', s', mn', mx', l'⟩ ⟨k'', s'', mn'', mx'', l''⟩ h1 h2 h3
   have s1 := sub _ h1
   have s2 := sub _ h2
   have s3 := sub _ h3
   simp only [Tr.l] at s1 s2 s3
   have hl := zqf g l l' l'' s1 s2 s3
   rw [zgj, zgj, zgj]
   by_cases e : k = k'
   ·subst e
    by_cases e2 : k = k''
    ·subst e2
     simp only [ne_eq, not_true_eq_false, if_false]
     split
     ·exact zq0 _ _ _ _
     split
     ·rename_i h5
      have key : ∀ (a b c a' b' c' : Int) (d d' d'' : Int), (d ≤ 0 → d' ≤ 0 → d'' ≤ 0) → zdu (zdu (zkm a b) (zkm a' b')) d ≤ 0 → zdu (zdu (zkm b c) (zkm b' c')) d' ≤ 0 → zdu (zdu (zkm a c) (zkm a' c')) d'' ≤ 0 := by
       intro a b c a' b' c' d d' d'' h
       have asc : ∀ x y z : Int, zdu (zdu x y) z = zdu x (zdu y z) := fun x y z => by
        unfold zdu
        by_cases hx : x = 0
        ·simp [hx]
        ·simp [hx]
       rw [asc, asc, asc]
       exact zom (zom h)
      exact key _ _ _ _ _ _ _ _ _ hl
     split
     ·intros; omega
     ·exact hl
    ·intro _ h
     rw [if_pos (by simpa using e2)] at h ⊢
     rw [zos] at h ⊢; exact h
   ·rw [if_pos (show k ≠ k' from e)]
    intro h
    rw [zos] at h
    by_cases e2 : k' = k''
    ·subst e2
     intro _
     rw [if_pos (show k ≠ k' from e)]
     rw [zos]; exact h
    ·rw [if_pos (show k' ≠ k'' from e2)]
     intro h'
     rw [zos] at h'
     rw [if_pos (show k ≠ k'' by omega), zos]; omega
theorem zem (x y : Tr) : zgj x y = - zgj y x := (zv9 (max (pre x).length (pre y).length)).1 x y (Nat.le_max_left _ _) (Nat.le_max_right _ _)
theorem zfa (x y z : Tr) : zgj x y ≤ 0 → zgj y z ≤ 0 → zgj x z ≤ 0 := (zv9 ((pre x).length + (pre y).length + (pre z).length)).2 x y z (by omega) (by omega) (by omega)
theorem zsg (x : Tr) : zgj x x = 0 := by have := zem x x; omega
mutual
theorem z0a : ∀ x y, zgj x y = -1 ∨ zgj x y = 0 ∨ zgj x y = 1
 | .mk k s mn mx l, .mk k' s' mn' mx' l' => by
  rw [zgj]
  have hl := zq7 l l'
  split
  ·exact zmp _ _
  split
  ·exact zrc _ _ _
  split
  ·exact zkd (zkd (zmp _ _) (zmp _ _)) hl
  split
  ·exact .inr (.inl rfl)
  ·exact hl
theorem zq7 : ∀ a b, zh2 a b = -1 ∨ zh2 a b = 0 ∨ zh2 a b = 1
 | [], [] => by simp [zh2]
 | [], _ :: _ => by simp [zh2]
 | _ :: _, [] => by simp [zh2]
 | x :: a, y :: b => by rw [zh2]; exact zkd (z0a x y) (zq7 a b)
end
theorem zwj {k : Nat} {s : BS} {mn mx : Int} {l : List Tr} (h : zcq (.mk k s mn mx l) = true) : (k ≠ 2 → s = 0#256) ∧ (k ≠ 5 → mn = 0 ∧ mx = 0) ∧ (k < 3 → l = []) ∧ (k = 5 → mx = -1 ∨ (1 ≤ mx ∧ mx ≤ 16)) := by
 have hk := zo6 h
 simp only [Tr.k] at hk
 rw [zck, Bool.and_eq_true, zg6] at h
 obtain ⟨h1, h2⟩ := h
 simp only [Bool.not_eq_true', Bool.or_eq_false_iff, Bool.and_eq_false_iff] at h1
 obtain ⟨⟨a, b⟩, c⟩ := h1
 refine ⟨fun h => ?_, fun h => ?_, fun h => ?_, fun h => ?_⟩
 ·rcases a with a | a
  ·simp at a; omega
  ·simpa using a
 ·rcases b with b | b
  ·simp at b; omega
  ·simp at b; exact b
 ·rcases c with c | c
  ·simp at c; omega
  ·cases l with
   | nil => rfl
   | cons x l => simp at c
 ·subst h
  simp [zbk] at h2
  have := h2.1.2
  omega
mutual
theorem zv3 : ∀ x y, CR x → CR y → zgj x y = 0 → x = y
 | .mk k s mn mx l, .mk k' s' mn' mx' l', hx, hy, h => by
  rw [zbc] at hx hy
  simp only [Tr.l] at hx hy
  obtain ⟨a1, a2, a3, a4⟩ := zwj hx.1
  obtain ⟨b1, b2, b3, b4⟩ := zwj hy.1
  have hk := zo6 hx.1
  simp only [Tr.k] at hk
  rw [zgj] at h
  by_cases e : k = k'
  ·subst e
   simp only [ne_eq, not_true_eq_false, if_false] at h
   split at h
   ·rename_i h2
    rw [(z4s s s').1 h, (a2 (by omega)).1, (a2 (by omega)).2, (b2 (by omega)).1, (b2 (by omega)).2, a3 (by omega), b3 (by omega)]
   split at h
   ·rename_i h2 h5
    rw [zl2, zl2, zow, zow] at h
    have a5 := a4 h5
    have b5 := b4 h5
    have hm : mx = mx' := by
     have := h.1.2
     unfold zxn at this
     split at this <;> split at this <;> omega
    rw [a1 h2, b1 h2, h.1.1, hm, zw2 l l' hx.2 hy.2 h.2]
   split at h
   ·rename_i h2 h5 h0
    rw [a1 h2, b1 h2, (a2 h5).1, (a2 h5).2, (b2 h5).1, (b2 h5).2, a3 (by omega), b3 (by omega)]
   ·rename_i h2 h5 h0
    rw [a1 h2, b1 h2, (a2 h5).1, (a2 h5).2, (b2 h5).1, (b2 h5).2, zw2 l l' hx.2 hy.2 h]
  ·rw [if_pos e, zow] at h; omega
theorem zw2 : ∀ a b, CRL a → CRL b → zh2 a b = 0 → a = b
 | [], [], _, _, _ => rfl
 | [], _ :: _, _, _, h => by simp [zh2] at h
 | _ :: _, [], _, _, h => by simp [zh2] at h
 | x :: a, y :: b, ha, hb, h => by
  rw [zao] at ha hb
  rw [zh2, zl2] at h
  rw [zv3 x y ha.1 hb.1 h.1, zw2 a b ha.2 hb.2 h.2]
end
def zum (t : Tr) : List AV := [.raw (.int .u8 t.k), .raw (.int .u64 (wd t.s 0)), .raw (.int .u64 (wd t.s 1)), .raw (.int .u64 (wd t.s 2)), .raw (.int .u64 (wd t.s 3)), .raw (.int .i64 t.mn), .raw (.int .i64 t.mx), .list t.l.length (cellsL t.l) .none]
theorem zpb (t : Tr) : cells t = zum t := z6j t
instance : Enc Tr where
 inh := noneT
 cells := zum
 cellsL := cellsL
 sz := 8
 pos := by decide
 nil := by simp [cellsL]
 cons a l := by rw [cellsL, zpb]
 len _ := rfl
 clo t := by rw [← zpb]; exact zuu t
theorem enc_eq (t : Tr) : enc t = .agg (Enc.cells t) := by rw [enc, zpb]; rfl
theorem z05 {E : Int} (g : 0 ≤ E) (s : BS) (mn mx : Int) (l : List Tr) : AV.agg (Enc.cells (Tr.mk (Int.toNat E) s mn mx l)) = .agg [.raw (.int .u8 E), .raw (.int .u64 (wd s 0)), .raw (.int .u64 (wd s 1)), .raw (.int .u64 (wd s 2)), .raw (.int .u64 (wd s 3)), .raw (.int .i64 mn), .raw (.int .i64 mx), .list l.length (cellsL l) .none] := by
 show AV.agg (zum _) = _
 simp only [zum, Tr.k, Tr.s, Tr.mn, Tr.mx, Tr.l, Int.toNat_of_nonneg g]
def zbh (t : Tr) (st : Room) : AV := .agg [.raw (.int .u8 t.k), .raw (.int .u64 (wd t.s 0)), .raw (.int .u64 (wd t.s 1)), .raw (.int .u64 (wd t.s 2)), .raw (.int .u64 (wd t.s 3)), .raw (.int .i64 t.mn), .raw (.int .i64 t.mx), .list t.l.length (cellsL t.l) st]
theorem zi (t : Tr) (st : Room) : zcj (zbh t st) = .agg (Enc.cells t) := by
 simp only [zbh, zcj, stripL, zhe]; rfl
def z8c (s : BS) : List AV := [.raw (.int .u64 (wd s 0)), .raw (.int .u64 (wd s 1)), .raw (.int .u64 (wd s 2)), .raw (.int .u64 (wd s 3))]
instance : Enc BS where
 inh := 0#256
 cells := z8c
 cellsL l := l.flatMap z8c
 sz := 4
 pos := by decide
 nil := rfl
 cons _ _ := rfl
 len _ := rfl
 clo _ := rfl
instance : Enc Sm where
 inh := (0, 0, 0)
 cells := smc
 cellsL := z75
 sz := 3
 pos := by decide
 nil := by simp [z75]
 cons _ _ := by simp [z75]
 len _ := rfl
 clo _ := rfl
structure Rgx where
 b : Bool
 e : Bool
 t : Tr
def z8d (r : Rgx) : List AV := .raw (.bool r.b) :: .raw (.bool r.e) :: zum r.t
instance : Enc Rgx where
 inh := ⟨false, false, noneT⟩
 cells := z8d
 cellsL l := l.flatMap z8d
 sz := 10
 pos := by decide
 nil := rfl
 cons _ _ := rfl
 len _ := rfl
 clo r := by have := Enc.clo r.t; exact this
def ztp (t : Tr) : List AV := [.agg (Enc.cells t)]
theorem zld {t : Tr} (h : (pre t).length ≤ 10000) : zcx t = true := by simpa [zcx] using h
theorem zm2 {α : Type} [Enc α] {l : List α} {i : Nat} (h : i < l.length) : ix l (i : Int) = l[i] := by simp [ix, h]
def z5g (k : Int) (s : BS) (mn mx : Int) (l : List Tr) (st : Room) : AV := .agg [.raw (.int .u8 k), .raw (.int .u64 (wd s 0)), .raw (.int .u64 (wd s 1)), .raw (.int .u64 (wd s 2)), .raw (.int .u64 (wd s 3)), .raw (.int .i64 mn), .raw (.int .i64 mx), .list l.length (cellsL l) st]
theorem zo2 {k : Int} (g : 0 ≤ k) (s : BS) (mn mx : Int) (l : List Tr) (st : Room) : zcj (z5g k s mn mx l st) = .agg (Enc.cells (Tr.mk k.toNat s mn mx l)) := by
 rw [z05 g]; simp only [z5g, zcj, stripL, zhe]
end Go.Ab
