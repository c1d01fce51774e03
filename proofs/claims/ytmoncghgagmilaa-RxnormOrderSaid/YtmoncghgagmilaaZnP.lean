/-
  Trees of rx: words, plain laws.
-/
import Derived.Test.YtmoncghgagmilaaZdSh
set_option linter.unusedSimpArgs false
set_option linter.unusedVariables false
namespace Go.Ab
open Go Go.RowKit Go.Fwd
abbrev BS := BitVec 256
def W64 (S : BS) (i : Nat) : BitVec 64 := S.extractLsb' (64 * i) 64
def wd (S : BS) (i : Nat) : Int := ((W64 S i).toNat : Int)
inductive Tr where
 | mk (k : Nat) (s : BS) (mn mx : Int) (l : List Tr)
def Tr.k : Tr → Nat | .mk k _ _ _ _ => k
def Tr.s : Tr → BS | .mk _ s _ _ _ => s
def Tr.mn : Tr → Int | .mk _ _ m _ _ => m
def Tr.mx : Tr → Int | .mk _ _ _ m _ => m
def Tr.l : Tr → List Tr | .mk _ _ _ _ l => l
theorem Tr.eta (t : Tr) : t = .mk t.k t.s t.mn t.mx t.l := by cases t; rfl
theorem Tr.sizeOf_l {t x : Tr} (h : x ∈ t.l) : SizeOf.sizeOf x < SizeOf.sizeOf t := by
 cases t with
 | mk k s mn mx l => simp only [Tr.l] at h; have := List.sizeOf_lt_of_mem h; simp; omega
mutual
def cells : Tr → List AV
 | .mk k s mn mx l => [.raw (.int .u8 k), .raw (.int .u64 (wd s 0)), .raw (.int .u64 (wd s 1)), .raw (.int .u64 (wd s 2)), .raw (.int .u64 (wd s 3)), .raw (.int .i64 mn), .raw (.int .i64 mx), .list l.length (cellsL l) .none]
def cellsL : List Tr → List AV
 | [] => []
 | t :: l => cells t ++ cellsL l
end
def enc (t : Tr) : AV := .agg (cells t)
theorem zvr (t : Tr) : (cells t).length = 8 := by cases t; simp [cells]
theorem z7b (t : Tr) : cells t = [.raw (.int .u8 t.k), .raw (.int .u64 (wd t.s 0)), .raw (.int .u64 (wd t.s 1)), .raw (.int .u64 (wd t.s 2)), .raw (.int .u64 (wd t.s 3)), .raw (.int .i64 t.mn), .raw (.int .i64 t.mx), .list t.l.length (cellsL t.l) .none] := by cases t; simp [cells, Tr.k, Tr.s, Tr.mn, Tr.mx, Tr.l]
theorem zll : ∀ l, (cellsL l).length = l.length * 8
 | [] => by simp [cellsL]
 | t :: l => by rw [cellsL, List.length_append, zvr, zll l, List.length_cons]; omega
theorem z2p {l : List Tr} (h : l ≠ []) : cellsL l ≠ [] := by
 intro e
 have := zll l
 rw [e] at this
 simp at this
 exact h (List.length_eq_zero_iff.1 (by omega))
mutual
theorem ztv (n : Nat) : ∀ t, z7 n (cells t) = true
 | .mk k s mn mx l => by simp [cells, z7, za5, zlb n l]
theorem zlb (n : Nat) : ∀ l, z7 n (cellsL l) = true
 | [] => by simp [cellsL, z7]
 | t :: l => by
  rw [cellsL, zgg, List.all_append, ← zgg, ← zgg, ztv n t, zlb n l]; rfl
end
mutual
theorem zmq : ∀ t, zbt (cells t) = true
 | .mk k s mn mx l => by simp [cells, zbt, zie, zkv l]
theorem zkv : ∀ l, zbt (cellsL l) = true
 | [] => by simp [cellsL, zbt]
 | t :: l => by
  have h : ∀ l m : List AV, zbt (l ++ m) = (zbt l && zbt m) := fun l m => by
   induction l with
   | nil => simp [zbt]
   | cons a l ih => rw [List.cons_append, zbt, zbt, ih, Bool.and_assoc]
  rw [cellsL, h, zmq t, zkv l]; rfl
end
mutual
theorem zwj : ∀ t, stripL (cells t) = cells t
 | .mk k s mn mx l => by simp [cells, stripL, zb7, zgw l]
theorem zgw : ∀ l, stripL (cellsL l) = cellsL l
 | [] => by simp [cellsL, stripL]
 | t :: l => by
  rw [cellsL, zi4, List.map_append, ← zi4, ← zi4, zwj t, zgw l]
end
mutual
theorem zt1 (g : FZ) : ∀ t, za8 g (cells t) = cells t
 | .mk k s mn mx l => by simp [cells, za8, zdu, zkk g l]
theorem zkk (g : FZ) : ∀ l, za8 g (cellsL l) = cellsL l
 | [] => by simp [cellsL, za8]
 | t :: l => by
  have h : ∀ l m : List AV, za8 g (l ++ m) = za8 g l ++ za8 g m := fun l m => by
   induction l with
   | nil => simp [za8]
   | cons a l ih => rw [List.cons_append, za8, za8, ih, List.cons_append]
  rw [cellsL, h, zt1 g t, zkk g l]
end
mutual
theorem zui : ∀ t, cloL (cells t) = true
 | .mk k s mn mx l => by simp [cells, cloL, clo, zqn l]
theorem zqn : ∀ l, cloL (cellsL l) = true
 | [] => by simp [cellsL, cloL]
 | t :: l => by rw [cellsL, zgs, zui t, zqn l]; rfl
end
theorem z0x (t : Tr) : zie (enc t) = true := by rw [enc, zie]; exact zmq t
mutual
def pre : Tr → List Tr
 | .mk k s mn mx l => .mk k s mn mx l :: zai l
def zai : List Tr → List Tr
 | [] => []
 | t :: l => pre t ++ zai l
end
theorem zc8 (t : Tr) : pre t = t :: zai t.l := by cases t; simp [pre, Tr.l]
theorem zjo : ∀ (ts : List Tr) (i : Nat) (hi : i < ts.length), (zai (ts.take (i + 1))).length = (zai (ts.take i)).length + (pre ts[i]).length
 | [], i, hi => by simp at hi
 | t :: ts, 0, hi => by simp [zai]
 | t :: ts, i + 1, hi => by
  simp only [List.take_succ_cons, zai, List.length_append, List.getElem_cons_succ, zjo ts i (by simpa using hi)]
  omega
theorem z4b : ∀ ts : List Tr, ts.length ≤ (zai ts).length
 | [] => by simp [zai]
 | t :: ts => by
  have := z4b ts
  cases t with
  | mk k s mn mx l => simp [zai, pre]; omega
theorem zev : ∀ {ts : List Tr} {x : Tr}, x ∈ ts → (pre x).length ≤ (zai ts).length
 | [], x, h => by simp at h
 | t :: ts, x, h => by
  simp only [zai, List.length_append]
  rcases List.mem_cons.1 h with rfl | h
  ·omega
  ·have := zev h; omega
def zb4 (least most : Int) : Bool := !(decide (least < 0) || decide (least > 16) || decide (least = 1) && decide (most = 1)) && (decide (most = -1) || decide (most ≥ 1) && decide (most ≤ 16) && decide (most ≥ least))
def z44 (s : BS) : AV := .agg [.raw (.int .u64 (wd s 0)), .raw (.int .u64 (wd s 1)), .raw (.int .u64 (wd s 2)), .raw (.int .u64 (wd s 3))]
theorem wd_inj {A B : BS} (h : ∀ i, i < 4 → wd A i = wd B i) : A = B := by
 apply BitVec.eq_of_getLsbD_eq
 intro j hj
 have h4 : j / 64 < 4 := by omega
 have h2 := h (j / 64) h4
 have h3 : W64 A (j / 64) = W64 B (j / 64) := by
  apply BitVec.eq_of_toNat_eq
  unfold wd at h2
  omega
 have h5 := congrArg (fun x : BitVec 64 => x.getLsbD (j % 64)) h3
 have hlt : j % 64 < 64 := Nat.mod_lt _ (by decide)
 simp only [W64, BitVec.getLsbD_extractLsb', hlt, decide_true, Bool.true_and] at h5
 rwa [show 64 * (j / 64) + j % 64 = j by omega] at h5
theorem z7x (S T : BS) : (wd S 0 == wd T 0 && wd S 1 == wd T 1 && wd S 2 == wd T 2 && wd S 3 == wd T 3) = decide (S = T) := by
 by_cases h : S = T
 ·subst h; simp
 ·simp only [h, decide_false]
  cases hb : (wd S 0 == wd T 0 && wd S 1 == wd T 1 && wd S 2 == wd T 2 && wd S 3 == wd T 3) with
  | false => rfl
  | true =>
   simp only [Bool.and_eq_true, beq_iff_eq] at hb
   refine absurd (wd_inj fun i hi => ?_) h
   match i, hi with
   | 0, _ => exact hb.1.1.1
   | 1, _ => exact hb.1.1.2
   | 2, _ => exact hb.1.2
   | 3, _ => exact hb.2
def zpy (t : Tr) (k : Nat) : Bool := t.l.any fun y => decide (y.k = k)
def oddT (t : Tr) : Bool := ((t.k : Int) != 2 && decide (t.s ≠ 0#256)) || ((t.k : Int) != 5 && (t.mn != 0 || t.mx != 0)) || (decide ((t.k : Int) < 3) && decide ((t.l.length : Int) > 0))
def zcm (t : Tr) : Bool := !oddT t && (bif (t.k : Int) == 1 then true else bif (t.k : Int) == 2 then decide (t.s ≠ 0#256) else bif (t.k : Int) == 3 then decide ((t.l.length : Int) > 1) && !zpy t 1 && !zpy t 3
 else bif (t.k : Int) == 4 then decide ((t.l.length : Int) > 1) && !zpy t 4 else bif (t.k : Int) == 5 then (t.l.length : Int) == 1 && zb4 t.mn t.mx && !zpy t 1 else (t.k : Int) == 6 && (t.l.length : Int) == 1)
theorem zg7 (k : Nat) (s : BS) (mn mx : Int) (ts : List Tr) : oddT (.mk k s mn mx ts) = (((k : Int) != 2 && decide (s ≠ 0#256)) || ((k : Int) != 5 && (mn != 0 || mx != 0)) || (decide ((k : Int) < 3) && decide ((ts.length : Int) > 0))) := rfl
theorem zct (k : Nat) (s : BS) (mn mx : Int) (ts : List Tr) : zcm (.mk k s mn mx ts) = (!oddT (.mk k s mn mx ts) && (bif (k : Int) == 1 then true else bif (k : Int) == 2 then decide (s ≠ 0#256) else bif (k : Int) == 3 then decide ((ts.length : Int) > 1) && !zpy (.mk k s mn mx ts) 1 && !zpy (.mk k s mn mx ts) 3
 else bif (k : Int) == 4 then decide ((ts.length : Int) > 1) && !zpy (.mk k s mn mx ts) 4 else bif (k : Int) == 5 then (ts.length : Int) == 1 && zb4 mn mx && !zpy (.mk k s mn mx ts) 1 else (k : Int) == 6 && (ts.length : Int) == 1)) := rfl
def zcl (t : Tr) : Bool := decide ((pre t).length ≤ 10000)
def zbj (t : Tr) : Bool := zcl t && (pre t).all zcm
mutual
def zmx : Tr → Int
 | .mk k s mn mx ts => min (if k = 5 then ((if k = 2 then 1 else 0) + zfx ts) * min (if mx = -1 then max (max mn 0) 1 else max (max mn 0) mx) 10001 else (if k = 2 then 1 else 0) + zfx ts) 10001
def zfx : List Tr → Int
 | [] => 0
 | t :: l => zmx t + zfx l
end
theorem zu6 : ∀ (t : Tr), t.l.length < (pre t).length
 | .mk k s mn mx ts => by
  have : ∀ l : List Tr, l.length ≤ (zai l).length := fun l => by
   induction l with
   | nil => simp [zai]
   | cons a l ih => rw [zai, List.length_append, List.length_cons]; rw [zc8]; simp; omega
  simp [pre, Tr.l]; have := this ts; omega
theorem zp2 {t x : Tr} (h : x ∈ pre t) : (pre x).length ≤ (pre t).length := by
 have key : ∀ n, (∀ t : Tr, SizeOf.sizeOf t ≤ n → ∀ x ∈ pre t, (pre x).length ≤ (pre t).length) := by
  intro n
  induction n with
  | zero => intro t ht; cases t; simp at ht
  | succ n ih =>
   intro t ht x hx
   rw [zc8] at hx
   rcases List.mem_cons.1 hx with rfl | hx
   ·exact Nat.le_refl _
   ·have hl : ∀ l : List Tr, (∀ y ∈ l, SizeOf.sizeOf y ≤ n) → ∀ x ∈ zai l, (pre x).length ≤ (zai l).length := by
     intro l
     induction l with
     | nil => intro _ x hx; simp [zai] at hx
     | cons a l ihl =>
      intro hs x hx
      rw [zai] at hx ⊢
      rw [List.length_append]
      rcases List.mem_append.1 hx with hx | hx
      ·have := ih a (hs a (by simp)) x hx; omega
      ·have := ihl (fun y hy => hs y (by simp [hy])) x hx; omega
    have := hl t.l (fun y hy => by have := Tr.sizeOf_l hy; omega) x hx
    rw [zc8 t, List.length_cons]; omega
 exact key _ t (Nat.le_refl _) x h
mutual
theorem zj0 : ∀ t, 0 ≤ zmx t
 | .mk k s mn mx ts => by
  have hl := zer ts
  rw [zmx]
  have h0 : 0 ≤ (if k = 2 then 1 else 0) + zfx ts := by split <;> omega
  split
  ·have : 0 ≤ ((if k = 2 then 1 else 0) + zfx ts) * min (if mx = -1 then max (max mn 0) 1 else max (max mn 0) mx) 10001 := Int.mul_nonneg h0 (by split <;> omega)
   omega
  ·omega
theorem zer : ∀ l, 0 ≤ zfx l
 | [] => by simp [zfx]
 | t :: l => by have h1 := zj0 t; have h2 := zer l; rw [zfx]; omega
end
mutual
def zim : Tr → Tr → Bool
 | .mk k s mn mx l, .mk k' s' mn' mx' l' => (k : Int) == k' && decide (s = s') && mn == mn' && mx == mx' && zlf l l'
def zlf : List Tr → List Tr → Bool
 | [], [] => true
 | x :: a, y :: b => zim x y && zlf a b
 | _, _ => false
end
mutual
theorem zho : ∀ a b, zim a b = true ↔ a = b
 | .mk k s mn mx l, .mk k' s' mn' mx' l' => by
  rw [zim]
  simp only [Bool.and_eq_true, zun l l', Tr.mk.injEq, beq_iff_eq, decide_eq_true_eq]
  constructor
  ·rintro ⟨⟨⟨⟨h1, h2⟩, h3⟩, h4⟩, h5⟩; exact ⟨by omega, h2, h3, h4, h5⟩
  ·rintro ⟨h1, h2, h3, h4, h5⟩; exact ⟨⟨⟨⟨by omega, h2⟩, h3⟩, h4⟩, h5⟩
theorem zun : ∀ a b, zlf a b = true ↔ a = b
 | [], [] => by simp [zlf]
 | x :: a, [] => by simp [zlf]
 | [], y :: b => by simp [zlf]
 | x :: a, y :: b => by rw [zlf, Bool.and_eq_true, zho x y, zun a b]; simp
end
def zfc (a b : Tr) : Bool := zcl a && zcl b && zim a b
def noneT : Tr := .mk 0 0#256 0 0 []
def emptyT : Tr := .mk 1 0#256 0 0 []
def zjz (t : Tr) : Bool := zim t noneT || zbj t
def zd8 (t : Tr) : Tr := if zbj t = true then t else noneT
def z00 (t : Tr) : Tr := if zcl t = true then t else noneT
theorem zej {t : Tr} (h : zbj t = true) : (pre t).length ≤ 10000 := by rw [zbj, Bool.and_eq_true] at h; simpa [zcl] using h.1
def zgn (kind without : Nat) (l : List Tr) : List Tr := l.flatMap fun x => bif (x.k : Int) == kind then x.l else bif (x.k : Int) == without then [] else [x]
def zj5 (kind : Nat) (l : List Tr) (none : Tr) : Tr := bif (l.length : Int) == 0 then none else bif (l.length : Int) == 1 then zd8 (l.headD none) else zd8 (Tr.mk kind 0#256 0 0 l)
def zj9 (l : List Tr) : Tr := if (l.any fun x => (x.k : Int) == 0 || !zbj x) = true then noneT else zj5 3 (zgn 3 1 l) emptyT
def orT (l : List Tr) : Tr := if (l.any fun x => !zjz x) = true then noneT else zj5 4 (zgn 4 0 l) noneT
theorem zbi : ∀ a b, zai (a ++ b) = zai a ++ zai b
 | [], b => by simp [zai]
 | x :: a, b => by rw [List.cons_append, zai, zai, zbi a b, List.append_assoc]
theorem zag : ∀ l : List Tr, l.length ≤ (zai l).length
 | [] => by simp [zai]
 | x :: l => by have := zag l; rw [zai, List.length_append, List.length_cons, zc8]; simp; omega
theorem zhb (t : Tr) : (zai t.l).length < (pre t).length := by rw [zc8]; simp
theorem zjk (kind without : Nat) : ∀ l : List Tr, (zai (zgn kind without l)).length ≤ (zai l).length
 | [] => by simp [zgn, zai]
 | x :: l => by
  have h := zjk kind without l
  have hx := zhb x
  rw [zgn, List.flatMap_cons, zbi, List.length_append, zai, List.length_append]
  have h2 : (zai (bif (x.k : Int) == kind then x.l else bif (x.k : Int) == without then [] else [x])).length ≤ (pre x).length := by
   cases (x.k : Int) == kind <;> cases (x.k : Int) == without <;> simp [zai] <;> omega
  rw [zgn] at h
  omega
theorem zbr {x : Tr} : ∀ {l : List Tr}, x ∈ l → (pre x).length ≤ (zai l).length
 | y :: l, h => by
  rw [zai, List.length_append]
  rcases List.mem_cons.1 h with rfl | h
  ·omega
  ·have := zbr h; omega
def zb1 (t : Tr) (lo hi : Int) : Tr :=
 bif !zjz t || (!(lo == 0 && hi == 0) && !(lo == 1 && hi == 1) && !zb4 lo hi) then noneT
 else bif (t.k : Int) == 0 && decide (lo > 0) then noneT
 else bif (lo == 0 && hi == 0) || (t.k : Int) == 0 || (t.k : Int) == 1 then emptyT
 else bif lo == 1 && hi == 1 then t else zd8 (.mk 5 0#256 lo hi [t])
def zg4 (t : Tr) : Tr := zd8 (.mk 6 0#256 0 0 [t])
def ofT (s : BS) : Tr := if s = 0#256 then noneT else .mk 2 s 0 0 []
theorem zh3 (k : Nat) (s : BS) (mn mx : Int) (t : Tr) : (pre (.mk k s mn mx [t])).length = 1 + (pre t).length := by simp [pre, zai]; omega
def zbd (kind : Nat) (l : List Tr) : List Tr := l.flatMap fun x => bif (x.k : Int) == kind then x.l else bif (kind : Int) == 3 && (x.k : Int) == 1 then [] else [x]
def zqc (kind : Nat) (l : List Tr) : Tr := bif (l.length : Int) == 0 then emptyT else bif (l.length : Int) == 1 then l.headD emptyT else .mk kind 0#256 0 0 l
def zeg (kind : Nat) (a b : Tr) : Tr := zqc kind (zbd kind [a, b])
theorem zeu (kind : Nat) : ∀ l : List Tr, (zai (zbd kind l)).length ≤ (zai l).length
 | [] => by simp [zbd, zai]
 | x :: l => by
  have h := zeu kind l
  have hx := zhb x
  rw [zbd, List.flatMap_cons, zbi, List.length_append, zai, List.length_append]
  have h2 : (zai (bif (x.k : Int) == kind then x.l else bif (kind : Int) == 3 && (x.k : Int) == 1 then [] else [x])).length ≤ (pre x).length := by
   cases (x.k : Int) == kind <;> cases (kind : Int) == 3 && (x.k : Int) == 1 <;> simp [zai] <;> omega
  rw [zbd] at h
  omega
theorem zzs (kind : Nat) (l : List Tr) (i : Nat) (hi : i < l.length) : zbd kind (l.take (i + 1)) = zbd kind (l.take i) ++ (bif (l[i].k : Int) == kind then l[i].l else bif (kind : Int) == 3 && (l[i].k : Int) == 1 then [] else [l[i]]) := by
 rw [List.take_succ_eq_append_getElem hi, zbd, List.flatMap_append]; simp [zbd]
theorem zp1 (kind : Nat) (l : List Tr) (i : Nat) : (zbd kind (l.take i)).length ≤ (zai l).length := by
 refine Nat.le_trans (zag _) (Nat.le_trans (zeu _ _) ?_)
 conv => rhs; rw [← List.take_append_drop i l]
 rw [zbi, List.length_append]; omega
def bsOf (l : List Nat) : BS := l.foldl (fun s b => s ||| (1#256 <<< b)) 0#256
def zq1 (l : List Nat) : Tr := .mk 2 (bsOf l) 0 0 []
def zq7 : Nat → List Nat
 | 0 => [97] | 1 => [98] | 2 => [97, 98] | 3 => [97] | 4 => [98] | 5 => [99] | 6 => [97, 98, 99] | 7 => [98, 99] | 8 => [10] | 9 => [0, 255] | 10 => [97] | _ => [98]
abbrev Sm := Nat × Nat × Nat
abbrev MSt := List Tr × Int × Int
def kI (x : Sm) : Int := ((x.1 % 12 : Nat) : Int)
def zeb (p : List Tr) (i : Nat) : Tr := p[p.length - i]?.getD emptyT
def cA (p : List Tr) (x : Sm) : Bool := decide (kI x < 7) && decide ((p.length : Int) > 1)
def cB (p : List Tr) (x : Sm) : Bool := decide (kI x < 9) && decide ((p.length : Int) > 1)
def cC (p : List Tr) (g : Int) (x : Sm) : Bool := kI x == 9 && decide ((p.length : Int) > 0) && decide (g < 9)
def cD (p : List Tr) (x : Sm) : Bool := decide (kI x > 9) && decide ((p.length : Int) > 0) && ((zeb p 1).k : Int) != 1
def loM (x : Sm) : Int := ((x.2.1 % 3 : Nat) : Int)
def m4 (x : Sm) : Int := ((x.2.2 % 4 : Nat) : Int)
def badM (x : Sm) : Bool := decide (m4 x < loM x) || m4 x == 0 || loM x == 1 && m4 x == 1
def moM (x : Sm) : Int := bif badM x then -1 else m4 x
def tmM (x : Sm) : Int := max (max (loM x) (moM x)) 1
def znj (st : MSt) (x : Sm) : MSt :=
 bif decide (kI x < 4) then (st.1 ++ [zq1 (zq7 (x.2.1 % 12))], st.2.1, st.2.2)
 else bif kI x == 4 then (st.1 ++ [emptyT], st.2.1, st.2.2)
 else bif cA st.1 x then (st.1.take (st.1.length - 2) ++ [zeg 3 (zeb st.1 2) (zeb st.1 1)], st.2.1, st.2.2)
 else bif cB st.1 x then (st.1.take (st.1.length - 2) ++ [zeg 4 (zeb st.1 2) (zeb st.1 1)], st.2.1, st.2.2)
 else bif cC st.1 st.2.2 x then (st.1.set (st.1.length - 1) (.mk 6 0#256 0 0 [zeb st.1 1]), st.2.1, st.2.2 + 1)
 else bif cD st.1 x then (bif decide (st.2.1 * tmM x ≤ 16) then (st.1.set (st.1.length - 1) (.mk 5 0#256 (loM x) (moM x) [zeb st.1 1]), st.2.1 * tmM x, st.2.2) else st)
 else st
def MM (l : List Sm) (i : Nat) : MSt := (l.take i).foldl znj ([], 1, 0)
def z8l (p : List Tr) : Tr := match p with
 | [] => zq1 [97]
 | x :: r => r.foldl (zeg 4) x
def zkr (l : List Sm) : Tr := z8l (MM (l.take 25) 25).1
theorem zw7 (l : List Sm) (i : Nat) (hi : i < l.length) : MM l (i + 1) = znj (MM l i) l[i] := by
 rw [MM, List.take_succ_eq_append_getElem hi, List.foldl_append]; rfl
theorem zjg (kind : Nat) (a b : Tr) : (pre (zeg kind a b)).length ≤ (pre a).length + (pre b).length + 1 := by
 have h := zeu kind [a, b]
 simp only [zai, List.append_nil, List.length_append] at h
 rw [zeg, zqc]
 obtain ⟨l, hl⟩ : ∃ l, zbd kind [a, b] = l := ⟨_, rfl⟩
 rw [hl] at h ⊢
 match l, h with
 | [], _ => simp [emptyT, pre, zai]
 | [x], h => simp [zai] at h ⊢; omega
 | x :: y :: l, h =>
  have e1 : (((x :: y :: l).length : Int) == 0) = false := by simp; omega
  have e2 : (((x :: y :: l).length : Int) == 1) = false := by simp; omega
  rw [e1, e2]
  simp only [cond_false, pre, List.length_cons]
  omega
theorem zg3 {p : List Tr} {i : Nat} (h0 : 0 < i) (h : i ≤ p.length) : zeb p i = p[p.length - i]'(by omega) := by
 rw [zeb, List.getElem?_eq_getElem (by omega)]; rfl
theorem zli {p : List Tr} (h : 2 ≤ p.length) : (zai (p.take (p.length - 2))).length + (pre (zeb p 2)).length + (pre (zeb p 1)).length = (zai p).length := by
 rw [zg3 (by omega) h, zg3 (by omega) (by omega)]
 conv => rhs; rw [← List.take_append_drop (p.length - 2) p]
 rw [zbi, List.length_append, List.drop_eq_getElem_cons (by omega), show p.length - 2 + 1 = p.length - 1 by omega, List.drop_eq_getElem_cons (by omega), show p.length - 1 + 1 = p.length by omega, List.drop_length]
 simp [zai]; omega
theorem zyj {p : List Tr} {y : Tr} (h : 0 < p.length) : (zai (p.set (p.length - 1) y)).length + (pre (zeb p 1)).length = (zai p).length + (pre y).length := by
 rw [zg3 (by omega) h]
 rw [List.set_eq_take_append_cons_drop, if_pos (by omega), show p.length - 1 + 1 = p.length by omega, List.drop_length, zbi, List.length_append]
 conv => rhs; rw [← List.take_append_drop (p.length - 1) p]
 rw [zbi, List.length_append, List.drop_eq_getElem_cons (by omega), show p.length - 1 + 1 = p.length by omega, List.drop_length]
 simp [zai]; omega
theorem z1n (x : Sm) : 1 ≤ tmM x ∧ tmM x ≤ 3 := by
 have h1 : x.2.1 % 3 < 3 := Nat.mod_lt _ (by decide)
 have h2 : x.2.2 % 4 < 4 := Nat.mod_lt _ (by decide)
 unfold tmM moM
 have h3 : loM x ≤ 2 := by unfold loM; omega
 have h4 : m4 x ≤ 3 := by unfold m4; omega
 cases badM x <;> simp only [cond_true, cond_false] <;> omega
theorem z2x (st : MSt) (x : Sm) (i : Nat) (h : (zai st.1).length ≤ i ∧ 0 ≤ st.2.2 ∧ st.2.2 ≤ 9 ∧ 1 ≤ st.2.1 ∧ st.2.1 ≤ 16) :
 (zai (znj st x).1).length ≤ i + 1 ∧ 0 ≤ (znj st x).2.2 ∧ (znj st x).2.2 ≤ 9 ∧ 1 ≤ (znj st x).2.1 ∧ (znj st x).2.1 ≤ 16 := by
 obtain ⟨h1, h2, h3, h4, h5⟩ := h
 unfold znj
 cases decide (kI x < 4)
 ·cases kI x == 4
  ·cases hA : cA st.1 x
   ·cases hB : cB st.1 x
    ·cases hC : cC st.1 st.2.2 x
     ·cases hD : cD st.1 x
      ·simp only [cond_false]; omega
      ·simp only [cond_false, cond_true]
       cases hT : decide (st.2.1 * tmM x ≤ 16)
       ·simp only [cond_false]; omega
       ·simp only [cond_true]
        have hp : 0 < st.1.length := by
         unfold cD at hD
         simp only [Bool.and_eq_true, decide_eq_true_eq] at hD; omega
        have e := zyj (p := st.1) (y := .mk 5 0#256 (loM x) (moM x) [zeb st.1 1]) hp
        rw [zh3] at e
        have := (z1n x).1
        have h6 : 1 ≤ st.2.1 * tmM x := by
         have := Int.mul_le_mul h4 this (by omega) (by omega); omega
        simp only [decide_eq_true_eq] at hT
        exact ⟨by omega, by omega, by omega, h6, hT⟩
     ·simp only [cond_false, cond_true]
      unfold cC at hC
      simp only [Bool.and_eq_true, decide_eq_true_eq] at hC
      have e := zyj (p := st.1) (y := .mk 6 0#256 0 0 [zeb st.1 1]) (by omega)
      rw [zh3] at e
      omega
    ·simp only [cond_false, cond_true]
     unfold cB at hB
     simp only [Bool.and_eq_true, decide_eq_true_eq] at hB
     have e := zli (p := st.1) (by omega)
     have e2 := zjg 4 (zeb st.1 2) (zeb st.1 1)
     rw [zbi, List.length_append]
     simp only [zai, List.append_nil]; omega
   ·simp only [cond_false, cond_true]
    unfold cA at hA
    simp only [Bool.and_eq_true, decide_eq_true_eq] at hA
    have e := zli (p := st.1) (by omega)
    have e2 := zjg 3 (zeb st.1 2) (zeb st.1 1)
    rw [zbi, List.length_append]
    simp only [zai, List.append_nil]; omega
  ·simp only [cond_false, cond_true]
   rw [zbi, List.length_append]
   simp [zai, emptyT, pre]; omega
 ·simp only [cond_true]
  rw [zbi, List.length_append]
  simp [zai, zq1, pre]; omega
theorem invM (l : List Sm) : ∀ i, i ≤ l.length → (zai (MM l i).1).length ≤ i ∧ 0 ≤ (MM l i).2.2 ∧ (MM l i).2.2 ≤ 9 ∧ 1 ≤ (MM l i).2.1 ∧ (MM l i).2.1 ≤ 16
 | 0, _ => by simp [MM, zai]
 | i + 1, h => by
  rw [zw7 l i (by omega)]
  exact z2x _ _ i (invM l i (by omega))
def smc (x : Sm) : List AV := [.raw (.int .u8 x.1), .raw (.int .u8 x.2.1), .raw (.int .u8 x.2.2)]
def z8f : List Sm → List AV
 | [] => []
 | x :: l => smc x ++ z8f l
def z41 (p : List Tr) (i : Nat) : Tr := match p with
 | [] => emptyT
 | x :: r => (r.take i).foldl (zeg 4) x
theorem zvw {p : List Tr} {i : Nat} (h : i + 1 < p.length) : z41 p (i + 1) = zeg 4 (z41 p i) p[i + 1] := by
 cases p with
 | nil => simp at h
 | cons x r =>
  have hi : i < r.length := by simpa using h
  simp only [z41, List.take_succ_eq_append_getElem hi, List.foldl_append, List.foldl_cons, List.foldl_nil, List.getElem_cons_succ]
theorem z4p {p : List Tr} (hp : p ≠ []) : ∀ i, i < p.length → (pre (z41 p i)).length ≤ (zai (p.take (i + 1))).length + i
 | 0, _ => by
  cases p with
  | nil => exact absurd rfl hp
  | cons x r => simp [z41, zai]
 | i + 1, h => by
  rw [zvw h]
  have h1 := zjg 4 (z41 p i) p[i + 1]
  have h2 := z4p hp i (by omega)
  rw [List.take_succ_eq_append_getElem h, zbi, List.length_append]
  simp only [zai, List.append_nil]; omega
theorem zm4 (p : List Tr) (i : Nat) : (zai (p.take i)).length ≤ (zai p).length := by
 conv => rhs; rw [← List.take_append_drop i p]
 rw [zbi, List.length_append]; omega
theorem z6u {p : List Tr} (hp : p ≠ []) : z41 p (p.length - 1) = z8l p := by
 cases p with
 | nil => exact absurd rfl hp
 | cons x r => simp [z41, z8l]
def aT := zq1 [97]
def bT := zq1 [98]
def cT := zq1 [99]
def CR (t : Tr) : Prop := (pre t).all zcm = true
def CRL (l : List Tr) : Prop := (zai l).all zcm = true
theorem zcg : CRL [] := by simp [CRL, zai]
theorem zap (t : Tr) (l : List Tr) : CRL (t :: l) ↔ CR t ∧ CRL l := by simp [CRL, CR, zai]
theorem zcn (a b : List Tr) : CRL (a ++ b) ↔ CRL a ∧ CRL b := by simp [CRL, zbi]
theorem zcq : ∀ l : List Tr, CRL l ↔ ∀ t ∈ l, CR t
 | [] => by simp [zcg]
 | t :: l => by rw [zap, zcq l]; simp
theorem zbm (t : Tr) : CR t ↔ zcm t = true ∧ CRL t.l := by rw [CR, zc8, List.all_cons, Bool.and_eq_true]; rfl
theorem zew {t : Tr} {k : Nat} : zpy t k = false ↔ ∀ y ∈ t.l, y.k ≠ k := by simp [zpy]
theorem z2w {l : List Tr} (h : 1 < l.length) (h1 : ∀ t ∈ l, t.k ≠ 1 ∧ t.k ≠ 3) : zcm (.mk 3 0#256 0 0 l) = true := by
 have e1 : zpy (.mk 3 0#256 0 0 l) 1 = false := zew.2 fun y hy => (h1 y hy).1
 have e3 : zpy (.mk 3 0#256 0 0 l) 3 = false := zew.2 fun y hy => (h1 y hy).2
 simp [zct, zg7, e1, e3]; omega
theorem zty {l : List Tr} (h : 1 < l.length) (h1 : ∀ t ∈ l, t.k ≠ 4) : zcm (.mk 4 0#256 0 0 l) = true := by
 have e1 : zpy (.mk 4 0#256 0 0 l) 4 = false := zew.2 fun y hy => h1 y hy
 simp [zct, zg7, e1]; omega
theorem zkw {t : Tr} {lo hi : Int} (h : t.k ≠ 1) (hb : zb4 lo hi = true) : zcm (.mk 5 0#256 lo hi [t]) = true := by
 have e1 : zpy (.mk 5 0#256 lo hi [t]) 1 = false := zew.2 fun y hy => by simp [Tr.l] at hy; subst hy; exact h
 simp [zct, zg7, e1, hb]
theorem zuc (t : Tr) : zcm (.mk 6 0#256 0 0 [t]) = true := by simp [zct, zg7]
theorem zgo : zcm emptyT = true := by simp [emptyT, zct, zg7]
theorem zow {t : Tr} (h : zcm t = true) : t.k = 1 ∨ t.k = 2 ∨ t.k = 3 ∨ t.k = 4 ∨ t.k = 5 ∨ t.k = 6 := by
 cases t with
 | mk k s mn mx l =>
  rw [zct] at h
  simp only [Tr.k]
  by_cases h1 : k = 1; · exact .inl h1
  by_cases h2 : k = 2; · exact .inr (.inl h2)
  by_cases h3 : k = 3; · exact .inr (.inr (.inl h3))
  by_cases h4 : k = 4; · exact .inr (.inr (.inr (.inl h4)))
  by_cases h5 : k = 5; · exact .inr (.inr (.inr (.inr (.inl h5))))
  by_cases h6 : k = 6; · exact .inr (.inr (.inr (.inr (.inr h6))))
  exfalso
  have e : ∀ n : Nat, k ≠ n → ((k : Int) == n) = false := fun n hn => by simp; omega
  rw [show ((k : Int) == 1) = false from e 1 h1, show ((k : Int) == 2) = false from e 2 h2, show ((k : Int) == 3) = false from e 3 h3, show ((k : Int) == 4) = false from e 4 h4, show ((k : Int) == 5) = false from e 5 h5, show ((k : Int) == 6) = false from e 6 h6] at h
  simp at h
theorem zkf {t : Tr} (h : zcm t = true) (hk : t.k = 3) : 1 < t.l.length ∧ ∀ y ∈ t.l, y.k ≠ 1 ∧ y.k ≠ 3 := by
 cases t with
 | mk k s mn mx l =>
  simp only [Tr.k] at hk; subst hk
  rw [zct] at h
  simp only [Bool.and_eq_true, Bool.not_eq_true'] at h
  have h2 := h.2
  simp only [show ((((3 : Nat) : Int)) == 1) = false from rfl, show ((((3 : Nat) : Int)) == 2) = false from rfl, show ((((3 : Nat) : Int)) == 3) = true from rfl, cond_false, cond_true, Bool.and_eq_true, Bool.not_eq_true', decide_eq_true_eq] at h2
  exact ⟨by simp only [Tr.l]; omega, fun y hy => ⟨zew.1 h2.1.2 y hy, zew.1 h2.2 y hy⟩⟩
theorem zdj {t : Tr} (h : zcm t = true) (hk : t.k = 4) : 1 < t.l.length ∧ ∀ y ∈ t.l, y.k ≠ 4 := by
 cases t with
 | mk k s mn mx l =>
  simp only [Tr.k] at hk; subst hk
  rw [zct] at h
  simp only [Bool.and_eq_true, Bool.not_eq_true'] at h
  have h2 := h.2
  simp only [show ((((4 : Nat) : Int)) == 1) = false from rfl, show ((((4 : Nat) : Int)) == 2) = false from rfl, show ((((4 : Nat) : Int)) == 3) = false from rfl, show ((((4 : Nat) : Int)) == 4) = true from rfl, cond_false, cond_true, Bool.and_eq_true, Bool.not_eq_true', decide_eq_true_eq] at h2
  exact ⟨by simp only [Tr.l]; omega, fun y hy => zew.1 h2.2 y hy⟩
theorem zw9 (t : Tr) (h5 : t.k ≠ 5) (h2 : t.k ≠ 2) : zmx t = min (zfx t.l) 10001 := by
 cases t with
 | mk k s mn mx l => simp only [Tr.k] at h5 h2; simp [zmx, h5, h2, Tr.l]
theorem zcc : ∀ a b, zfx (a ++ b) = zfx a + zfx b
 | [], b => by simp [zfx]
 | x :: a, b => by rw [List.cons_append, zfx, zfx, zcc a b]; omega
theorem zq3 : zmx emptyT = 0 := by simp [emptyT, zmx, zfx]; rfl
theorem zyf (l : List Nat) : zmx (zq1 l) = 1 := by simp [zq1, zmx, zfx]; rfl
def grT (t : Tr) : Nat := (pre t).countP fun x => decide (x.k = 6)
def grL (l : List Tr) : Nat := (zai l).countP fun x => decide (x.k = 6)
theorem zd1 : grL [] = 0 := by simp [grL, zai]
theorem zcb (t : Tr) (l : List Tr) : grL (t :: l) = grT t + grL l := by simp [grL, grT, zai]
theorem zdg (a b : List Tr) : grL (a ++ b) = grL a + grL b := by simp [grL, zbi]
theorem z7y (t : Tr) : grT t = grL t.l + (if t.k = 6 then 1 else 0) := by rw [grT, zc8, List.countP_cons]; simp [grL]
theorem z2f (k : Nat) (s : BS) (mn mx : Int) (l : List Tr) : grT (.mk k s mn mx l) = grL l + (if k = 6 then 1 else 0) := z7y _
theorem zub : grT emptyT = 0 := by simp [emptyT, grT, pre, zai, Tr.k]
theorem z4f (l : List Nat) : grT (zq1 l) = 0 := by simp [zq1, grT, pre, zai, Tr.k]
theorem z14 (kind : Nat) : zbd kind [] = [] := rfl
theorem zd6 (kind : Nat) (x : Tr) (l : List Tr) : zbd kind (x :: l) = (bif (x.k : Int) == kind then x.l else bif (kind : Int) == 3 && (x.k : Int) == 1 then [] else [x]) ++ zbd kind l := by simp [zbd]
def G3 (l : List Tr) : Prop := CRL l ∧ ∀ y ∈ l, y.k ≠ 1 ∧ y.k ≠ 3
def G4 (l : List Tr) : Prop := CRL l ∧ ∀ y ∈ l, y.k ≠ 4
theorem zhe : ∀ {l : List Tr}, CRL l → G3 (zbd 3 l)
 | [], _ => ⟨zcg, by simp [zbd]⟩
 | x :: l, h => by
  rw [zap] at h
  obtain ⟨g1, g2⟩ := zhe h.2
  have hx := (zbm x).1 h.1
  rw [zd6]
  by_cases h3 : x.k = 3
  ·have e : ((x.k : Int) == ((3 : Nat) : Int)) = true := by simp [h3]
   rw [e, cond_true]
   refine ⟨(zcn _ _).2 ⟨hx.2, g1⟩, fun y hy => ?_⟩
   rcases List.mem_append.1 hy with hy | hy
   ·exact (zkf hx.1 h3).2 y hy
   ·exact g2 y hy
  ·have e : ((x.k : Int) == ((3 : Nat) : Int)) = false := by simp; omega
   rw [e, cond_false]
   by_cases h1 : x.k = 1
   ·have e1 : ((((3 : Nat) : Int) == 3) && ((x.k : Int) == 1)) = true := by simp [h1]
    rw [e1, cond_true, List.nil_append]; exact ⟨g1, g2⟩
   ·have e1 : ((((3 : Nat) : Int) == 3) && ((x.k : Int) == 1)) = false := by simp; omega
    rw [e1, cond_false, List.singleton_append]
    refine ⟨(zap _ _).2 ⟨h.1, g1⟩, fun y hy => ?_⟩
    rcases List.mem_cons.1 hy with rfl | hy
    ·exact ⟨h1, h3⟩
    ·exact g2 y hy
theorem zfg : ∀ {l : List Tr}, CRL l → G4 (zbd 4 l)
 | [], _ => ⟨zcg, by simp [zbd]⟩
 | x :: l, h => by
  rw [zap] at h
  obtain ⟨g1, g2⟩ := zfg h.2
  have hx := (zbm x).1 h.1
  rw [zd6]
  by_cases h3 : x.k = 4
  ·have e : ((x.k : Int) == ((4 : Nat) : Int)) = true := by simp [h3]
   rw [e, cond_true]
   refine ⟨(zcn _ _).2 ⟨hx.2, g1⟩, fun y hy => ?_⟩
   rcases List.mem_append.1 hy with hy | hy
   ·exact (zdj hx.1 h3).2 y hy
   ·exact g2 y hy
  ·have e : ((x.k : Int) == ((4 : Nat) : Int)) = false := by simp; omega
   have e1 : ((((4 : Nat) : Int) == 3) && ((x.k : Int) == 1)) = false := by simp
   rw [e, cond_false, e1, cond_false, List.singleton_append]
   refine ⟨(zap _ _).2 ⟨h.1, g1⟩, fun y hy => ?_⟩
   rcases List.mem_cons.1 hy with rfl | hy
   ·exact h3
   ·exact g2 y hy
theorem zfm (kind : Nat) (x : Tr) : zqc kind [x] = x := rfl
theorem zd5 (kind : Nat) (x y : Tr) (l : List Tr) : zqc kind (x :: y :: l) = .mk kind 0#256 0 0 (x :: y :: l) := by
 have e1 : (((x :: y :: l).length : Int) == 0) = false := by simp; omega
 have e2 : (((x :: y :: l).length : Int) == 1) = false := by simp; omega
 rw [zqc, e1, e2]; rfl
theorem zr0 : ∀ {l : List Tr}, G3 l → CR (zqc 3 l)
 | [], _ => (zbm _).2 ⟨zgo, zcg⟩
 | [x], h => (zcq _).1 h.1 x (by simp)
 | x :: y :: l, h => by rw [zd5]; exact (zbm _).2 ⟨z2w (by simp) h.2, h.1⟩
theorem ztb : ∀ {l : List Tr}, G4 l → CR (zqc 4 l)
 | [], _ => (zbm _).2 ⟨zgo, zcg⟩
 | [x], h => (zcq _).1 h.1 x (by simp)
 | x :: y :: l, h => by rw [zd5]; exact (zbm _).2 ⟨zty (by simp) h.2, h.1⟩
theorem z1a {a b : Tr} (ha : CR a) (hb : CR b) : CR (zeg 3 a b) := zr0 (zhe ((zcq _).2 (by simp [ha, hb])))
theorem zu4 {a b : Tr} (ha : CR a) (hb : CR b) : CR (zeg 4 a b) := ztb (zfg ((zcq _).2 (by simp [ha, hb])))
theorem zu2 (kind : Nat) (hk : kind = 3 ∨ kind = 4) : ∀ l : List Tr, zfx l ≤ 10000 → zfx (zbd kind l) ≤ zfx l
 | [], _ => by simp [zbd, zfx]
 | x :: l, h => by
  rw [zfx] at h
  have h1 := zj0 x
  have h2 := zer l
  have ih := zu2 kind hk l (by omega)
  rw [zd6, zcc, zfx]
  have : zfx (bif (x.k : Int) == kind then x.l else bif (kind : Int) == 3 && (x.k : Int) == 1 then [] else [x]) ≤ zmx x := by
   cases e : (x.k : Int) == kind
   ·rw [cond_false]
    cases (kind : Int) == 3 && (x.k : Int) == 1
    ·simp [zfx]
    ·simp [zfx]; omega
   ·rw [cond_true]
    have e' : x.k = kind := by simp at e; omega
    have := zw9 x (by omega) (by omega)
    omega
  omega
theorem z7m (kind : Nat) (hk : kind = 3 ∨ kind = 4) : ∀ l : List Tr, zmx (zqc kind l) ≤ zfx l
 | [] => by rw [show zqc kind [] = emptyT from rfl, zq3]; simp [zfx]
 | [x] => by rw [zfm]; simp [zfx]
 | x :: y :: l => by
  rw [zd5, zw9 _ (by simp only [Tr.k]; omega) (by simp only [Tr.k]; omega)]
  simp only [Tr.l]; omega
theorem zo7 (kind : Nat) (hk : kind = 3 ∨ kind = 4) {a b : Tr} (h : zmx a + zmx b ≤ 10000) : zmx (zeg kind a b) ≤ zmx a + zmx b := by
 have h0 : zfx [a, b] = zmx a + zmx b := by simp [zfx]
 have h1 := zu2 kind hk [a, b] (by omega)
 have h2 := z7m kind hk (zbd kind [a, b])
 rw [zeg]; omega
theorem zyu (kind : Nat) (hk : kind = 3 ∨ kind = 4) : ∀ l : List Tr, CRL l → grL (zbd kind l) ≤ grL l
 | [], _ => by simp [zbd]
 | x :: l, h => by
  rw [zap] at h
  have ih := zyu kind hk l h.2
  rw [zd6, zdg, zcb]
  have : grL (bif (x.k : Int) == kind then x.l else bif (kind : Int) == 3 && (x.k : Int) == 1 then [] else [x]) ≤ grT x := by
   cases e : (x.k : Int) == kind
   ·rw [cond_false]
    cases (kind : Int) == 3 && (x.k : Int) == 1
    ·rw [cond_false, zcb, zd1]; omega
    ·rw [cond_true, zd1]; omega
   ·rw [cond_true]
    have := z7y x; omega
  omega
theorem endJ_gr (kind : Nat) (hk : kind = 3 ∨ kind = 4) : ∀ l : List Tr, grT (zqc kind l) ≤ grL l
 | [] => by rw [show zqc kind [] = emptyT from rfl, zub]; omega
 | [x] => by rw [zfm, zcb]; omega
 | x :: y :: l => by
  rw [zd5, z2f, if_neg (by omega)]; omega
theorem zrl (kind : Nat) (hk : kind = 3 ∨ kind = 4) {a b : Tr} (ha : CR a) (hb : CR b) : grT (zeg kind a b) ≤ grT a + grT b := by
 have h1 := zyu kind hk [a, b] ((zcq _).2 (by simp [ha, hb]))
 have h2 := endJ_gr kind hk (zbd kind [a, b])
 simp only [zcb, zd1] at h1
 rw [zeg]; omega
structure OkM (st : MSt) (i : Nat) : Prop where
 cr : CRL st.1
 pos : zfx st.1 ≤ (i : Int) * st.2.1
 gr : (grL st.1 : Int) ≤ st.2.2
theorem zqy {p : List Tr} (h : 0 < p.length) : p = p.take (p.length - 1) ++ [zeb p 1] := by
 rw [zg3 (by omega) (by omega)]
 conv => lhs; rw [← List.take_append_drop (p.length - 1) p]
 rw [List.drop_eq_getElem_cons (by omega), List.drop_of_length_le (by omega)]
theorem zts {p : List Tr} (h : 2 ≤ p.length) : p = p.take (p.length - 2) ++ [zeb p 2, zeb p 1] := by
 rw [zg3 (i := 2) (by omega) (by omega), zg3 (i := 1) (by omega) (by omega)]
 conv => lhs; rw [← List.take_append_drop (p.length - 2) p]
 rw [List.drop_eq_getElem_cons (by omega), List.drop_eq_getElem_cons (by omega), List.drop_of_length_le (by omega)]
 simp only [show p.length - 2 + 1 = p.length - 1 by omega]
theorem zy1 {p : List Tr} (h : 0 < p.length) (y : Tr) : p.set (p.length - 1) y = p.take (p.length - 1) ++ [y] := by
 rw [List.set_eq_take_append_cons_drop, if_pos (by omega), List.drop_of_length_le (by omega)]
theorem z2o : ∀ j, j < 12 → zcm (zq1 (zq7 j)) = true := by decide +kernel
theorem z8b {j : Nat} (h : j < 12) : CR (zq1 (zq7 j)) := (zbm _).2 ⟨z2o j h, zcg⟩
theorem z21 (x : Sm) : zb4 (loM x) (moM x) = true := by
 have h1 : x.2.1 % 3 < 3 := Nat.mod_lt _ (by decide)
 have h2 : x.2.2 % 4 < 4 := Nat.mod_lt _ (by decide)
 unfold moM badM loM m4
 generalize x.2.1 % 3 = a at *
 generalize x.2.2 % 4 = b at *
 have key : ∀ a, a < 3 → ∀ b, b < 4 → zb4 ((a : Nat) : Int) (bif decide (((b : Nat) : Int) < (a : Int)) || (b : Int) == 0 || (a : Int) == 1 && (b : Int) == 1 then -1 else (b : Int)) = true := by decide
 exact key a h1 b h2
theorem zws (x : Sm) (t : Tr) : zmx (.mk 5 0#256 (loM x) (moM x) [t]) ≤ zmx t * tmM x := by
 have h1 : x.2.1 % 3 < 3 := Nat.mod_lt _ (by decide)
 have h2 : x.2.2 % 4 < 4 := Nat.mod_lt _ (by decide)
 have h0 := zj0 t
 have hlo : 0 ≤ loM x := by unfold loM; omega
 have hf : min (if moM x = -1 then max (max (loM x) 0) 1 else max (max (loM x) 0) (moM x)) 10001 ≤ tmM x := by
  unfold tmM
  split
  ·rename_i e; rw [e]; omega
  ·omega
 have hm := Int.mul_le_mul_of_nonneg_left hf h0
 simp only [zmx, zfx, if_true, if_neg (show ¬ (5 = 2) by decide), Int.add_zero, Int.zero_add]
 omega
theorem z5h {st : MSt} {i : Nat} (x : Sm) (h : OkM st i) (hi : i ≤ 25) (hv : 0 ≤ st.2.2 ∧ st.2.2 ≤ 9 ∧ 1 ≤ st.2.1 ∧ st.2.1 ≤ 16) : OkM (znj st x) (i + 1) := by
 obtain ⟨c, p, g⟩ := h
 obtain ⟨v1, v2, v3, v4⟩ := hv
 have e0 : ((i + 1 : Nat) : Int) * st.2.1 = (i : Int) * st.2.1 + st.2.1 := by rw [Int.natCast_add, Int.add_mul]; simp
 have e400 : (i : Int) * st.2.1 ≤ 400 := by
  have := Int.mul_le_mul (show (i : Int) ≤ 25 by omega) v4 (by omega) (by omega)
  omega
 have c0 := (zcq _).1 c
 unfold znj
 cases decide (kI x < 4)
 ·cases kI x == 4
  ·cases hA : cA st.1 x
   ·cases hB : cB st.1 x
    ·cases hC : cC st.1 st.2.2 x
     ·cases hD : cD st.1 x
      ·simp only [cond_false]; exact ⟨c, by omega, g⟩
      ·simp only [cond_false, cond_true]
       cases hT : decide (st.2.1 * tmM x ≤ 16)
       ·simp only [cond_false]; exact ⟨c, by omega, g⟩
       ·simp only [cond_true]
        unfold cD at hD
        simp only [Bool.and_eq_true, decide_eq_true_eq, bne_iff_ne, ne_eq] at hD
        have hp : 0 < st.1.length := by omega
        have es := zqy hp
        rw [zy1 hp]
        rw [es, zcn, zap] at c
        rw [es, zcc] at p
        rw [es, zdg, zcb, zd1] at g
        simp only [zfx, Int.add_zero] at p
        refine ⟨(zcn _ _).2 ⟨c.1, (zap _ _).2 ⟨(zbm _).2 ⟨zkw (by omega) (z21 x), (zap _ _).2 ⟨c.2.1, zcg⟩⟩, zcg⟩⟩, ?_, ?_⟩
        ·have h1 := zws x (zeb st.1 1)
         have h2 := zer (st.1.take (st.1.length - 1))
         have h3 := (z1n x).1
         rw [zcc]
         simp only [zfx, Int.add_zero]
         have h4 := Int.mul_le_mul_of_nonneg_right p (show 0 ≤ tmM x by omega)
         have h5 := Int.mul_le_mul_of_nonneg_left h3 h2
         rw [Int.add_mul] at h4
         have e1 : ((i + 1 : Nat) : Int) * (st.2.1 * tmM x) = (i : Int) * st.2.1 * tmM x + st.2.1 * tmM x := by
          rw [Int.natCast_add, Int.add_mul, Int.mul_assoc]; simp
         have h6 : 0 ≤ st.2.1 * tmM x := Int.mul_nonneg (by omega) (by omega)
         rw [e1]; omega
        ·dsimp only; rw [zdg, zcb, zd1, z2f, zcb, zd1, if_neg (by decide)]; omega
     ·simp only [cond_false, cond_true]
      unfold cC at hC
      simp only [Bool.and_eq_true, decide_eq_true_eq] at hC
      have hp : 0 < st.1.length := by omega
      have es := zqy hp
      rw [zy1 hp]
      rw [es, zcn, zap] at c
      rw [es, zcc] at p
      rw [es, zdg, zcb, zd1] at g
      simp only [zfx, Int.add_zero] at p
      refine ⟨(zcn _ _).2 ⟨c.1, (zap _ _).2 ⟨(zbm _).2 ⟨zuc _, (zap _ _).2 ⟨c.2.1, zcg⟩⟩, zcg⟩⟩, ?_, ?_⟩
      ·rw [zcc, zfx, zw9 _ (by simp only [Tr.k]; omega) (by simp only [Tr.k]; omega)]
       simp only [Tr.l, zfx, Int.add_zero]; omega
      ·dsimp only; rw [zdg, zcb, zd1, z2f, zcb, zd1, if_pos rfl]; omega
    ·simp only [cond_false, cond_true]
     unfold cB at hB
     simp only [Bool.and_eq_true, decide_eq_true_eq] at hB
     have hp : 2 ≤ st.1.length := by omega
     have es := zts hp
     rw [es, zcn, zap, zap] at c
     rw [es, zcc] at p
     rw [es, zdg, zcb, zcb, zd1] at g
     simp only [zfx, Int.add_zero] at p
     have n0 := zer (st.1.take (st.1.length - 2))
     refine ⟨(zcn _ _).2 ⟨c.1, (zap _ _).2 ⟨zu4 c.2.1 c.2.2.1, zcg⟩⟩, ?_, ?_⟩
     ·have := zo7 4 (.inr rfl) (a := zeb st.1 2) (b := zeb st.1 1) (by omega)
      rw [zcc]; simp only [zfx, Int.add_zero]; omega
     ·dsimp only; have := zrl 4 (.inr rfl) c.2.1 c.2.2.1
      rw [zdg, zcb, zd1]; omega
   ·simp only [cond_false, cond_true]
    unfold cA at hA
    simp only [Bool.and_eq_true, decide_eq_true_eq] at hA
    have hp : 2 ≤ st.1.length := by omega
    have es := zts hp
    rw [es, zcn, zap, zap] at c
    rw [es, zcc] at p
    rw [es, zdg, zcb, zcb, zd1] at g
    simp only [zfx, Int.add_zero] at p
    have n0 := zer (st.1.take (st.1.length - 2))
    refine ⟨(zcn _ _).2 ⟨c.1, (zap _ _).2 ⟨z1a c.2.1 c.2.2.1, zcg⟩⟩, ?_, ?_⟩
    ·have := zo7 3 (.inl rfl) (a := zeb st.1 2) (b := zeb st.1 1) (by omega)
     rw [zcc]; simp only [zfx, Int.add_zero]; omega
    ·dsimp only; have := zrl 3 (.inl rfl) c.2.1 c.2.2.1
     rw [zdg, zcb, zd1]; omega
  ·simp only [cond_false, cond_true]
   refine ⟨(zcn _ _).2 ⟨c, (zap _ _).2 ⟨(zbm _).2 ⟨zgo, zcg⟩, zcg⟩⟩, ?_, ?_⟩
   ·rw [zcc]; simp only [zfx, zq3]; omega
   ·dsimp only; rw [zdg, zcb, zd1, zub]; omega
 ·simp only [cond_true]
  refine ⟨(zcn _ _).2 ⟨c, (zap _ _).2 ⟨z8b (Nat.mod_lt _ (by decide)), zcg⟩⟩, ?_, ?_⟩
  ·rw [zcc]; simp only [zfx, zyf]; omega
  ·dsimp only; rw [zdg, zcb, zd1, z4f]; omega
theorem okM (l : List Sm) (hl : l.length ≤ 25) : ∀ i, i ≤ l.length → OkM (MM l i) i
 | 0, _ => ⟨by simp [MM]; exact zcg, by simp [MM, zfx], by simp [MM, zd1]⟩
 | i + 1, h => by
  rw [zw7 l i (by omega)]
  have := invM l i (by omega)
  exact z5h _ (okM l hl i (by omega)) (by omega) ⟨this.2.1, this.2.2.1, this.2.2.2.1, this.2.2.2.2⟩
theorem z1y : ∀ (r : List Tr) (x : Tr), CR x → CRL r → zmx x + zfx r ≤ 400 →
 CR (r.foldl (zeg 4) x) ∧ zmx (r.foldl (zeg 4) x) ≤ zmx x + zfx r ∧ grT (r.foldl (zeg 4) x) ≤ grT x + grL r ∧ (pre (r.foldl (zeg 4) x)).length ≤ (pre x).length + (zai r).length + r.length
 | [], x, h, _, _ => by simp [zfx, zd1, zai, h]
 | y :: r, x, h, hr, hp => by
  rw [zap] at hr
  rw [zfx] at hp
  have n1 := zer r
  have j1 := zo7 4 (.inr rfl) (a := x) (b := y) (by omega)
  have j2 := zrl 4 (.inr rfl) h hr.1
  have j3 := zjg 4 x y
  obtain ⟨k1, k2, k3, k4⟩ := z1y r (zeg 4 x y) (zu4 h hr.1) hr.2 (by omega)
  rw [List.foldl_cons, zfx, zcb, zai, List.length_append, List.length_cons]
  exact ⟨k1, by omega, by omega, by omega⟩
theorem made_ok (l : List Sm) : CR (zkr l) ∧ zmx (zkr l) ≤ 400 ∧ grT (zkr l) ≤ 9 ∧ (pre (zkr l)).length ≤ 50 := by
 obtain ⟨m, hm⟩ : ∃ m, l.take 25 = m := ⟨_, rfl⟩
 have hlen : m.length ≤ 25 := by rw [← hm, List.length_take]; omega
 rw [zkr, hm]
 have e : MM m 25 = MM m m.length := by rw [MM, MM, List.take_of_length_le hlen, List.take_length]
 rw [e]
 have o := okM m hlen m.length (Nat.le_refl _)
 have v := invM m m.length (Nat.le_refl _)
 obtain ⟨c, p, g⟩ := o
 have p400 : zfx (MM m m.length).1 ≤ 400 := by
  have := Int.mul_le_mul (show (m.length : Int) ≤ 25 by omega) v.2.2.2.2 (by omega) (by omega)
  omega
 match h : (MM m m.length).1 with
 | [] => exact ⟨z8b (j := 0) (by decide), by rw [z8l, zyf]; omega, by rw [z8l, z4f]; omega, by simp [z8l, zq1, pre, zai]⟩
 | x :: r =>
  rw [h] at c p400 g v
  rw [zap] at c
  rw [zfx] at p400
  rw [zcb] at g
  have hv := v.1
  rw [zai, List.length_append] at hv
  obtain ⟨k1, k2, k3, k4⟩ := z1y r x c.1 c.2 (by omega)
  have hr := zag r
  rw [z8l]
  exact ⟨k1, by omega, by omega, by omega⟩
theorem zfk {t : Tr} (h : CR t) (hl : (pre t).length ≤ 10000) : zbj t = true := by
 rw [zbj, zcl, Bool.and_eq_true]; exact ⟨by simpa using hl, h⟩
theorem zz7 (lo hi : Int) : zb4 lo hi = true ↔ (0 ≤ lo ∧ lo ≤ 16 ∧ ¬ (lo = 1 ∧ hi = 1)) ∧ (hi = -1 ∨ (1 ≤ hi ∧ hi ≤ 16 ∧ lo ≤ hi)) := by simp [zb4]; omega
structure MT (t : Tr) : Prop where
 cr : CR t
 pos : zmx t ≤ 400
 gr : grT t ≤ 9
 len : (pre t).length ≤ 50
theorem MT.clean {t : Tr} (h : MT t) : zbj t = true := zfk h.cr (by have := h.len; omega)
theorem MT.light {t : Tr} (h : MT t) : zcl t = true := by have := h.len; simp [zcl]; omega
theorem MT.good {t : Tr} (h : MT t) : zjz t = true := by rw [zjz, h.clean, Bool.or_true]
theorem MT.k0 {t : Tr} (h : MT t) : t.k ≠ 0 := by have := zow ((zbm t).1 h.cr).1; omega
theorem z1t (l : List Sm) : MT (zkr l) := by obtain ⟨h1, h2, h3, h4⟩ := made_ok l; exact ⟨h1, h2, h3, h4⟩
theorem zpc {t : Tr} (h : zcl t = true) : zfc t t = true := by rw [zfc, h, (zho t t).2 rfl]; rfl
theorem flatT3 (l : List Tr) : zgn 3 1 l = zbd 3 l := by
 unfold zgn zbd
 congr 1
theorem z7z : ∀ {l : List Tr}, (∀ t ∈ l, t.k ≠ 0) → zgn 4 0 l = zbd 4 l
 | [], _ => rfl
 | x :: l, h => by
  have ih := z7z (l := l) fun t ht => h t (List.mem_cons_of_mem _ ht)
  have e0 : ((x.k : Int) == ((0 : Nat) : Int)) = false := by have := h x (by simp); simp; omega
  rw [zd6, ← ih, zgn, List.flatMap_cons, ← zgn, e0]
  rfl
def CS (n : Nat) (t : Tr) : Prop := CR t ∧ (pre t).length ≤ n
theorem MT.cs {t : Tr} (h : MT t) : CS 50 t := ⟨h.cr, h.len⟩
theorem CR.k0 {t : Tr} (h : CR t) : t.k ≠ 0 := by have := zow ((zbm t).1 h).1; omega
theorem z72 {t : Tr} (h : CR t) (hk : t.k = 1) : t = emptyT := by
 have hr := ((zbm t).1 h).1
 cases t with
 | mk k s mn mx l =>
  simp only [Tr.k] at hk; subst hk
  rw [zct, zg7] at hr
  simp only [Bool.and_eq_true, Bool.not_eq_true', Bool.or_eq_false_iff] at hr
  obtain ⟨⟨⟨h1, h2⟩, h3⟩, _⟩ := hr
  simp at h1 h2 h3
  have hl : l = [] := by cases l with | nil => rfl | cons x l => simp at h3
  rw [h1, h2.1, h2.2, hl]; rfl
theorem zno (kind : Nat) : ∀ l : List Tr, (pre (zqc kind l)).length ≤ (zai l).length + 1
 | [] => by rw [show zqc kind [] = emptyT from rfl]; simp [emptyT, pre, zai]
 | [x] => by rw [zfm]; simp [zai]
 | x :: y :: l => by rw [zd5, pre, List.length_cons]; omega
theorem zga {t : Tr} (h : zbj t = true) : zd8 t = t := by rw [zd8, if_pos h]
theorem z1k {l : List Tr} (h : CRL l) (hl : (zai l).length ≤ 1000) : zj9 l = zqc 3 (zbd 3 l) := by
 have hc := (zcq l).1 h
 have hln : ∀ t ∈ l, (pre t).length ≤ 1000 := fun t ht => by
  have : ∀ (l : List Tr), t ∈ l → (pre t).length ≤ (zai l).length := by
   intro l
   induction l with
   | nil => intro h; cases h
   | cons y l ih =>
    intro h
    rw [zai, List.length_append]
    rcases List.mem_cons.1 h with rfl | h
    ·omega
    ·have := ih h; omega
  have := this l ht; omega
 have ha : (l.any fun x => (x.k : Int) == 0 || !zbj x) = false := by
  rw [List.any_eq_false]
  intro x hx
  have h1 := zfk (hc x hx) (by have := hln x hx; omega)
  have h2 := (hc x hx).k0
  simp [h1]; omega
 rw [zj9, ha, if_neg (by decide), flatT3]
 have g := zhe h
 have hfl := zeu 3 l
 have hend := zno 3 (zbd 3 l)
 have hcr := zr0 g
 revert hend hcr
 generalize zbd 3 l = m at g hfl
 intro hend hcr
 match m, g, hend, hcr with
 | [], _, _, _ => rfl
 | [x], _, hend, hcr =>
  rw [zfm] at hend hcr ⊢
  show zd8 x = x
  exact zga (zfk hcr (by omega))
 | x :: y :: m, _, hend, hcr =>
  rw [zd5] at hend hcr ⊢
  have e1 : (((x :: y :: m).length : Int) == 0) = false := by simp; omega
  have e2 : (((x :: y :: m).length : Int) == 1) = false := by simp; omega
  rw [zj5, e1, e2]
  exact zga (zfk hcr (by omega))
theorem znp {l : List Tr} (h : CRL l) (hl : l ≠ []) : zbd 4 l ≠ [] := by
 cases l with
 | nil => exact absurd rfl hl
 | cons x l =>
  rw [zap] at h
  rw [zd6]
  by_cases h4 : x.k = 4
  ·have e : ((x.k : Int) == ((4 : Nat) : Int)) = true := by simp [h4]
   rw [e, cond_true]
   have hlen := (zdj ((zbm x).1 h.1).1 h4).1
   intro hn
   have h1 := (List.append_eq_nil_iff.1 hn).1
   rw [h1] at hlen
   simp at hlen
  ·have e : ((x.k : Int) == ((4 : Nat) : Int)) = false := by simp; omega
   have e1 : ((((4 : Nat) : Int) == 3) && ((x.k : Int) == 1)) = false := by simp
   rw [e, cond_false, e1, cond_false]
   simp
theorem z3k {l : List Tr} (h : CRL l) (hne : l ≠ []) (hl : (zai l).length ≤ 1000) : orT l = zqc 4 (zbd 4 l) := by
 have hc := (zcq l).1 h
 have hln : ∀ t ∈ l, (pre t).length ≤ 1000 := fun t ht => by
  have : ∀ (l : List Tr), t ∈ l → (pre t).length ≤ (zai l).length := by
   intro l
   induction l with
   | nil => intro h; cases h
   | cons y l ih =>
    intro h
    rw [zai, List.length_append]
    rcases List.mem_cons.1 h with rfl | h
    ·omega
    ·have := ih h; omega
  have := this l ht; omega
 have ha : (l.any fun x => !zjz x) = false := by
  rw [List.any_eq_false]
  intro x hx
  have h1 := zfk (hc x hx) (by have := hln x hx; omega)
  rw [zjz, h1]; simp
 rw [orT, ha, if_neg (by decide), z7z fun t ht => (hc t ht).k0]
 have g := zfg h
 have hn := znp h hne
 have hfl := zeu 4 l
 have hend := zno 4 (zbd 4 l)
 have hcr := ztb g
 revert hend hcr hn
 generalize zbd 4 l = m at g hfl
 intro hn hend hcr
 match m, g, hend, hcr, hn with
 | [], _, _, _, hn => exact absurd rfl hn
 | [x], _, hend, hcr, _ =>
  rw [zfm] at hend hcr ⊢
  show zd8 x = x
  exact zga (zfk hcr (by omega))
 | x :: y :: m, _, hend, hcr, _ =>
  rw [zd5] at hend hcr ⊢
  have e1 : (((x :: y :: m).length : Int) == 0) = false := by simp; omega
  have e2 : (((x :: y :: m).length : Int) == 1) = false := by simp; omega
  rw [zj5, e1, e2]
  exact zga (zfk hcr (by omega))
def z6r (c : Int) : List AV := [.raw (.int .u8 c)]
theorem zwi : ∀ j : Nat, j < 256 → zsb .u8 (j : Int) 6 = ((j / 64 : Nat) : Int) ∧ z1v .u8 (j : Int) 63 = ((j % 64 : Nat) : Int) ∧ IntKind.u8.wrap (j : Int) = (j : Int) := by decide +kernel
theorem ztx {n : Nat} (h : n < 2 ^ 64) : IntKind.u64.wrap (n : Int) = (n : Int) := by
 simp only [IntKind.wrap, IntKind.bits, IntKind.signed]
 simp; omega
theorem zym (w : BitVec 64) : IntKind.u64.wrap ((w.toNat : Nat) : Int) = ((w.toNat : Nat) : Int) := ztx w.isLt
theorem zsu (x : BitVec 64) : BitVec.ofInt 64 ((x.toNat : Nat) : Int) = x := by
 apply BitVec.eq_of_toNat_eq; simp
theorem orI64 (x y : BitVec 64) : orI .u64 (x.toNat : Int) (y.toNat : Int) = ((x ||| y).toNat : Int) := by
 show IntKind.u64.wrap (((BitVec.ofInt 64 (x.toNat : Int) ||| BitVec.ofInt 64 (y.toNat : Int)).toNat : Nat) : Int) = _
 rw [zsu, zsu]; exact zym _
theorem z4c (x y : BitVec 64) : zl3 .u64 (x.toNat : Int) (y.toNat : Int) = ((x &&& ~~~ y).toNat : Int) := by
 show IntKind.u64.wrap (((BitVec.ofInt 64 (x.toNat : Int) &&& ~~~ BitVec.ofInt 64 (y.toNat : Int)).toNat : Nat) : Int) = _
 rw [zsu, zsu]; exact zym _
theorem wd_or (a b : BS) (i : Nat) : orI .u64 (wd a i) (wd b i) = wd (a ||| b) i := by
 unfold wd
 rw [orI64]
 have : W64 a i ||| W64 b i = W64 (a ||| b) i := by
  apply BitVec.eq_of_getLsbD_eq
  intro j hj
  simp only [W64, BitVec.getLsbD_or, BitVec.getLsbD_extractLsb', hj, decide_true, Bool.true_and]
 rw [this]
theorem zr4 (a b : BS) (i : Nat) (hi : i < 4) : zl3 .u64 (wd a i) (wd b i) = wd (a &&& ~~~ b) i := by
 unfold wd
 rw [z4c]
 have : W64 a i &&& ~~~ W64 b i = W64 (a &&& ~~~ b) i := by
  apply BitVec.eq_of_getLsbD_eq
  intro j hj
  simp only [W64, BitVec.getLsbD_and, BitVec.getLsbD_not, BitVec.getLsbD_extractLsb', hj, decide_true, Bool.true_and]
  have : 64 * i + j < 256 := by omega
  simp [this]
 rw [this]
theorem z49 (w : BitVec 64) (r : Nat) (hr : r < 64) : (z1v .u64 (zsb .u64 ((w.toNat : Nat) : Int) (r : Int)) 1 == 1) = w.getLsbD r := by
 have hw := w.isLt
 have h1 : zsb .u64 ((w.toNat : Nat) : Int) (r : Int) = ((w.toNat / 2 ^ r : Nat) : Int) := by
  unfold zsb
  rw [show min (r : Int).toNat IntKind.u64.bits = r from by simp [IntKind.bits]; omega]
  rw [Int.fdiv_eq_ediv_of_nonneg _ (by exact_mod_cast Nat.zero_le _)]
  norm_cast
 rw [h1]
 have h2 : w.toNat / 2 ^ r < 2 ^ 64 := Nat.lt_of_le_of_lt (Nat.div_le_self _ _) hw
 show (IntKind.u64.wrap (((BitVec.ofInt 64 ((w.toNat / 2 ^ r : Nat) : Int) &&& BitVec.ofInt 64 1).toNat : Nat) : Int) == 1) = _
 have h3 : (BitVec.ofInt 64 ((w.toNat / 2 ^ r : Nat) : Int) &&& BitVec.ofInt 64 1).toNat = w.toNat / 2 ^ r % 2 := by
  rw [BitVec.toNat_and]
  have e1 : (BitVec.ofInt 64 ((w.toNat / 2 ^ r : Nat) : Int)).toNat = w.toNat / 2 ^ r := by
   rw [BitVec.ofInt_natCast, BitVec.toNat_ofNat]; exact Nat.mod_eq_of_lt h2
  have e2 : (BitVec.ofInt 64 1).toNat = 1 := rfl
  rw [e1, e2, Nat.and_one_is_mod]
 rw [h3]
 have h4 : w.toNat / 2 ^ r % 2 < 2 := Nat.mod_lt _ (by decide)
 have h5 : IntKind.u64.wrap ((w.toNat / 2 ^ r % 2 : Nat) : Int) = ((w.toNat / 2 ^ r % 2 : Nat) : Int) := ztx (Nat.lt_trans h4 (by decide))
 rw [h5, BitVec.getLsbD, Nat.testBit_eq_decide_div_mod_eq]
 generalize w.toNat / 2 ^ r % 2 = m
 rw [Bool.eq_iff_iff]; simp only [beq_iff_eq, decide_eq_true_eq]; omega
def elN (s : BS) (i : Nat) : List Nat := (List.range i).filter fun j => s.getLsbD j
def els (s : BS) : List Int := (elN s 256).map fun (j : Nat) => (j : Int)
theorem zzo (s : BS) (i : Nat) : elN s (i + 1) = elN s i ++ (if s.getLsbD i = true then [i] else []) := by
 rw [elN, List.range_succ, List.filter_append]; simp [elN, List.filter_cons]
theorem z2a (s : BS) {i : Nat} (h : s.getLsbD i = true) : ∀ k, i < k → (elN s k)[(elN s i).length]? = some i
 | 0, hk => by omega
 | k + 1, hk => by
  rw [zzo]
  by_cases e : i = k
  ·subst e; rw [if_pos h]; simp
  ·have ih := z2a s h k (by omega)
   rw [List.getElem?_append_left (List.getElem?_eq_some_iff.1 ih).1]; exact ih
def zka (x y : Int) : Int := if x < y then -1 else if x > y then 1 else 0
def zqz (p q : Nat → Bool) : List Nat → Int
 | [] => 0
 | j :: l => if p j = q j then zqz p q l else if p j = true then -1 else 1
def cmpS (s t : BS) : Int := zqz s.getLsbD t.getLsbD (List.range 256)
theorem zu0 (p q : Nat → Bool) : ∀ l, zqz p q l = - zqz q p l
 | [] => rfl
 | j :: l => by
  rw [zqz, zqz]
  by_cases h : p j = q j
  ·rw [if_pos h, if_pos h.symm, zu0 p q l]
  ·rw [if_neg h, if_neg (Ne.symm h)]
   cases hp : p j <;> cases hq : q j <;> simp_all
theorem zq8 (p q : Nat → Bool) : ∀ l, zqz p q l = -1 ∨ zqz p q l = 0 ∨ zqz p q l = 1
 | [] => .inr (.inl rfl)
 | j :: l => by
  rw [zqz]
  split
  ·exact zq8 p q l
  ·split
   ·exact .inl rfl
   ·exact .inr (.inr rfl)
theorem zul (p q : Nat → Bool) : ∀ l, zqz p q l = 0 ↔ ∀ j ∈ l, p j = q j
 | [] => by simp [zqz]
 | j :: l => by
  rw [zqz]
  by_cases h : p j = q j
  ·rw [if_pos h, zul p q l]; simp [h]
  ·rw [if_neg h]
   constructor
   ·intro e; split at e <;> simp at e
   ·intro e; exact absurd (e j (by simp)) h
theorem zrg (p q r : Nat → Bool) : ∀ l, zqz p q l ≤ 0 → zqz q r l ≤ 0 → zqz p r l ≤ 0
 | [], _, _ => by simp [zqz]
 | j :: l, h1, h2 => by
  rw [zqz] at h1 h2 ⊢
  have ih := zrg p q r l
  cases hp : p j <;> cases hq : q j <;> cases hr : r j <;> simp [hp, hq, hr] at h1 h2 ⊢ <;> first | exact ih h1 h2 | skip
theorem z3p (s t : BS) : cmpS s t = 0 ↔ s = t := by
 rw [cmpS, zul]
 constructor
 ·intro h; apply BitVec.eq_of_getLsbD_eq; intro j hj; exact h j (List.mem_range.2 hj)
 ·rintro rfl j _; rfl
theorem z0k (p q : Nat → Bool) (d : Nat → Bool) (l : List Nat) (hd : ∀ j ∈ l, d j = (p j != q j)) : zqz p q l = (match l.filter d with | [] => 0 | c :: _ => if p c = true then -1 else 1) := by
 induction l with
 | nil => rfl
 | cons j l ih =>
  have h := hd j (by simp)
  rw [zqz, List.filter_cons]
  by_cases e : p j = q j
  ·rw [if_pos e, if_neg (by rw [h, e]; simp)]
   exact ih fun k hk => hd k (by simp [hk])
  ·have hb : d j = true := by rw [h]; simpa using e
   rw [if_neg e, hb]; rfl
def zdt (c d : Int) : Int := if c ≠ 0 then c else d
def zxr (mx : Int) : Int := if mx = -1 then 9223372036854775807 else mx
mutual
def zf1 : Tr → Tr → Int
 | .mk k s mn mx l, .mk k' s' mn' mx' l' => if k ≠ k' then zka k k' else if k = 2 then cmpS s s' else if k = 5 then zdt (zdt (zka mn mn') (zka (zxr mx) (zxr mx'))) (zhv l l') else if k = 0 ∨ k = 1 then 0 else zhv l l'
def zhv : List Tr → List Tr → Int
 | [], [] => 0
 | [], _ :: _ => -1
 | _ :: _, [] => 1
 | x :: a, y :: b => zdt (zf1 x y) (zhv a b)
end
theorem zor (x y : Int) : zka x y = - zka y x := by unfold zka; split <;> split <;> (try split) <;> omega
theorem zmj (x y : Int) : zka x y = -1 ∨ zka x y = 0 ∨ zka x y = 1 := by unfold zka; split <;> (try split) <;> simp
theorem zo2 (x y : Int) : zka x y = 0 ↔ x = y := by unfold zka; split <;> (try split) <;> omega
theorem zon (x y : Int) : zka x y ≤ 0 ↔ x ≤ y := by unfold zka; split <;> (try split) <;> omega
theorem zj8 {c d : Int} (h : c = -1 ∨ c = 0 ∨ c = 1) (k : d = -1 ∨ d = 0 ∨ d = 1) : zdt c d = -1 ∨ zdt c d = 0 ∨ zdt c d = 1 := by unfold zdt; split <;> assumption
theorem zls {c d c' d' : Int} (h : c = -c') (k : d = -d') : zdt c d = - zdt c' d' := by unfold zdt; split <;> split <;> omega
theorem zl6 {c d : Int} : zdt c d = 0 ↔ c = 0 ∧ d = 0 := by unfold zdt; split <;> omega
theorem zpp {m m' m'' d d' d'' : Int} (h : d ≤ 0 → d' ≤ 0 → d'' ≤ 0) : zdt (zka m m') d ≤ 0 → zdt (zka m' m'') d' ≤ 0 → zdt (zka m m'') d'' ≤ 0 := by
 unfold zdt zka
 repeat' split
 all_goals first | omega | (intro h1 h2; first | omega | exact h h1 h2)
theorem zwd {xy yx yz zy xz zx d d' d'' : Int} (a1 : xy = -yx) (a2 : yz = -zy) (a3 : xz = -zx) (t1 : xy ≤ 0 → yz ≤ 0 → xz ≤ 0) (t2 : yz ≤ 0 → zx ≤ 0 → yx ≤ 0) (t3 : zx ≤ 0 → xy ≤ 0 → zy ≤ 0) (h : d ≤ 0 → d' ≤ 0 → d'' ≤ 0) :
 zdt xy d ≤ 0 → zdt yz d' ≤ 0 → zdt xz d'' ≤ 0 := by
 unfold zdt
 intro h1 h2
 split at h1 <;> split at h2 <;> split <;> first | omega | exact h h1 h2
def SetG (S : Tr → Prop) : Prop := (∀ x y, S x → S y → zf1 x y = - zf1 y x) ∧ (∀ x y z, S x → S y → S z → zf1 x y ≤ 0 → zf1 y z ≤ 0 → zf1 x z ≤ 0)
theorem zur {S : Tr → Prop} (g : SetG S) : ∀ a b, (∀ x ∈ a, S x) → (∀ x ∈ b, S x) → zhv a b = - zhv b a
 | [], [], _, _ => by simp [zhv]
 | [], _ :: _, _, _ => by simp [zhv]
 | _ :: _, [], _, _ => by simp [zhv]
 | x :: a, y :: b, ha, hb => by
  rw [zhv, zhv]
  exact zls (g.1 x y (ha x (by simp)) (hb y (by simp))) (zur g a b (fun z hz => ha z (by simp [hz])) (fun z hz => hb z (by simp [hz])))
theorem zqs {S : Tr → Prop} (g : SetG S) : ∀ a b c, (∀ x ∈ a, S x) → (∀ x ∈ b, S x) → (∀ x ∈ c, S x) → zhv a b ≤ 0 → zhv b c ≤ 0 → zhv a c ≤ 0
 | [], b, [], _, _, _ => by intros; simp [zhv]
 | [], b, _ :: _, _, _, _ => by intros; simp [zhv]
 | x :: a, [], c, _, _, _ => by intro h; simp [zhv] at h
 | x :: a, y :: b, [], _, _, _ => by intro _ h; simp [zhv] at h
 | x :: a, y :: b, z :: c, ha, hb, hc => by
  rw [zhv, zhv, zhv]
  have sx := ha x (by simp); have sy := hb y (by simp); have sz := hc z (by simp)
  exact zwd (g.1 x y sx sy) (g.1 y z sy sz) (g.1 x z sx sz) (g.2 x y z sx sy sz) (fun h1 h2 => g.2 y z x sy sz sx h1 h2) (fun h1 h2 => g.2 z x y sz sx sy h1 h2)
   (zqs g a b c (fun w hw => ha w (by simp [hw])) (fun w hw => hb w (by simp [hw])) (fun w hw => hc w (by simp [hw])))
theorem zwv : ∀ n, SetG fun t => (pre t).length ≤ n
 | 0 => ⟨fun x y h => by have h : (pre x).length ≤ 0 := h; rw [zc8] at h; simp at h, fun x y z h => by have h : (pre x).length ≤ 0 := h; rw [zc8] at h; simp at h⟩
 | n + 1 => by
  have g := zwv n
  have sub : ∀ t : Tr, (pre t).length ≤ n + 1 → ∀ x ∈ t.l, (pre x).length ≤ n := fun t h x hx => by
   have h1 := zbr hx
   rw [zc8] at h; simp at h; omega
  constructor
  ·rintro ⟨k, s, mn, mx, l⟩ ⟨k', s', mn', mx', l'⟩ h1 h2
   have s1 := sub _ h1
   have s2 := sub _ h2
   simp only [Tr.l] at s1 s2
   have hl := zur g l l' s1 s2
   rw [zf1, zf1]
   by_cases e : k = k'
   ·subst e
    simp only [ne_eq, not_true_eq_false, if_false]
    split
    ·exact zu0 _ _ _
    split
    ·exact zls (zls (zor _ _) (zor _ _)) hl
    split
    ·rfl
    ·exact hl
   ·rw [if_pos e, if_pos (Ne.symm e)]; exact zor _ _
  ·rintro ⟨k, s, mn, mx, l⟩ ⟨k', s', mn', mx', l'⟩ ⟨k'', s'', mn'', mx'', l''⟩ h1 h2 h3
   have s1 := sub _ h1
   have s2 := sub _ h2
   have s3 := sub _ h3
   simp only [Tr.l] at s1 s2 s3
   have hl := zqs g l l' l'' s1 s2 s3
   rw [zf1, zf1, zf1]
   by_cases e : k = k'
   ·subst e
    by_cases e2 : k = k''
    ·subst e2
     simp only [ne_eq, not_true_eq_false, if_false]
     split
     ·exact zrg _ _ _ _
     split
     ·rename_i h5
      have key : ∀ (a b c a' b' c' : Int) (d d' d'' : Int), (d ≤ 0 → d' ≤ 0 → d'' ≤ 0) → zdt (zdt (zka a b) (zka a' b')) d ≤ 0 → zdt (zdt (zka b c) (zka b' c')) d' ≤ 0 → zdt (zdt (zka a c) (zka a' c')) d'' ≤ 0 := by
       intro a b c a' b' c' d d' d'' h
       have asc : ∀ x y z : Int, zdt (zdt x y) z = zdt x (zdt y z) := fun x y z => by
        unfold zdt
        by_cases hx : x = 0
        ·simp [hx]
        ·simp [hx]
       rw [asc, asc, asc]
       exact zpp (zpp h)
      exact key _ _ _ _ _ _ _ _ _ hl
     split
     ·intros; omega
     ·exact hl
    ·intro _ h
     rw [if_pos (by simpa using e2)] at h ⊢
     rw [zon] at h ⊢; exact h
   ·rw [if_pos (show k ≠ k' from e)]
    intro h
    rw [zon] at h
    by_cases e2 : k' = k''
    ·subst e2
     intro _
     rw [if_pos (show k ≠ k' from e)]
     rw [zon]; exact h
    ·rw [if_pos (show k' ≠ k'' from e2)]
     intro h'
     rw [zon] at h'
     rw [if_pos (show k ≠ k'' by omega), zon]; omega
theorem zel (x y : Tr) : zf1 x y = - zf1 y x := (zwv (max (pre x).length (pre y).length)).1 x y (Nat.le_max_left _ _) (Nat.le_max_right _ _)
theorem ze4 (x y z : Tr) : zf1 x y ≤ 0 → zf1 y z ≤ 0 → zf1 x z ≤ 0 := (zwv ((pre x).length + (pre y).length + (pre z).length)).2 x y z (by omega) (by omega) (by omega)
theorem zsn (x : Tr) : zf1 x x = 0 := by have := zel x x; omega
mutual
theorem z0n : ∀ x y, zf1 x y = -1 ∨ zf1 x y = 0 ∨ zf1 x y = 1
 | .mk k s mn mx l, .mk k' s' mn' mx' l' => by
  rw [zf1]
  have hl := zqp l l'
  split
  ·exact zmj _ _
  split
  ·exact zq8 _ _ _
  split
  ·exact zj8 (zj8 (zmj _ _) (zmj _ _)) hl
  split
  ·exact .inr (.inl rfl)
  ·exact hl
theorem zqp : ∀ a b, zhv a b = -1 ∨ zhv a b = 0 ∨ zhv a b = 1
 | [], [] => by simp [zhv]
 | [], _ :: _ => by simp [zhv]
 | _ :: _, [] => by simp [zhv]
 | x :: a, y :: b => by rw [zhv]; exact zj8 (z0n x y) (zqp a b)
end
theorem zv5 {k : Nat} {s : BS} {mn mx : Int} {l : List Tr} (h : zcm (.mk k s mn mx l) = true) : (k ≠ 2 → s = 0#256) ∧ (k ≠ 5 → mn = 0 ∧ mx = 0) ∧ (k < 3 → l = []) ∧ (k = 5 → mx = -1 ∨ (1 ≤ mx ∧ mx ≤ 16)) := by
 have hk := zow h
 simp only [Tr.k] at hk
 rw [zct, Bool.and_eq_true, zg7] at h
 obtain ⟨h1, h2⟩ := h
 simp only [Bool.not_eq_true', Bool.or_eq_false_iff, Bool.and_eq_false_iff] at h1
 obtain ⟨⟨a, b⟩, c⟩ := h1
 refine ⟨fun h => ?_, fun h => ?_, fun h => ?_, fun h => ?_⟩
 ·rcases a with a | a
  ·simp at a; omega
  ·simpa using a
 ·rcases b with b | b
  ·simp at b; omega
  ·simp at b; exact b
 ·rcases c with c | c
  ·simp at c; omega
  ·cases l with
   | nil => rfl
   | cons x l => simp at c
 ·subst h
  simp [zb4] at h2
  have := h2.1.2
  omega
mutual
theorem zv2 : ∀ x y, CR x → CR y → zf1 x y = 0 → x = y
 | .mk k s mn mx l, .mk k' s' mn' mx' l', hx, hy, h => by
  rw [zbm] at hx hy
  simp only [Tr.l] at hx hy
  obtain ⟨a1, a2, a3, a4⟩ := zv5 hx.1
  obtain ⟨b1, b2, b3, b4⟩ := zv5 hy.1
  have hk := zow hx.1
  simp only [Tr.k] at hk
  rw [zf1] at h
  by_cases e : k = k'
  ·subst e
   simp only [ne_eq, not_true_eq_false, if_false] at h
   split at h
   ·rename_i h2
    rw [(z3p s s').1 h, (a2 (by omega)).1, (a2 (by omega)).2, (b2 (by omega)).1, (b2 (by omega)).2, a3 (by omega), b3 (by omega)]
   split at h
   ·rename_i h2 h5
    rw [zl6, zl6, zo2, zo2] at h
    have a5 := a4 h5
    have b5 := b4 h5
    have hm : mx = mx' := by
     have := h.1.2
     unfold zxr at this
     split at this <;> split at this <;> omega
    rw [a1 h2, b1 h2, h.1.1, hm, zwo l l' hx.2 hy.2 h.2]
   split at h
   ·rename_i h2 h5 h0
    rw [a1 h2, b1 h2, (a2 h5).1, (a2 h5).2, (b2 h5).1, (b2 h5).2, a3 (by omega), b3 (by omega)]
   ·rename_i h2 h5 h0
    rw [a1 h2, b1 h2, (a2 h5).1, (a2 h5).2, (b2 h5).1, (b2 h5).2, zwo l l' hx.2 hy.2 h]
  ·rw [if_pos e, zo2] at h; omega
theorem zwo : ∀ a b, CRL a → CRL b → zhv a b = 0 → a = b
 | [], [], _, _, _ => rfl
 | [], _ :: _, _, _, h => by simp [zhv] at h
 | _ :: _, [], _, _, h => by simp [zhv] at h
 | x :: a, y :: b, ha, hb, h => by
  rw [zap] at ha hb
  rw [zhv, zl6] at h
  rw [zv2 x y ha.1 hb.1 h.1, zwo a b ha.2 hb.2 h.2]
end
def zve (t : Tr) : List AV := [.raw (.int .u8 t.k), .raw (.int .u64 (wd t.s 0)), .raw (.int .u64 (wd t.s 1)), .raw (.int .u64 (wd t.s 2)), .raw (.int .u64 (wd t.s 3)), .raw (.int .i64 t.mn), .raw (.int .i64 t.mx), .list t.l.length (cellsL t.l) .none]
theorem zo5 (t : Tr) : cells t = zve t := z7b t
instance : Enc Tr where
 inh := noneT
 cells := zve
 cellsL := cellsL
 sz := 8
 pos := by decide
 nil := by simp [cellsL]
 cons a l := by rw [cellsL, zo5]
 len _ := rfl
 clo t := by rw [← zo5]; exact zui t
theorem enc_eq (t : Tr) : enc t = .agg (Enc.cells t) := by rw [enc, zo5]; rfl
theorem z0m {E : Int} (g : 0 ≤ E) (s : BS) (mn mx : Int) (l : List Tr) : AV.agg (Enc.cells (Tr.mk (Int.toNat E) s mn mx l)) = .agg [.raw (.int .u8 E), .raw (.int .u64 (wd s 0)), .raw (.int .u64 (wd s 1)), .raw (.int .u64 (wd s 2)), .raw (.int .u64 (wd s 3)), .raw (.int .i64 mn), .raw (.int .i64 mx), .list l.length (cellsL l) .none] := by
 show AV.agg (zve _) = _
 simp only [zve, Tr.k, Tr.s, Tr.mn, Tr.mx, Tr.l, Int.toNat_of_nonneg g]
def zbf (t : Tr) (st : Room) : AV := .agg [.raw (.int .u8 t.k), .raw (.int .u64 (wd t.s 0)), .raw (.int .u64 (wd t.s 1)), .raw (.int .u64 (wd t.s 2)), .raw (.int .u64 (wd t.s 3)), .raw (.int .i64 t.mn), .raw (.int .i64 t.mx), .list t.l.length (cellsL t.l) st]
theorem zi (t : Tr) (st : Room) : zb7 (zbf t st) = .agg (Enc.cells t) := by
 simp only [zbf, zb7, stripL, zgw]; rfl
def z7q (s : BS) : List AV := [.raw (.int .u64 (wd s 0)), .raw (.int .u64 (wd s 1)), .raw (.int .u64 (wd s 2)), .raw (.int .u64 (wd s 3))]
instance : Enc BS where
 inh := 0#256
 cells := z7q
 cellsL l := l.flatMap z7q
 sz := 4
 pos := by decide
 nil := rfl
 cons _ _ := rfl
 len _ := rfl
 clo _ := rfl
instance : Enc Sm where
 inh := (0, 0, 0)
 cells := smc
 cellsL := z8f
 sz := 3
 pos := by decide
 nil := by simp [z8f]
 cons _ _ := by simp [z8f]
 len _ := rfl
 clo _ := rfl
structure Rgx where
 b : Bool
 e : Bool
 t : Tr
def z7w (r : Rgx) : List AV := .raw (.bool r.b) :: .raw (.bool r.e) :: zve r.t
instance : Enc Rgx where
 inh := ⟨false, false, noneT⟩
 cells := z7w
 cellsL l := l.flatMap z7w
 sz := 10
 pos := by decide
 nil := rfl
 cons _ _ := rfl
 len _ := rfl
 clo r := by have := Enc.clo r.t; exact this
def zvq (t : Tr) : List AV := [.agg (Enc.cells t)]
theorem zpm {t : Tr} (h : (pre t).length ≤ 10000) : zcl t = true := by simpa [zcl] using h
theorem zm5 {α : Type} [Enc α] {l : List α} {i : Nat} (h : i < l.length) : ix l (i : Int) = l[i] := by simp [ix, h]
def z6b (k : Int) (s : BS) (mn mx : Int) (l : List Tr) (st : Room) : AV := .agg [.raw (.int .u8 k), .raw (.int .u64 (wd s 0)), .raw (.int .u64 (wd s 1)), .raw (.int .u64 (wd s 2)), .raw (.int .u64 (wd s 3)), .raw (.int .i64 mn), .raw (.int .i64 mx), .list l.length (cellsL l) st]
theorem zpq {k : Int} (g : 0 ≤ k) (s : BS) (mn mx : Int) (l : List Tr) (st : Room) : zb7 (z6b k s mn mx l st) = .agg (Enc.cells (Tr.mk k.toNat s mn mx l)) := by
 rw [z0m g]; simp only [z6b, zb7, stripL, zgw]
end Go.Ab
