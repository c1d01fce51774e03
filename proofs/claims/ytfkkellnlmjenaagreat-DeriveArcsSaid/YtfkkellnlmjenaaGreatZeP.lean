/-
  Trees of rx: words, plain laws.
-/
import Derived.Test.YtfkkellnlmjenaaGreatZdSh
set_option linter.unusedSimpArgs false
set_option linter.unusedVariables false
namespace Go.Ab
open Go Go.RowKit Go.Fwd
abbrev BS := BitVec 256
def W64 (S : BS) (i : Nat) : BitVec 64 := S.extractLsb' (64 * i) 64
def wd (S : BS) (i : Nat) : Int := ((W64 S i).toNat : Int)
inductive Tr where
 | mk (k : Nat) (s : BS) (mn mx : Int) (l : List Tr)
def Tr.k : Tr → Nat | .mk k _ _ _ _ => k
def Tr.s : Tr → BS | .mk _ s _ _ _ => s
def Tr.mn : Tr → Int | .mk _ _ m _ _ => m
def Tr.mx : Tr → Int | .mk _ _ _ m _ => m
def Tr.l : Tr → List Tr | .mk _ _ _ _ l => l
theorem Tr.eta (t : Tr) : t = .mk t.k t.s t.mn t.mx t.l := by cases t; rfl
theorem Tr.sizeOf_l {t x : Tr} (h : x ∈ t.l) : SizeOf.sizeOf x < SizeOf.sizeOf t := by
 cases t with
 | mk k s mn mx l => simp only [Tr.l] at h; have := List.sizeOf_lt_of_mem h; simp; omega
mutual
def cells : Tr → List AV
 | .mk k s mn mx l => [.raw (.int .u8 k), .raw (.int .u64 (wd s 0)), .raw (.int .u64 (wd s 1)), .raw (.int .u64 (wd s 2)), .raw (.int .u64 (wd s 3)), .raw (.int .i64 mn), .raw (.int .i64 mx), .list l.length (cellsL l) .none]
def cellsL : List Tr → List AV
 | [] => []
 | t :: l => cells t ++ cellsL l
end
def enc (t : Tr) : AV := .agg (cells t)
theorem z2p (t : Tr) : (cells t).length = 8 := by cases t; simp [cells]
theorem qlc (t : Tr) : cells t = [.raw (.int .u8 t.k), .raw (.int .u64 (wd t.s 0)), .raw (.int .u64 (wd t.s 1)), .raw (.int .u64 (wd t.s 2)), .raw (.int .u64 (wd t.s 3)), .raw (.int .i64 t.mn), .raw (.int .i64 t.mx), .list t.l.length (cellsL t.l) .none] := by cases t; simp [cells, Tr.k, Tr.s, Tr.mn, Tr.mx, Tr.l]
theorem zna : ∀ l, (cellsL l).length = l.length * 8
 | [] => by simp [cellsL]
 | t :: l => by rw [cellsL, List.length_append, z2p, zna l, List.length_cons]; omega
theorem zsi {l : List Tr} (h : l ≠ []) : cellsL l ≠ [] := by
 intro e
 have := zna l
 rw [e] at this
 simp at this
 exact h (List.length_eq_zero_iff.1 (by omega))
mutual
theorem z1t (n : Nat) : ∀ t, zw n (cells t) = true
 | .mk k s mn mx l => by simp [cells, zw, zbc, zmx n l]
theorem zmx (n : Nat) : ∀ l, zw n (cellsL l) = true
 | [] => by simp [cellsL, zw]
 | t :: l => by
  rw [cellsL, zij, List.all_append, ← zij, ← zij, z1t n t, zmx n l]; rfl
end
mutual
theorem zqh : ∀ t, zce (cells t) = true
 | .mk k s mn mx l => by simp [cells, zce, zkn, znk l]
theorem znk : ∀ l, zce (cellsL l) = true
 | [] => by simp [cellsL, zce]
 | t :: l => by
  have h : ∀ l m : List AV, zce (l ++ m) = (zce l && zce m) := fun l m => by
   induction l with
   | nil => simp [zce]
   | cons a l ih => rw [List.cons_append, zce, zce, ih, Bool.and_assoc]
  rw [cellsL, h, zqh t, znk l]; rfl
end
mutual
theorem z5m : ∀ t, stripL (cells t) = cells t
 | .mk k s mn mx l => by simp [cells, stripL, zcs, ziu l]
theorem ziu : ∀ l, stripL (cellsL l) = cellsL l
 | [] => by simp [cellsL, stripL]
 | t :: l => by
  rw [cellsL, zlk, List.map_append, ← zlk, ← zlk, z5m t, ziu l]
end
mutual
theorem z1y (g : FZ) : ∀ t, zbi g (cells t) = cells t
 | .mk k s mn mx l => by simp [cells, zbi, zfg, zob g l]
theorem zob (g : FZ) : ∀ l, zbi g (cellsL l) = cellsL l
 | [] => by simp [cellsL, zbi]
 | t :: l => by
  have h : ∀ l m : List AV, zbi g (l ++ m) = zbi g l ++ zbi g m := fun l m => by
   induction l with
   | nil => simp [zbi]
   | cons a l ih => rw [List.cons_append, zbi, zbi, ih, List.cons_append]
  rw [cellsL, h, z1y g t, zob g l]
end
mutual
theorem z2g : ∀ t, cloL (cells t) = true
 | .mk k s mn mx l => by simp [cells, cloL, clo, zvt l]
theorem zvt : ∀ l, cloL (cellsL l) = true
 | [] => by simp [cellsL, cloL]
 | t :: l => by rw [cellsL, zey, z2g t, zvt l]; rfl
end
theorem qaq (t : Tr) : zkn (enc t) = true := by rw [enc, zkn]; exact zqh t
mutual
def pre : Tr → List Tr
 | .mk k s mn mx l => .mk k s mn mx l :: zan l
def zan : List Tr → List Tr
 | [] => []
 | t :: l => pre t ++ zan l
end
theorem zdi (t : Tr) : pre t = t :: zan t.l := by cases t; simp [pre, Tr.l]
theorem zmf : ∀ (ts : List Tr) (i : Nat) (hi : i < ts.length), (zan (ts.take (i + 1))).length = (zan (ts.take i)).length + (pre ts[i]).length
 | [], i, hi => by simp at hi
 | t :: ts, 0, hi => by simp [zan]
 | t :: ts, i + 1, hi => by
  simp only [List.take_succ_cons, zan, List.length_append, List.getElem_cons_succ, zmf ts i (by simpa using hi)]
  omega
theorem zxc (k : Nat) (s : BS) (mn mx : Int) (ts : List Tr) : (pre (.mk k s mn mx ts)).length = 1 + (zan ts).length := by simp [pre]; omega
theorem qgr : ∀ ts : List Tr, ts.length ≤ (zan ts).length
 | [] => by simp [zan]
 | t :: ts => by
  have := qgr ts
  cases t with
  | mk k s mn mx l => simp [zan, pre]; omega
theorem zgq : ∀ {ts : List Tr} {x : Tr}, x ∈ ts → (pre x).length ≤ (zan ts).length
 | [], x, h => by simp at h
 | t :: ts, x, h => by
  simp only [zan, List.length_append]
  rcases List.mem_cons.1 h with rfl | h
  ·omega
  ·have := zgq h; omega
def zdp (qbi most : Int) : Bool := !(decide (qbi < 0) || decide (qbi > 16) || decide (qbi = 1) && decide (most = 1)) && (decide (most = -1) || decide (most ≥ 1) && decide (most ≤ 16) && decide (most ≥ qbi))
def qis (s : BS) : AV := .agg [.raw (.int .u64 (wd s 0)), .raw (.int .u64 (wd s 1)), .raw (.int .u64 (wd s 2)), .raw (.int .u64 (wd s 3))]
theorem wd_inj {A B : BS} (h : ∀ i, i < 4 → wd A i = wd B i) : A = B := by
 apply BitVec.eq_of_getLsbD_eq
 intro j hj
 have h4 : j / 64 < 4 := by omega
 have h2 := h (j / 64) h4
 have h3 : W64 A (j / 64) = W64 B (j / 64) := by
  apply BitVec.eq_of_toNat_eq
  unfold wd at h2
  omega
 have h5 := congrArg (fun x : BitVec 64 => x.getLsbD (j % 64)) h3
 have hlt : j % 64 < 64 := Nat.mod_lt _ (by decide)
 simp only [W64, BitVec.getLsbD_extractLsb', hlt, decide_true, Bool.true_and] at h5
 rwa [show 64 * (j / 64) + j % 64 = j by omega] at h5
theorem qna (S T : BS) : (wd S 0 == wd T 0 && wd S 1 == wd T 1 && wd S 2 == wd T 2 && wd S 3 == wd T 3) = decide (S = T) := by
 by_cases h : S = T
 ·subst h; simp
 ·simp only [h, decide_false]
  cases hb : (wd S 0 == wd T 0 && wd S 1 == wd T 1 && wd S 2 == wd T 2 && wd S 3 == wd T 3) with
  | false => rfl
  | true =>
   simp only [Bool.and_eq_true, beq_iff_eq] at hb
   refine absurd (wd_inj fun i hi => ?_) h
   match i, hi with
   | 0, _ => exact hb.1.1.1
   | 1, _ => exact hb.1.1.2
   | 2, _ => exact hb.1.2
   | 3, _ => exact hb.2
def ztc (t : Tr) (k : Nat) : Bool := t.l.any fun y => decide (y.k = k)
def oddT (t : Tr) : Bool := ((t.k : Int) != 2 && decide (t.s ≠ 0#256)) || ((t.k : Int) != 5 && (t.mn != 0 || t.mx != 0)) || (decide ((t.k : Int) < 3) && decide ((t.l.length : Int) > 0))
def zds (t : Tr) : Bool := !oddT t && (bif (t.k : Int) == 1 then true else bif (t.k : Int) == 2 then decide (t.s ≠ 0#256) else bif (t.k : Int) == 3 then decide ((t.l.length : Int) > 1) && !ztc t 1 && !ztc t 3
 else bif (t.k : Int) == 4 then decide ((t.l.length : Int) > 1) && !ztc t 4 else bif (t.k : Int) == 5 then (t.l.length : Int) == 1 && zdp t.mn t.mx && !ztc t 1 else (t.k : Int) == 6 && (t.l.length : Int) == 1)
theorem zlh (k : Nat) (s : BS) (mn mx : Int) (ts : List Tr) : oddT (.mk k s mn mx ts) = (((k : Int) != 2 && decide (s ≠ 0#256)) || ((k : Int) != 5 && (mn != 0 || mx != 0)) || (decide ((k : Int) < 3) && decide ((ts.length : Int) > 0))) := rfl
theorem zdx (k : Nat) (s : BS) (mn mx : Int) (ts : List Tr) : zds (.mk k s mn mx ts) = (!oddT (.mk k s mn mx ts) && (bif (k : Int) == 1 then true else bif (k : Int) == 2 then decide (s ≠ 0#256) else bif (k : Int) == 3 then decide ((ts.length : Int) > 1) && !ztc (.mk k s mn mx ts) 1 && !ztc (.mk k s mn mx ts) 3
 else bif (k : Int) == 4 then decide ((ts.length : Int) > 1) && !ztc (.mk k s mn mx ts) 4 else bif (k : Int) == 5 then (ts.length : Int) == 1 && zdp mn mx && !ztc (.mk k s mn mx ts) 1 else (k : Int) == 6 && (ts.length : Int) == 1)) := rfl
def zbq (t : Tr) : Bool := decide ((pre t).length ≤ 10000)
def zcj (t : Tr) : Bool := zbq t && (pre t).all zds
def z7y (t : Tr) : Int := if zbq t = true then (pre t).length else 10001
mutual
def zkg : Tr → Int
 | .mk k s mn mx ts => min (if k = 5 then ((if k = 2 then 1 else 0) + zez ts) * min (if mx = -1 then max (max mn 0) 1 else max (max mn 0) mx) 10001 else (if k = 2 then 1 else 0) + zez ts) 10001
def zez : List Tr → Int
 | [] => 0
 | t :: l => zkg t + zez l
end
theorem zix : ∀ (t : Tr), t.l.length < (pre t).length
 | .mk k s mn mx ts => by
  have : ∀ l : List Tr, l.length ≤ (zan l).length := fun l => by
   induction l with
   | nil => simp [zan]
   | cons a l ih => rw [zan, List.length_append, List.length_cons]; rw [zdi]; simp; omega
  simp [pre, Tr.l]; have := this ts; omega
theorem zuy {t x : Tr} (h : x ∈ pre t) : (pre x).length ≤ (pre t).length := by
 have key : ∀ n, (∀ t : Tr, SizeOf.sizeOf t ≤ n → ∀ x ∈ pre t, (pre x).length ≤ (pre t).length) := by
  intro n
  induction n with
  | zero => intro t ht; cases t; simp at ht
  | succ n ih =>
   intro t ht x hx
   rw [zdi] at hx
   rcases List.mem_cons.1 hx with rfl | hx
   ·exact Nat.le_refl _
   ·have hl : ∀ l : List Tr, (∀ y ∈ l, SizeOf.sizeOf y ≤ n) → ∀ x ∈ zan l, (pre x).length ≤ (zan l).length := by
     intro l
     induction l with
     | nil => intro _ x hx; simp [zan] at hx
     | cons a l ihl =>
      intro hs x hx
      rw [zan] at hx ⊢
      rw [List.length_append]
      rcases List.mem_append.1 hx with hx | hx
      ·have := ih a (hs a (by simp)) x hx; omega
      ·have := ihl (fun y hy => hs y (by simp [hy])) x hx; omega
    have := hl t.l (fun y hy => by have := Tr.sizeOf_l hy; omega) x hx
    rw [zdi t, List.length_cons]; omega
 exact key _ t (Nat.le_refl _) x h
theorem qig (l : List Tr) (i : Nat) (hi : i < l.length) : zez (l.take (i + 1)) = zez (l.take i) + zkg l[i] := by
 have happ : ∀ a b, zez (a ++ b) = zez a + zez b := fun a b => by
  induction a with
  | nil => simp [zez]
  | cons x a ih => rw [List.cons_append, zez, zez, ih, Int.add_assoc]
 rw [List.take_succ_eq_append_getElem hi, happ]; simp [zez]
theorem qey : ∀ t, zkg t ≤ 10001
 | .mk k s mn mx ts => by rw [zkg]; exact Int.min_le_right _ _
mutual
theorem zkb : ∀ t, 0 ≤ zkg t
 | .mk k s mn mx ts => by
  have hl := zek ts
  rw [zkg]
  have h0 : 0 ≤ (if k = 2 then 1 else 0) + zez ts := by split <;> omega
  split
  ·have : 0 ≤ ((if k = 2 then 1 else 0) + zez ts) * min (if mx = -1 then max (max mn 0) 1 else max (max mn 0) mx) 10001 := Int.mul_nonneg h0 (by split <;> omega)
   omega
  ·omega
theorem zek : ∀ l, 0 ≤ zez l
 | [] => by simp [zez]
 | t :: l => by have h1 := zkb t; have h2 := zek l; rw [zez]; omega
end
theorem z6w : ∀ l, zez l ≤ 10001 * l.length
 | [] => by simp [zez]
 | t :: l => by have h1 := qey t; have h2 := z6w l; rw [zez, List.length_cons]; omega
def z2w (p : Tr → Tr → Bool) : List Tr → List Tr → Bool
 | [], [] => true
 | x :: a, y :: b => p x y && z2w p a b
 | _, _ => false
theorem zrk (p : Tr → Tr → Bool) : ∀ a b : List Tr, z2w p a b = true ↔ a.length = b.length ∧ ∀ (i : Nat) (h1 : i < a.length) (h2 : i < b.length), p a[i] b[i] = true
 | [], [] => by simp [z2w]
 | x :: a, [] => by simp [z2w]
 | [], y :: b => by simp [z2w]
 | x :: a, y :: b => by
  rw [z2w, Bool.and_eq_true, zrk p a b]
  constructor
  ·rintro ⟨h1, h2, h3⟩
   refine ⟨by simp [h2], fun i k1 k2 => ?_⟩
   cases i with
   | zero => exact h1
   | succ i => simpa using h3 i (by simpa using k1) (by simpa using k2)
  ·rintro ⟨h1, h2⟩
   exact ⟨h2 0 (by simp) (by simp), by simpa using h1, fun i k1 k2 => h2 (i + 1) (by simpa using k1) (by simpa using k2)⟩
theorem qlm {p : Tr → Tr → Bool} {a b : List Tr} (h : a.length ≠ b.length) : z2w p a b = false := by
 rw [Bool.eq_false_iff, ne_eq, zrk]
 exact fun h3 => h h3.1
mutual
def zfa : Tr → Tr → Bool
 | .mk k s mn mx l, .mk k' s' mn' mx' l' => (k : Int) == k' && decide (s = s') && mn == mn' && mx == mx' && zjy l l'
def zjy : List Tr → List Tr → Bool
 | [], [] => true
 | x :: a, y :: b => zfa x y && zjy a b
 | _, _ => false
end
theorem z4e : ∀ a b, zjy a b = z2w zfa a b
 | [], [] => by simp [zjy, z2w]
 | x :: a, [] => by simp [zjy, z2w]
 | [], y :: b => by simp [zjy, z2w]
 | x :: a, y :: b => by rw [zjy, z2w, z4e a b]
mutual
theorem zte : ∀ a b, zfa a b = true ↔ a = b
 | .mk k s mn mx l, .mk k' s' mn' mx' l' => by
  rw [zfa]
  simp only [Bool.and_eq_true, z4c l l', Tr.mk.injEq, beq_iff_eq, decide_eq_true_eq]
  constructor
  ·rintro ⟨⟨⟨⟨h1, h2⟩, h3⟩, h4⟩, h5⟩; exact ⟨by omega, h2, h3, h4, h5⟩
  ·rintro ⟨h1, h2, h3, h4, h5⟩; exact ⟨⟨⟨⟨by omega, h2⟩, h3⟩, h4⟩, h5⟩
theorem z4c : ∀ a b, zjy a b = true ↔ a = b
 | [], [] => by simp [zjy]
 | x :: a, [] => by simp [zjy]
 | [], y :: b => by simp [zjy]
 | x :: a, y :: b => by rw [zjy, Bool.and_eq_true, zte x y, z4c a b]; simp
end
def zrb (a b : Tr) : Bool := zbq a && zbq b && zfa a b
theorem qmj (k : Nat) (s : BS) (mn mx : Int) (ts : List Tr) (k2 : Nat) (s2 : BS) (mn2 mx2 : Int) (us : List Tr) : zfa (.mk k s mn mx ts) (.mk k2 s2 mn2 mx2 us) = ((k : Int) == k2 && decide (s = s2) && mn == mn2 && mx == mx2 && z2w zfa ts us) := by rw [zfa, z4e]
def noneT : Tr := .mk 0 0#256 0 0 []
def emptyT : Tr := .mk 1 0#256 0 0 []
def zmb (t : Tr) : Bool := zfa t noneT || zcj t
def zgx (t : Tr) : Tr := if zcj t = true then t else noneT
def zvb (t : Tr) : Tr := if zbq t = true then t else noneT
theorem zep {t : Tr} (h : zcj t = true) : (pre t).length ≤ 10000 := by rw [zcj, Bool.and_eq_true] at h; simpa [zbq] using h.1
def zio (kind without : Nat) (l : List Tr) : List Tr := l.flatMap fun x => bif (x.k : Int) == kind then x.l else bif (x.k : Int) == without then [] else [x]
def zpk (kind : Nat) (l : List Tr) (none : Tr) : Tr := bif (l.length : Int) == 0 then none else bif (l.length : Int) == 1 then zgx (l.headD none) else zgx (Tr.mk kind 0#256 0 0 l)
def zkx (l : List Tr) : Tr := if (l.any fun x => (x.k : Int) == 0 || !zcj x) = true then noneT else zpk 3 (zio 3 1 l) emptyT
def orT (l : List Tr) : Tr := if (l.any fun x => !zmb x) = true then noneT else zpk 4 (zio 4 0 l) noneT
theorem zbw : ∀ a b, zan (a ++ b) = zan a ++ zan b
 | [], b => by simp [zan]
 | x :: a, b => by rw [List.cons_append, zan, zan, zbw a b, List.append_assoc]
theorem zao : ∀ l : List Tr, l.length ≤ (zan l).length
 | [] => by simp [zan]
 | x :: l => by have := zao l; rw [zan, List.length_append, List.length_cons, zdi]; simp; omega
theorem zlg (t : Tr) : (zan t.l).length < (pre t).length := by rw [zdi]; simp
theorem zls (kind without : Nat) : ∀ l : List Tr, (zan (zio kind without l)).length ≤ (zan l).length
 | [] => by simp [zio, zan]
 | x :: l => by
  have h := zls kind without l
  have hx := zlg x
  rw [zio, List.flatMap_cons, zbw, List.length_append, zan, List.length_append]
  have h2 : (zan (bif (x.k : Int) == kind then x.l else bif (x.k : Int) == without then [] else [x])).length ≤ (pre x).length := by
   cases (x.k : Int) == kind <;> cases (x.k : Int) == without <;> simp [zan] <;> omega
  rw [zio] at h
  omega
theorem zcc {x : Tr} : ∀ {l : List Tr}, x ∈ l → (pre x).length ≤ (zan l).length
 | y :: l, h => by
  rw [zan, List.length_append]
  rcases List.mem_cons.1 h with rfl | h
  ·omega
  ·have := zcc h; omega
def zik (t : Tr) (lo hi : Int) : Tr :=
 bif !zmb t || (!(lo == 0 && hi == 0) && !(lo == 1 && hi == 1) && !zdp lo hi) then noneT
 else bif (t.k : Int) == 0 && decide (lo > 0) then noneT
 else bif (lo == 0 && hi == 0) || (t.k : Int) == 0 || (t.k : Int) == 1 then emptyT
 else bif lo == 1 && hi == 1 then t else zgx (.mk 5 0#256 lo hi [t])
theorem zzq (k : Nat) (s : BS) (mn mx : Int) (t : Tr) : (pre (.mk k s mn mx [t])).length = 1 + (pre t).length := by simp [pre, zan]; omega
def zbs (kind : Nat) (l : List Tr) : List Tr := l.flatMap fun x => bif (x.k : Int) == kind then x.l else bif (kind : Int) == 3 && (x.k : Int) == 1 then [] else [x]
def zrf (kind : Nat) (l : List Tr) : Tr := bif (l.length : Int) == 0 then emptyT else bif (l.length : Int) == 1 then l.headD emptyT else .mk kind 0#256 0 0 l
def zfn (kind : Nat) (a b : Tr) : Tr := zrf kind (zbs kind [a, b])
theorem zfu (kind : Nat) : ∀ l : List Tr, (zan (zbs kind l)).length ≤ (zan l).length
 | [] => by simp [zbs, zan]
 | x :: l => by
  have h := zfu kind l
  have hx := zlg x
  rw [zbs, List.flatMap_cons, zbw, List.length_append, zan, List.length_append]
  have h2 : (zan (bif (x.k : Int) == kind then x.l else bif (kind : Int) == 3 && (x.k : Int) == 1 then [] else [x])).length ≤ (pre x).length := by
   cases (x.k : Int) == kind <;> cases (kind : Int) == 3 && (x.k : Int) == 1 <;> simp [zan] <;> omega
  rw [zbs] at h
  omega
theorem qbu (kind : Nat) (l : List Tr) (i : Nat) (hi : i < l.length) : zbs kind (l.take (i + 1)) = zbs kind (l.take i) ++ (bif (l[i].k : Int) == kind then l[i].l else bif (kind : Int) == 3 && (l[i].k : Int) == 1 then [] else [l[i]]) := by
 rw [List.take_succ_eq_append_getElem hi, zbs, List.flatMap_append]; simp [zbs]
theorem zux (kind : Nat) (l : List Tr) (i : Nat) : (zbs kind (l.take i)).length ≤ (zan l).length := by
 refine Nat.le_trans (zao _) (Nat.le_trans (zfu _ _) ?_)
 conv => rhs; rw [← List.take_append_drop i l]
 rw [zbw, List.length_append]; omega
def bsOf (l : List Nat) : BS := l.foldl (fun s b => s ||| (1#256 <<< b)) 0#256
def z8e (l : List Nat) : Tr := .mk 2 (bsOf l) 0 0 []
def zwn : Nat → List Nat
 | 0 => [97] | 1 => [98] | 2 => [97, 98] | 3 => [97] | 4 => [98] | 5 => [99] | 6 => [97, 98, 99] | 7 => [98, 99] | 8 => [10] | 9 => [0, 255] | 10 => [97] | _ => [98]
abbrev Sm := Nat × Nat × Nat
abbrev MSt := List Tr × Int × Int
def kI (x : Sm) : Int := ((x.1 % 12 : Nat) : Int)
def zfh (p : List Tr) (i : Nat) : Tr := p[p.length - i]?.getD emptyT
def cA (p : List Tr) (x : Sm) : Bool := decide (kI x < 7) && decide ((p.length : Int) > 1)
def cB (p : List Tr) (x : Sm) : Bool := decide (kI x < 9) && decide ((p.length : Int) > 1)
def cC (p : List Tr) (g : Int) (x : Sm) : Bool := kI x == 9 && decide ((p.length : Int) > 0) && decide (g < 9)
def cD (p : List Tr) (x : Sm) : Bool := decide (kI x > 9) && decide ((p.length : Int) > 0) && ((zfh p 1).k : Int) != 1
def loM (x : Sm) : Int := ((x.2.1 % 3 : Nat) : Int)
def m4 (x : Sm) : Int := ((x.2.2 % 4 : Nat) : Int)
def badM (x : Sm) : Bool := decide (m4 x < loM x) || m4 x == 0 || loM x == 1 && m4 x == 1
def moM (x : Sm) : Int := bif badM x then -1 else m4 x
def tmM (x : Sm) : Int := max (max (loM x) (moM x)) 1
def zqz (st : MSt) (x : Sm) : MSt :=
 bif decide (kI x < 4) then (st.1 ++ [z8e (zwn (x.2.1 % 12))], st.2.1, st.2.2)
 else bif kI x == 4 then (st.1 ++ [emptyT], st.2.1, st.2.2)
 else bif cA st.1 x then (st.1.take (st.1.length - 2) ++ [zfn 3 (zfh st.1 2) (zfh st.1 1)], st.2.1, st.2.2)
 else bif cB st.1 x then (st.1.take (st.1.length - 2) ++ [zfn 4 (zfh st.1 2) (zfh st.1 1)], st.2.1, st.2.2)
 else bif cC st.1 st.2.2 x then (st.1.set (st.1.length - 1) (.mk 6 0#256 0 0 [zfh st.1 1]), st.2.1, st.2.2 + 1)
 else bif cD st.1 x then (bif decide (st.2.1 * tmM x ≤ 16) then (st.1.set (st.1.length - 1) (.mk 5 0#256 (loM x) (moM x) [zfh st.1 1]), st.2.1 * tmM x, st.2.2) else st)
 else st
def MM (l : List Sm) (i : Nat) : MSt := (l.take i).foldl zqz ([], 1, 0)
def qnd (p : List Tr) : Tr := match p with
 | [] => z8e [97]
 | x :: r => r.foldl (zfn 4) x
def zsl (l : List Sm) : Tr := qnd (MM (l.take 25) 25).1
theorem z5e (l : List Sm) (i : Nat) (hi : i < l.length) : MM l (i + 1) = zqz (MM l i) l[i] := by
 rw [MM, List.take_succ_eq_append_getElem hi, List.foldl_append]; rfl
theorem zma (kind : Nat) (a b : Tr) : (pre (zfn kind a b)).length ≤ (pre a).length + (pre b).length + 1 := by
 have h := zfu kind [a, b]
 simp only [zan, List.append_nil, List.length_append] at h
 rw [zfn, zrf]
 obtain ⟨l, hl⟩ : ∃ l, zbs kind [a, b] = l := ⟨_, rfl⟩
 rw [hl] at h ⊢
 match l, h with
 | [], _ => simp [emptyT, pre, zan]
 | [x], h => simp [zan] at h ⊢; omega
 | x :: y :: l, h =>
  have e1 : (((x :: y :: l).length : Int) == 0) = false := by simp; omega
  have e2 : (((x :: y :: l).length : Int) == 1) = false := by simp; omega
  rw [e1, e2]
  simp only [cond_false, pre, List.length_cons]
  omega
theorem zis {p : List Tr} {i : Nat} (h0 : 0 < i) (h : i ≤ p.length) : zfh p i = p[p.length - i]'(by omega) := by
 rw [zfh, List.getElem?_eq_getElem (by omega)]; rfl
theorem zne {p : List Tr} (h : 2 ≤ p.length) : (zan (p.take (p.length - 2))).length + (pre (zfh p 2)).length + (pre (zfh p 1)).length = (zan p).length := by
 rw [zis (by omega) h, zis (by omega) (by omega)]
 conv => rhs; rw [← List.take_append_drop (p.length - 2) p]
 rw [zbw, List.length_append, List.drop_eq_getElem_cons (by omega), show p.length - 2 + 1 = p.length - 1 by omega, List.drop_eq_getElem_cons (by omega), show p.length - 1 + 1 = p.length by omega, List.drop_length]
 simp [zan]; omega
theorem z7q {p : List Tr} {y : Tr} (h : 0 < p.length) : (zan (p.set (p.length - 1) y)).length + (pre (zfh p 1)).length = (zan p).length + (pre y).length := by
 rw [zis (by omega) h]
 rw [List.set_eq_take_append_cons_drop, if_pos (by omega), show p.length - 1 + 1 = p.length by omega, List.drop_length, zbw, List.length_append]
 conv => rhs; rw [← List.take_append_drop (p.length - 1) p]
 rw [zbw, List.length_append, List.drop_eq_getElem_cons (by omega), show p.length - 1 + 1 = p.length by omega, List.drop_length]
 simp [zan]; omega
theorem qfp (x : Sm) : 1 ≤ tmM x ∧ tmM x ≤ 3 := by
 have h1 : x.2.1 % 3 < 3 := Nat.mod_lt _ (by decide)
 have h2 : x.2.2 % 4 < 4 := Nat.mod_lt _ (by decide)
 unfold tmM moM
 have h3 : loM x ≤ 2 := by unfold loM; omega
 have h4 : m4 x ≤ 3 := by unfold m4; omega
 cases badM x <;> simp only [cond_true, cond_false] <;> omega
theorem qep (st : MSt) (x : Sm) (i : Nat) (h : (zan st.1).length ≤ i ∧ 0 ≤ st.2.2 ∧ st.2.2 ≤ 9 ∧ 1 ≤ st.2.1 ∧ st.2.1 ≤ 16) :
 (zan (zqz st x).1).length ≤ i + 1 ∧ 0 ≤ (zqz st x).2.2 ∧ (zqz st x).2.2 ≤ 9 ∧ 1 ≤ (zqz st x).2.1 ∧ (zqz st x).2.1 ≤ 16 := by
 obtain ⟨h1, h2, h3, h4, h5⟩ := h
 unfold zqz
 cases decide (kI x < 4)
 ·cases kI x == 4
  ·cases hA : cA st.1 x
   ·cases hB : cB st.1 x
    ·cases hC : cC st.1 st.2.2 x
     ·cases hD : cD st.1 x
      ·simp only [cond_false]; omega
      ·simp only [cond_false, cond_true]
       cases hT : decide (st.2.1 * tmM x ≤ 16)
       ·simp only [cond_false]; omega
       ·simp only [cond_true]
        have hp : 0 < st.1.length := by
         unfold cD at hD
         simp only [Bool.and_eq_true, decide_eq_true_eq] at hD; omega
        have e := z7q (p := st.1) (y := .mk 5 0#256 (loM x) (moM x) [zfh st.1 1]) hp
        rw [zzq] at e
        have := (qfp x).1
        have h6 : 1 ≤ st.2.1 * tmM x := by
         have := Int.mul_le_mul h4 this (by omega) (by omega); omega
        simp only [decide_eq_true_eq] at hT
        exact ⟨by omega, by omega, by omega, h6, hT⟩
     ·simp only [cond_false, cond_true]
      unfold cC at hC
      simp only [Bool.and_eq_true, decide_eq_true_eq] at hC
      have e := z7q (p := st.1) (y := .mk 6 0#256 0 0 [zfh st.1 1]) (by omega)
      rw [zzq] at e
      omega
    ·simp only [cond_false, cond_true]
     unfold cB at hB
     simp only [Bool.and_eq_true, decide_eq_true_eq] at hB
     have e := zne (p := st.1) (by omega)
     have e2 := zma 4 (zfh st.1 2) (zfh st.1 1)
     rw [zbw, List.length_append]
     simp only [zan, List.append_nil]; omega
   ·simp only [cond_false, cond_true]
    unfold cA at hA
    simp only [Bool.and_eq_true, decide_eq_true_eq] at hA
    have e := zne (p := st.1) (by omega)
    have e2 := zma 3 (zfh st.1 2) (zfh st.1 1)
    rw [zbw, List.length_append]
    simp only [zan, List.append_nil]; omega
  ·simp only [cond_false, cond_true]
   rw [zbw, List.length_append]
   simp [zan, emptyT, pre]; omega
 ·simp only [cond_true]
  rw [zbw, List.length_append]
  simp [zan, z8e, pre]; omega
theorem invM (l : List Sm) : ∀ i, i ≤ l.length → (zan (MM l i).1).length ≤ i ∧ 0 ≤ (MM l i).2.2 ∧ (MM l i).2.2 ≤ 9 ∧ 1 ≤ (MM l i).2.1 ∧ (MM l i).2.1 ≤ 16
 | 0, _ => by simp [MM, zan]
 | i + 1, h => by
  rw [z5e l i (by omega)]
  exact qep _ _ i (invM l i (by omega))
def smc (x : Sm) : List AV := [.raw (.int .u8 x.1), .raw (.int .u8 x.2.1), .raw (.int .u8 x.2.2)]
def qob : List Sm → List AV
 | [] => []
 | x :: l => smc x ++ qob l
def qiq (p : List Tr) (i : Nat) : Tr := match p with
 | [] => emptyT
 | x :: r => (r.take i).foldl (zfn 4) x
theorem z2k {p : List Tr} {i : Nat} (h : i + 1 < p.length) : qiq p (i + 1) = zfn 4 (qiq p i) p[i + 1] := by
 cases p with
 | nil => simp at h
 | cons x r =>
  have hi : i < r.length := by simpa using h
  simp only [qiq, List.take_succ_eq_append_getElem hi, List.foldl_append, List.foldl_cons, List.foldl_nil, List.getElem_cons_succ]
theorem qcs {p : List Tr} (hp : p ≠ []) : ∀ i, i < p.length → (pre (qiq p i)).length ≤ (zan (p.take (i + 1))).length + i
 | 0, _ => by
  cases p with
  | nil => exact absurd rfl hp
  | cons x r => simp [qiq, zan]
 | i + 1, h => by
  rw [z2k h]
  have h1 := zma 4 (qiq p i) p[i + 1]
  have h2 := qcs hp i (by omega)
  rw [List.take_succ_eq_append_getElem h, zbw, List.length_append]
  simp only [zan, List.append_nil]; omega
theorem zqg (p : List Tr) (i : Nat) : (zan (p.take i)).length ≤ (zan p).length := by
 conv => rhs; rw [← List.take_append_drop i p]
 rw [zbw, List.length_append]; omega
theorem qmk {p : List Tr} (hp : p ≠ []) : qiq p (p.length - 1) = qnd p := by
 cases p with
 | nil => exact absurd rfl hp
 | cons x r => simp [qiq, qnd]
def CR (t : Tr) : Prop := (pre t).all zds = true
def CRL (l : List Tr) : Prop := (zan l).all zds = true
theorem zcx : CRL [] := by simp [CRL, zan]
theorem zau (t : Tr) (l : List Tr) : CRL (t :: l) ↔ CR t ∧ CRL l := by simp [CRL, CR, zan]
theorem zdl (a b : List Tr) : CRL (a ++ b) ↔ CRL a ∧ CRL b := by simp [CRL, zbw]
theorem zeg : ∀ l : List Tr, CRL l ↔ ∀ t ∈ l, CR t
 | [] => by simp [zcx]
 | t :: l => by rw [zau, zeg l]; simp
theorem zcd (t : Tr) : CR t ↔ zds t = true ∧ CRL t.l := by rw [CR, zdi, List.all_cons, Bool.and_eq_true]; rfl
theorem zgs {t : Tr} {k : Nat} : ztc t k = false ↔ ∀ y ∈ t.l, y.k ≠ k := by simp [ztc]
theorem qck {l : List Tr} (h : 1 < l.length) (h1 : ∀ t ∈ l, t.k ≠ 1 ∧ t.k ≠ 3) : zds (.mk 3 0#256 0 0 l) = true := by
 have e1 : ztc (.mk 3 0#256 0 0 l) 1 = false := zgs.2 fun y hy => (h1 y hy).1
 have e3 : ztc (.mk 3 0#256 0 0 l) 3 = false := zgs.2 fun y hy => (h1 y hy).2
 simp [zdx, zlh, e1, e3]; omega
theorem qfs {l : List Tr} (h : 1 < l.length) (h1 : ∀ t ∈ l, t.k ≠ 4) : zds (.mk 4 0#256 0 0 l) = true := by
 have e1 : ztc (.mk 4 0#256 0 0 l) 4 = false := zgs.2 fun y hy => h1 y hy
 simp [zdx, zlh, e1]; omega
theorem zth {t : Tr} {lo hi : Int} (h : t.k ≠ 1) (hb : zdp lo hi = true) : zds (.mk 5 0#256 lo hi [t]) = true := by
 have e1 : ztc (.mk 5 0#256 lo hi [t]) 1 = false := zgs.2 fun y hy => by simp [Tr.l] at hy; subst hy; exact h
 simp [zdx, zlh, e1, hb]
theorem qde (t : Tr) : zds (.mk 6 0#256 0 0 [t]) = true := by simp [zdx, zlh]
theorem zfr : zds emptyT = true := by simp [emptyT, zdx, zlh]
theorem zkc {t : Tr} (h : zds t = true) : t.k = 1 ∨ t.k = 2 ∨ t.k = 3 ∨ t.k = 4 ∨ t.k = 5 ∨ t.k = 6 := by
 cases t with
 | mk k s mn mx l =>
  rw [zdx] at h
  simp only [Tr.k]
  by_cases h1 : k = 1; · exact .inl h1
  by_cases h2 : k = 2; · exact .inr (.inl h2)
  by_cases h3 : k = 3; · exact .inr (.inr (.inl h3))
  by_cases h4 : k = 4; · exact .inr (.inr (.inr (.inl h4)))
  by_cases h5 : k = 5; · exact .inr (.inr (.inr (.inr (.inl h5))))
  by_cases h6 : k = 6; · exact .inr (.inr (.inr (.inr (.inr h6))))
  exfalso
  have e : ∀ n : Nat, k ≠ n → ((k : Int) == n) = false := fun n hn => by simp; omega
  rw [show ((k : Int) == 1) = false from e 1 h1, show ((k : Int) == 2) = false from e 2 h2, show ((k : Int) == 3) = false from e 3 h3, show ((k : Int) == 4) = false from e 4 h4, show ((k : Int) == 5) = false from e 5 h5, show ((k : Int) == 6) = false from e 6 h6] at h
  simp at h
theorem zge {t : Tr} (h : zds t = true) (hk : t.k = 3) : 1 < t.l.length ∧ ∀ y ∈ t.l, y.k ≠ 1 ∧ y.k ≠ 3 := by
 cases t with
 | mk k s mn mx l =>
  simp only [Tr.k] at hk; subst hk
  rw [zdx] at h
  simp only [Bool.and_eq_true, Bool.not_eq_true'] at h
  have h2 := h.2
  simp only [show ((((3 : Nat) : Int)) == 1) = false from rfl, show ((((3 : Nat) : Int)) == 2) = false from rfl, show ((((3 : Nat) : Int)) == 3) = true from rfl, cond_false, cond_true, Bool.and_eq_true, Bool.not_eq_true', decide_eq_true_eq] at h2
  exact ⟨by simp only [Tr.l]; omega, fun y hy => ⟨zgs.1 h2.1.2 y hy, zgs.1 h2.2 y hy⟩⟩
theorem zjz {t : Tr} (h : zds t = true) (hk : t.k = 4) : 1 < t.l.length ∧ ∀ y ∈ t.l, y.k ≠ 4 := by
 cases t with
 | mk k s mn mx l =>
  simp only [Tr.k] at hk; subst hk
  rw [zdx] at h
  simp only [Bool.and_eq_true, Bool.not_eq_true'] at h
  have h2 := h.2
  simp only [show ((((4 : Nat) : Int)) == 1) = false from rfl, show ((((4 : Nat) : Int)) == 2) = false from rfl, show ((((4 : Nat) : Int)) == 3) = false from rfl, show ((((4 : Nat) : Int)) == 4) = true from rfl, cond_false, cond_true, Bool.and_eq_true, Bool.not_eq_true', decide_eq_true_eq] at h2
  exact ⟨by simp only [Tr.l]; omega, fun y hy => zgs.1 h2.2 y hy⟩
theorem z5u (t : Tr) (h5 : t.k ≠ 5) (h2 : t.k ≠ 2) : zkg t = min (zez t.l) 10001 := by
 cases t with
 | mk k s mn mx l => simp only [Tr.k] at h5 h2; simp [zkg, h5, h2, Tr.l]
theorem zcz : ∀ a b, zez (a ++ b) = zez a + zez b
 | [], b => by simp [zez]
 | x :: a, b => by rw [List.cons_append, zez, zez, zcz a b]; omega
theorem zwb : zkg emptyT = 0 := by simp [emptyT, zkg, zez]; rfl
theorem z8b (l : List Nat) : zkg (z8e l) = 1 := by simp [z8e, zkg, zez]; rfl
def grT (t : Tr) : Nat := (pre t).countP fun x => decide (x.k = 6)
def grL (l : List Tr) : Nat := (zan l).countP fun x => decide (x.k = 6)
theorem zew : grL [] = 0 := by simp [grL, zan]
theorem zct (t : Tr) (l : List Tr) : grL (t :: l) = grT t + grL l := by simp [grL, grT, zan]
theorem zea (a b : List Tr) : grL (a ++ b) = grL a + grL b := by simp [grL, zbw]
theorem qoa (t : Tr) : grT t = grL t.l + (if t.k = 6 then 1 else 0) := by rw [grT, zdi, List.countP_cons]; simp [grL]
theorem qgf (k : Nat) (s : BS) (mn mx : Int) (l : List Tr) : grT (.mk k s mn mx l) = grL l + (if k = 6 then 1 else 0) := qoa _
theorem z2t : grT emptyT = 0 := by simp [emptyT, grT, pre, zan, Tr.k]
theorem qhv (l : List Nat) : grT (z8e l) = 0 := by simp [z8e, grT, pre, zan, Tr.k]
theorem zih (kind : Nat) : zbs kind [] = [] := rfl
theorem zcu (kind : Nat) (x : Tr) (l : List Tr) : zbs kind (x :: l) = (bif (x.k : Int) == kind then x.l else bif (kind : Int) == 3 && (x.k : Int) == 1 then [] else [x]) ++ zbs kind l := by simp [zbs]
theorem zqk (kind : Nat) (a b : List Tr) : zbs kind (a ++ b) = zbs kind a ++ zbs kind b := by simp [zbs]
def G3 (l : List Tr) : Prop := CRL l ∧ ∀ y ∈ l, y.k ≠ 1 ∧ y.k ≠ 3
def G4 (l : List Tr) : Prop := CRL l ∧ ∀ y ∈ l, y.k ≠ 4
theorem zju : ∀ {l : List Tr}, CRL l → G3 (zbs 3 l)
 | [], _ => ⟨zcx, by simp [zbs]⟩
 | x :: l, h => by
  rw [zau] at h
  obtain ⟨g1, g2⟩ := zju h.2
  have hx := (zcd x).1 h.1
  rw [zcu]
  by_cases h3 : x.k = 3
  ·have e : ((x.k : Int) == ((3 : Nat) : Int)) = true := by simp [h3]
   rw [e, cond_true]
   refine ⟨(zdl _ _).2 ⟨hx.2, g1⟩, fun y hy => ?_⟩
   rcases List.mem_append.1 hy with hy | hy
   ·exact (zge hx.1 h3).2 y hy
   ·exact g2 y hy
  ·have e : ((x.k : Int) == ((3 : Nat) : Int)) = false := by simp; omega
   rw [e, cond_false]
   by_cases h1 : x.k = 1
   ·have e1 : ((((3 : Nat) : Int) == 3) && ((x.k : Int) == 1)) = true := by simp [h1]
    rw [e1, cond_true, List.nil_append]; exact ⟨g1, g2⟩
   ·have e1 : ((((3 : Nat) : Int) == 3) && ((x.k : Int) == 1)) = false := by simp; omega
    rw [e1, cond_false, List.singleton_append]
    refine ⟨(zau _ _).2 ⟨h.1, g1⟩, fun y hy => ?_⟩
    rcases List.mem_cons.1 hy with rfl | hy
    ·exact ⟨h1, h3⟩
    ·exact g2 y hy
theorem zlv : ∀ {l : List Tr}, CRL l → G4 (zbs 4 l)
 | [], _ => ⟨zcx, by simp [zbs]⟩
 | x :: l, h => by
  rw [zau] at h
  obtain ⟨g1, g2⟩ := zlv h.2
  have hx := (zcd x).1 h.1
  rw [zcu]
  by_cases h3 : x.k = 4
  ·have e : ((x.k : Int) == ((4 : Nat) : Int)) = true := by simp [h3]
   rw [e, cond_true]
   refine ⟨(zdl _ _).2 ⟨hx.2, g1⟩, fun y hy => ?_⟩
   rcases List.mem_append.1 hy with hy | hy
   ·exact (zjz hx.1 h3).2 y hy
   ·exact g2 y hy
  ·have e : ((x.k : Int) == ((4 : Nat) : Int)) = false := by simp; omega
   have e1 : ((((4 : Nat) : Int) == 3) && ((x.k : Int) == 1)) = false := by simp
   rw [e, cond_false, e1, cond_false, List.singleton_append]
   refine ⟨(zau _ _).2 ⟨h.1, g1⟩, fun y hy => ?_⟩
   rcases List.mem_cons.1 hy with rfl | hy
   ·exact h3
   ·exact g2 y hy
theorem ziq (kind : Nat) (x : Tr) : zrf kind [x] = x := rfl
theorem zha (kind : Nat) (x y : Tr) (l : List Tr) : zrf kind (x :: y :: l) = .mk kind 0#256 0 0 (x :: y :: l) := by
 have e1 : (((x :: y :: l).length : Int) == 0) = false := by simp; omega
 have e2 : (((x :: y :: l).length : Int) == 1) = false := by simp; omega
 rw [zrf, e1, e2]; rfl
theorem zno : ∀ {l : List Tr}, G3 l → CR (zrf 3 l)
 | [], _ => (zcd _).2 ⟨zfr, zcx⟩
 | [x], h => (zeg _).1 h.1 x (by simp)
 | x :: y :: l, h => by rw [zha]; exact (zcd _).2 ⟨qck (by simp) h.2, h.1⟩
theorem zxa : ∀ {l : List Tr}, G4 l → CR (zrf 4 l)
 | [], _ => (zcd _).2 ⟨zfr, zcx⟩
 | [x], h => (zeg _).1 h.1 x (by simp)
 | x :: y :: l, h => by rw [zha]; exact (zcd _).2 ⟨qfs (by simp) h.2, h.1⟩
theorem qca {a b : Tr} (ha : CR a) (hb : CR b) : CR (zfn 3 a b) := zno (zju ((zeg _).2 (by simp [ha, hb])))
theorem z2i {a b : Tr} (ha : CR a) (hb : CR b) : CR (zfn 4 a b) := zxa (zlv ((zeg _).2 (by simp [ha, hb])))
theorem z3r (kind : Nat) (hk : kind = 3 ∨ kind = 4) : ∀ l : List Tr, zez l ≤ 10000 → zez (zbs kind l) ≤ zez l
 | [], _ => by simp [zbs, zez]
 | x :: l, h => by
  rw [zez] at h
  have h1 := zkb x
  have h2 := zek l
  have ih := z3r kind hk l (by omega)
  rw [zcu, zcz, zez]
  have : zez (bif (x.k : Int) == kind then x.l else bif (kind : Int) == 3 && (x.k : Int) == 1 then [] else [x]) ≤ zkg x := by
   cases e : (x.k : Int) == kind
   ·rw [cond_false]
    cases (kind : Int) == 3 && (x.k : Int) == 1
    ·simp [zez]
    ·simp [zez]; omega
   ·rw [cond_true]
    have e' : x.k = kind := by simp at e; omega
    have := z5u x (by omega) (by omega)
    omega
  omega
theorem qjg (kind : Nat) (hk : kind = 3 ∨ kind = 4) : ∀ l : List Tr, zkg (zrf kind l) ≤ zez l
 | [] => by rw [show zrf kind [] = emptyT from rfl, zwb]; simp [zez]
 | [x] => by rw [ziq]; simp [zez]
 | x :: y :: l => by
  rw [zha, z5u _ (by simp only [Tr.k]; omega) (by simp only [Tr.k]; omega)]
  simp only [Tr.l]; omega
theorem zsv (kind : Nat) (hk : kind = 3 ∨ kind = 4) {a b : Tr} (h : zkg a + zkg b ≤ 10000) : zkg (zfn kind a b) ≤ zkg a + zkg b := by
 have h0 : zez [a, b] = zkg a + zkg b := by simp [zez]
 have h1 := z3r kind hk [a, b] (by omega)
 have h2 := qjg kind hk (zbs kind [a, b])
 rw [zfn]; omega
theorem z7r (kind : Nat) (hk : kind = 3 ∨ kind = 4) : ∀ l : List Tr, CRL l → grL (zbs kind l) ≤ grL l
 | [], _ => by simp [zbs]
 | x :: l, h => by
  rw [zau] at h
  have ih := z7r kind hk l h.2
  rw [zcu, zea, zct]
  have : grL (bif (x.k : Int) == kind then x.l else bif (kind : Int) == 3 && (x.k : Int) == 1 then [] else [x]) ≤ grT x := by
   cases e : (x.k : Int) == kind
   ·rw [cond_false]
    cases (kind : Int) == 3 && (x.k : Int) == 1
    ·rw [cond_false, zct, zew]; omega
    ·rw [cond_true, zew]; omega
   ·rw [cond_true]
    have := qoa x; omega
  omega
theorem endJ_gr (kind : Nat) (hk : kind = 3 ∨ kind = 4) : ∀ l : List Tr, grT (zrf kind l) ≤ grL l
 | [] => by rw [show zrf kind [] = emptyT from rfl, z2t]; omega
 | [x] => by rw [ziq, zct]; omega
 | x :: y :: l => by
  rw [zha, qgf, if_neg (by omega)]; omega
theorem zxd (kind : Nat) (hk : kind = 3 ∨ kind = 4) {a b : Tr} (ha : CR a) (hb : CR b) : grT (zfn kind a b) ≤ grT a + grT b := by
 have h1 := z7r kind hk [a, b] ((zeg _).2 (by simp [ha, hb]))
 have h2 := endJ_gr kind hk (zbs kind [a, b])
 simp only [zct, zew] at h1
 rw [zfn]; omega
structure OkM (st : MSt) (i : Nat) : Prop where
 cr : CRL st.1
 pos : zez st.1 ≤ (i : Int) * st.2.1
 gr : (grL st.1 : Int) ≤ st.2.2
theorem zwk {p : List Tr} (h : 0 < p.length) : p = p.take (p.length - 1) ++ [zfh p 1] := by
 rw [zis (by omega) (by omega)]
 conv => lhs; rw [← List.take_append_drop (p.length - 1) p]
 rw [List.drop_eq_getElem_cons (by omega), List.drop_of_length_le (by omega)]
theorem z2j {p : List Tr} (h : 2 ≤ p.length) : p = p.take (p.length - 2) ++ [zfh p 2, zfh p 1] := by
 rw [zis (i := 2) (by omega) (by omega), zis (i := 1) (by omega) (by omega)]
 conv => lhs; rw [← List.take_append_drop (p.length - 2) p]
 rw [List.drop_eq_getElem_cons (by omega), List.drop_eq_getElem_cons (by omega), List.drop_of_length_le (by omega)]
 simp only [show p.length - 2 + 1 = p.length - 1 by omega]
theorem z7b {p : List Tr} (h : 0 < p.length) (y : Tr) : p.set (p.length - 1) y = p.take (p.length - 1) ++ [y] := by
 rw [List.set_eq_take_append_cons_drop, if_pos (by omega), List.drop_of_length_le (by omega)]
theorem qdr : ∀ j, j < 12 → zds (z8e (zwn j)) = true := by decide +kernel
theorem qof {j : Nat} (h : j < 12) : CR (z8e (zwn j)) := (zcd _).2 ⟨qdr j h, zcx⟩
theorem qcl (x : Sm) : zdp (loM x) (moM x) = true := by
 have h1 : x.2.1 % 3 < 3 := Nat.mod_lt _ (by decide)
 have h2 : x.2.2 % 4 < 4 := Nat.mod_lt _ (by decide)
 unfold moM badM loM m4
 generalize x.2.1 % 3 = a at *
 generalize x.2.2 % 4 = b at *
 have key : ∀ a, a < 3 → ∀ b, b < 4 → zdp ((a : Nat) : Int) (bif decide (((b : Nat) : Int) < (a : Int)) || (b : Int) == 0 || (a : Int) == 1 && (b : Int) == 1 then -1 else (b : Int)) = true := by decide
 exact key a h1 b h2
theorem z5q (x : Sm) (t : Tr) : zkg (.mk 5 0#256 (loM x) (moM x) [t]) ≤ zkg t * tmM x := by
 have h1 : x.2.1 % 3 < 3 := Nat.mod_lt _ (by decide)
 have h2 : x.2.2 % 4 < 4 := Nat.mod_lt _ (by decide)
 have h0 := zkb t
 have hlo : 0 ≤ loM x := by unfold loM; omega
 have hf : min (if moM x = -1 then max (max (loM x) 0) 1 else max (max (loM x) 0) (moM x)) 10001 ≤ tmM x := by
  unfold tmM
  split
  ·rename_i e; rw [e]; omega
  ·omega
 have hm := Int.mul_le_mul_of_nonneg_left hf h0
 simp only [zkg, zez, if_true, if_neg (show ¬ (5 = 2) by decide), Int.add_zero, Int.zero_add]
 omega
theorem qkq {st : MSt} {i : Nat} (x : Sm) (h : OkM st i) (hi : i ≤ 25) (hv : 0 ≤ st.2.2 ∧ st.2.2 ≤ 9 ∧ 1 ≤ st.2.1 ∧ st.2.1 ≤ 16) : OkM (zqz st x) (i + 1) := by
 obtain ⟨c, p, g⟩ := h
 obtain ⟨v1, v2, v3, v4⟩ := hv
 have e0 : ((i + 1 : Nat) : Int) * st.2.1 = (i : Int) * st.2.1 + st.2.1 := by rw [Int.natCast_add, Int.add_mul]; simp
 have e400 : (i : Int) * st.2.1 ≤ 400 := by
  have := Int.mul_le_mul (show (i : Int) ≤ 25 by omega) v4 (by omega) (by omega)
  omega
 have c0 := (zeg _).1 c
 unfold zqz
 cases decide (kI x < 4)
 ·cases kI x == 4
  ·cases hA : cA st.1 x
   ·cases hB : cB st.1 x
    ·cases hC : cC st.1 st.2.2 x
     ·cases hD : cD st.1 x
      ·simp only [cond_false]; exact ⟨c, by omega, g⟩
      ·simp only [cond_false, cond_true]
       cases hT : decide (st.2.1 * tmM x ≤ 16)
       ·simp only [cond_false]; exact ⟨c, by omega, g⟩
       ·simp only [cond_true]
        unfold cD at hD
        simp only [Bool.and_eq_true, decide_eq_true_eq, bne_iff_ne, ne_eq] at hD
        have hp : 0 < st.1.length := by omega
        have es := zwk hp
        rw [z7b hp]
        rw [es, zdl, zau] at c
        rw [es, zcz] at p
        rw [es, zea, zct, zew] at g
        simp only [zez, Int.add_zero] at p
        refine ⟨(zdl _ _).2 ⟨c.1, (zau _ _).2 ⟨(zcd _).2 ⟨zth (by omega) (qcl x), (zau _ _).2 ⟨c.2.1, zcx⟩⟩, zcx⟩⟩, ?_, ?_⟩
        ·have h1 := z5q x (zfh st.1 1)
         have h2 := zek (st.1.take (st.1.length - 1))
         have h3 := (qfp x).1
         rw [zcz]
         simp only [zez, Int.add_zero]
         have h4 := Int.mul_le_mul_of_nonneg_right p (show 0 ≤ tmM x by omega)
         have h5 := Int.mul_le_mul_of_nonneg_left h3 h2
         rw [Int.add_mul] at h4
         have e1 : ((i + 1 : Nat) : Int) * (st.2.1 * tmM x) = (i : Int) * st.2.1 * tmM x + st.2.1 * tmM x := by
          rw [Int.natCast_add, Int.add_mul, Int.mul_assoc]; simp
         have h6 : 0 ≤ st.2.1 * tmM x := Int.mul_nonneg (by omega) (by omega)
         rw [e1]; omega
        ·dsimp only; rw [zea, zct, zew, qgf, zct, zew, if_neg (by decide)]; omega
     ·simp only [cond_false, cond_true]
      unfold cC at hC
      simp only [Bool.and_eq_true, decide_eq_true_eq] at hC
      have hp : 0 < st.1.length := by omega
      have es := zwk hp
      rw [z7b hp]
      rw [es, zdl, zau] at c
      rw [es, zcz] at p
      rw [es, zea, zct, zew] at g
      simp only [zez, Int.add_zero] at p
      refine ⟨(zdl _ _).2 ⟨c.1, (zau _ _).2 ⟨(zcd _).2 ⟨qde _, (zau _ _).2 ⟨c.2.1, zcx⟩⟩, zcx⟩⟩, ?_, ?_⟩
      ·rw [zcz, zez, z5u _ (by simp only [Tr.k]; omega) (by simp only [Tr.k]; omega)]
       simp only [Tr.l, zez, Int.add_zero]; omega
      ·dsimp only; rw [zea, zct, zew, qgf, zct, zew, if_pos rfl]; omega
    ·simp only [cond_false, cond_true]
     unfold cB at hB
     simp only [Bool.and_eq_true, decide_eq_true_eq] at hB
     have hp : 2 ≤ st.1.length := by omega
     have es := z2j hp
     rw [es, zdl, zau, zau] at c
     rw [es, zcz] at p
     rw [es, zea, zct, zct, zew] at g
     simp only [zez, Int.add_zero] at p
     have n0 := zek (st.1.take (st.1.length - 2))
     refine ⟨(zdl _ _).2 ⟨c.1, (zau _ _).2 ⟨z2i c.2.1 c.2.2.1, zcx⟩⟩, ?_, ?_⟩
     ·have := zsv 4 (.inr rfl) (a := zfh st.1 2) (b := zfh st.1 1) (by omega)
      rw [zcz]; simp only [zez, Int.add_zero]; omega
     ·dsimp only; have := zxd 4 (.inr rfl) c.2.1 c.2.2.1
      rw [zea, zct, zew]; omega
   ·simp only [cond_false, cond_true]
    unfold cA at hA
    simp only [Bool.and_eq_true, decide_eq_true_eq] at hA
    have hp : 2 ≤ st.1.length := by omega
    have es := z2j hp
    rw [es, zdl, zau, zau] at c
    rw [es, zcz] at p
    rw [es, zea, zct, zct, zew] at g
    simp only [zez, Int.add_zero] at p
    have n0 := zek (st.1.take (st.1.length - 2))
    refine ⟨(zdl _ _).2 ⟨c.1, (zau _ _).2 ⟨qca c.2.1 c.2.2.1, zcx⟩⟩, ?_, ?_⟩
    ·have := zsv 3 (.inl rfl) (a := zfh st.1 2) (b := zfh st.1 1) (by omega)
     rw [zcz]; simp only [zez, Int.add_zero]; omega
    ·dsimp only; have := zxd 3 (.inl rfl) c.2.1 c.2.2.1
     rw [zea, zct, zew]; omega
  ·simp only [cond_false, cond_true]
   refine ⟨(zdl _ _).2 ⟨c, (zau _ _).2 ⟨(zcd _).2 ⟨zfr, zcx⟩, zcx⟩⟩, ?_, ?_⟩
   ·rw [zcz]; simp only [zez, zwb]; omega
   ·dsimp only; rw [zea, zct, zew, z2t]; omega
 ·simp only [cond_true]
  refine ⟨(zdl _ _).2 ⟨c, (zau _ _).2 ⟨qof (Nat.mod_lt _ (by decide)), zcx⟩⟩, ?_, ?_⟩
  ·rw [zcz]; simp only [zez, z8b]; omega
  ·dsimp only; rw [zea, zct, zew, qhv]; omega
theorem okM (l : List Sm) (hl : l.length ≤ 25) : ∀ i, i ≤ l.length → OkM (MM l i) i
 | 0, _ => ⟨by simp [MM]; exact zcx, by simp [MM, zez], by simp [MM, zew]⟩
 | i + 1, h => by
  rw [z5e l i (by omega)]
  have := invM l i (by omega)
  exact qkq _ (okM l hl i (by omega)) (by omega) ⟨this.2.1, this.2.2.1, this.2.2.2.1, this.2.2.2.2⟩
theorem qfd : ∀ (r : List Tr) (x : Tr), CR x → CRL r → zkg x + zez r ≤ 400 →
 CR (r.foldl (zfn 4) x) ∧ zkg (r.foldl (zfn 4) x) ≤ zkg x + zez r ∧ grT (r.foldl (zfn 4) x) ≤ grT x + grL r ∧ (pre (r.foldl (zfn 4) x)).length ≤ (pre x).length + (zan r).length + r.length
 | [], x, h, _, _ => by simp [zez, zew, zan, h]
 | y :: r, x, h, hr, hp => by
  rw [zau] at hr
  rw [zez] at hp
  have n1 := zek r
  have j1 := zsv 4 (.inr rfl) (a := x) (b := y) (by omega)
  have j2 := zxd 4 (.inr rfl) h hr.1
  have j3 := zma 4 x y
  obtain ⟨k1, k2, k3, k4⟩ := qfd r (zfn 4 x y) (z2i h hr.1) hr.2 (by omega)
  rw [List.foldl_cons, zez, zct, zan, List.length_append, List.length_cons]
  exact ⟨k1, by omega, by omega, by omega⟩
theorem made_ok (l : List Sm) : CR (zsl l) ∧ zkg (zsl l) ≤ 400 ∧ grT (zsl l) ≤ 9 ∧ (pre (zsl l)).length ≤ 50 := by
 obtain ⟨m, hm⟩ : ∃ m, l.take 25 = m := ⟨_, rfl⟩
 have hlen : m.length ≤ 25 := by rw [← hm, List.length_take]; omega
 rw [zsl, hm]
 have e : MM m 25 = MM m m.length := by rw [MM, MM, List.take_of_length_le hlen, List.take_length]
 rw [e]
 have o := okM m hlen m.length (Nat.le_refl _)
 have v := invM m m.length (Nat.le_refl _)
 obtain ⟨c, p, g⟩ := o
 have p400 : zez (MM m m.length).1 ≤ 400 := by
  have := Int.mul_le_mul (show (m.length : Int) ≤ 25 by omega) v.2.2.2.2 (by omega) (by omega)
  omega
 match h : (MM m m.length).1 with
 | [] => exact ⟨qof (j := 0) (by decide), by rw [qnd, z8b]; omega, by rw [qnd, qhv]; omega, by simp [qnd, z8e, pre, zan]⟩
 | x :: r =>
  rw [h] at c p400 g v
  rw [zau] at c
  rw [zez] at p400
  rw [zct] at g
  have hv := v.1
  rw [zan, List.length_append] at hv
  obtain ⟨k1, k2, k3, k4⟩ := qfd r x c.1 c.2 (by omega)
  have hr := zao r
  rw [qnd]
  exact ⟨k1, by omega, by omega, by omega⟩
theorem zht {t : Tr} (h : CR t) (hl : (pre t).length ≤ 10000) : zcj t = true := by
 rw [zcj, zbq, Bool.and_eq_true]; exact ⟨by simpa using hl, h⟩
def qkf (lo hi : Int) : Bool := (decide (lo ≥ 0) && decide (lo ≤ 16)) && (hi == -1 || (decide (hi ≥ lo) && decide (hi ≤ 16)))
theorem zle (lo hi : Int) : qkf lo hi = true ↔ 0 ≤ lo ∧ lo ≤ 16 ∧ (hi = -1 ∨ (lo ≤ hi ∧ hi ≤ 16)) := by simp [qkf]; omega
theorem zhy (lo hi : Int) : zdp lo hi = true ↔ (0 ≤ lo ∧ lo ≤ 16 ∧ ¬ (lo = 1 ∧ hi = 1)) ∧ (hi = -1 ∨ (1 ≤ hi ∧ hi ≤ 16 ∧ lo ≤ hi)) := by simp [zdp]; omega
structure MT (t : Tr) : Prop where
 cr : CR t
 pos : zkg t ≤ 400
 gr : grT t ≤ 9
 len : (pre t).length ≤ 50
theorem MT.clean {t : Tr} (h : MT t) : zcj t = true := zht h.cr (by have := h.len; omega)
theorem MT.light {t : Tr} (h : MT t) : zbq t = true := by have := h.len; simp [zbq]; omega
theorem MT.good {t : Tr} (h : MT t) : zmb t = true := by rw [zmb, h.clean, Bool.or_true]
theorem MT.k0 {t : Tr} (h : MT t) : t.k ≠ 0 := by have := zkc ((zcd t).1 h.cr).1; omega
theorem flatT3 (l : List Tr) : zio 3 1 l = zbs 3 l := by
 unfold zio zbs
 congr 1
theorem qoe : ∀ {l : List Tr}, (∀ t ∈ l, t.k ≠ 0) → zio 4 0 l = zbs 4 l
 | [], _ => rfl
 | x :: l, h => by
  have ih := qoe (l := l) fun t ht => h t (List.mem_cons_of_mem _ ht)
  have e0 : ((x.k : Int) == ((0 : Nat) : Int)) = false := by have := h x (by simp); simp; omega
  rw [zcu, ← ih, zio, List.flatMap_cons, ← zio, e0]
  rfl
def CS (n : Nat) (t : Tr) : Prop := CR t ∧ (pre t).length ≤ n
theorem MT.cs {t : Tr} (h : MT t) : CS 50 t := ⟨h.cr, h.len⟩
theorem CR.k0 {t : Tr} (h : CR t) : t.k ≠ 0 := by have := zkc ((zcd t).1 h).1; omega
theorem qnh {t : Tr} (h : CR t) (hk : t.k = 1) : t = emptyT := by
 have hr := ((zcd t).1 h).1
 cases t with
 | mk k s mn mx l =>
  simp only [Tr.k] at hk; subst hk
  rw [zdx, zlh] at hr
  simp only [Bool.and_eq_true, Bool.not_eq_true', Bool.or_eq_false_iff] at hr
  obtain ⟨⟨⟨h1, h2⟩, h3⟩, _⟩ := hr
  simp at h1 h2 h3
  have hl : l = [] := by cases l with | nil => rfl | cons x l => simp at h3
  rw [h1, h2.1, h2.2, hl]; rfl
theorem eta_of {t : Tr} {kind : Nat} (h : CR t) (hk : t.k = kind) (h2 : kind = 3 ∨ kind = 4) : t = .mk kind 0#256 0 0 t.l := by
 have hr := ((zcd t).1 h).1
 cases t with
 | mk k s mn mx l =>
  simp only [Tr.k] at hk; subst hk
  rw [zdx, zlh] at hr
  simp only [Bool.and_eq_true, Bool.not_eq_true', Bool.or_eq_false_iff] at hr
  obtain ⟨⟨⟨h1, h3⟩, _⟩, _⟩ := hr
  have e2 : ((k : Int) != 2) = true := by simp; omega
  have e5 : ((k : Int) != 5) = true := by simp; omega
  rw [e2, Bool.true_and] at h1
  rw [e5, Bool.true_and] at h3
  simp at h1 h3
  rw [h1, h3.1, h3.2]; rfl
theorem zlx (kind : Nat) : ∀ l : List Tr, (pre (zrf kind l)).length ≤ (zan l).length + 1
 | [] => by rw [show zrf kind [] = emptyT from rfl]; simp [emptyT, pre, zan]
 | [x] => by rw [ziq]; simp [zan]
 | x :: y :: l => by rw [zha, pre, List.length_cons]; omega
theorem zjh {t : Tr} (h : zcj t = true) : zgx t = t := by rw [zgx, if_pos h]
theorem qls {l : List Tr} (h : CRL l) (hl : l ≠ []) : zbs 4 l ≠ [] := by
 cases l with
 | nil => exact absurd rfl hl
 | cons x l =>
  rw [zau] at h
  rw [zcu]
  by_cases h4 : x.k = 4
  ·have e : ((x.k : Int) == ((4 : Nat) : Int)) = true := by simp [h4]
   rw [e, cond_true]
   have hlen := (zjz ((zcd x).1 h.1).1 h4).1
   intro hn
   have h1 := (List.append_eq_nil_iff.1 hn).1
   rw [h1] at hlen
   simp at hlen
  ·have e : ((x.k : Int) == ((4 : Nat) : Int)) = false := by simp; omega
   have e1 : ((((4 : Nat) : Int) == 3) && ((x.k : Int) == 1)) = false := by simp
   rw [e, cond_false, e1, cond_false]
   simp
theorem or_eq {l : List Tr} (h : CRL l) (hne : l ≠ []) (hl : (zan l).length ≤ 1000) : orT l = zrf 4 (zbs 4 l) := by
 have hc := (zeg l).1 h
 have hln : ∀ t ∈ l, (pre t).length ≤ 1000 := fun t ht => by
  have : ∀ (l : List Tr), t ∈ l → (pre t).length ≤ (zan l).length := by
   intro l
   induction l with
   | nil => intro h; cases h
   | cons y l ih =>
    intro h
    rw [zan, List.length_append]
    rcases List.mem_cons.1 h with rfl | h
    ·omega
    ·have := ih h; omega
  have := this l ht; omega
 have ha : (l.any fun x => !zmb x) = false := by
  rw [List.any_eq_false]
  intro x hx
  have h1 := zht (hc x hx) (by have := hln x hx; omega)
  rw [zmb, h1]; simp
 rw [orT, ha, if_neg (by decide), qoe fun t ht => (hc t ht).k0]
 have g := zlv h
 have hn := qls h hne
 have hfl := zfu 4 l
 have hend := zlx 4 (zbs 4 l)
 have hcr := zxa g
 revert hend hcr hn
 generalize zbs 4 l = m at g hfl
 intro hn hend hcr
 match m, g, hend, hcr, hn with
 | [], _, _, _, hn => exact absurd rfl hn
 | [x], _, hend, hcr, _ =>
  rw [ziq] at hend hcr ⊢
  show zgx x = x
  exact zjh (zht hcr (by omega))
 | x :: y :: m, _, hend, hcr, _ =>
  rw [zha] at hend hcr ⊢
  have e1 : (((x :: y :: m).length : Int) == 0) = false := by simp; omega
  have e2 : (((x :: y :: m).length : Int) == 1) = false := by simp; omega
  rw [zpk, e1, e2]
  exact zjh (zht hcr (by omega))
theorem qhj : ∀ {m : List Tr}, G3 m → zbs 3 [zrf 3 m] = m
 | [], _ => rfl
 | [x], h => by
  have hx := h.2 x (by simp)
  rw [ziq, zcu, zih]
  have e : ((x.k : Int) == ((3 : Nat) : Int)) = false := by simp; omega
  have e1 : ((((3 : Nat) : Int) == 3) && ((x.k : Int) == 1)) = false := by simp; omega
  rw [e, cond_false, e1]; rfl
 | x :: y :: m, _ => by rw [zha, zcu, zih, List.append_nil]; rfl
theorem qew {t : Tr} (h : CR t) : zrf 3 (zbs 3 [t]) = t := by
 rw [zcu, zih, List.append_nil]
 by_cases h3 : t.k = 3
 ·have e : ((t.k : Int) == ((3 : Nat) : Int)) = true := by simp [h3]
  rw [e, cond_true]
  have hl := (zge ((zcd t).1 h).1 h3).1
  have he := eta_of h h3 (.inl rfl)
  match hm : t.l, hl with
  | x :: y :: m, _ => rw [zha, ← hm]; exact he.symm
  | [], hl => simp at hl
  | [x], hl => simp at hl
 ·have e : ((t.k : Int) == ((3 : Nat) : Int)) = false := by simp; omega
  rw [e, cond_false]
  by_cases h1 : t.k = 1
  ·rw [qnh h h1]; rfl
  ·have e1 : ((((3 : Nat) : Int) == 3) && ((t.k : Int) == 1)) = false := by simp; omega
   rw [e1]; rfl
def qkt (c : Int) : List AV := [.raw (.int .u8 c)]
theorem z4q : ∀ j : Nat, j < 256 → zyp .u8 (j : Int) 6 = ((j / 64 : Nat) : Int) ∧ z4d .u8 (j : Int) 63 = ((j % 64 : Nat) : Int) ∧ IntKind.u8.wrap (j : Int) = (j : Int) := by decide +kernel
theorem z0m {n : Nat} (h : n < 2 ^ 64) : IntKind.u64.wrap (n : Int) = (n : Int) := by
 simp only [IntKind.wrap, IntKind.bits, IntKind.signed]
 simp; omega
theorem zxy (w : BitVec 64) : IntKind.u64.wrap ((w.toNat : Nat) : Int) = ((w.toNat : Nat) : Int) := z0m w.isLt
theorem zpg (x : BitVec 64) : BitVec.ofInt 64 ((x.toNat : Nat) : Int) = x := by
 apply BitVec.eq_of_toNat_eq; simp
theorem orI64 (x y : BitVec 64) : orI .u64 (x.toNat : Int) (y.toNat : Int) = ((x ||| y).toNat : Int) := by
 show IntKind.u64.wrap (((BitVec.ofInt 64 (x.toNat : Int) ||| BitVec.ofInt 64 (y.toNat : Int)).toNat : Nat) : Int) = _
 rw [zpg, zpg]; exact zxy _
theorem qib (x y : BitVec 64) : zpz .u64 (x.toNat : Int) (y.toNat : Int) = ((x &&& ~~~ y).toNat : Int) := by
 show IntKind.u64.wrap (((BitVec.ofInt 64 (x.toNat : Int) &&& ~~~ BitVec.ofInt 64 (y.toNat : Int)).toNat : Nat) : Int) = _
 rw [zpg, zpg]; exact zxy _
theorem wd_or (a b : BS) (i : Nat) : orI .u64 (wd a i) (wd b i) = wd (a ||| b) i := by
 unfold wd
 rw [orI64]
 have : W64 a i ||| W64 b i = W64 (a ||| b) i := by
  apply BitVec.eq_of_getLsbD_eq
  intro j hj
  simp only [W64, BitVec.getLsbD_or, BitVec.getLsbD_extractLsb', hj, decide_true, Bool.true_and]
 rw [this]
theorem zyw (a b : BS) (i : Nat) (hi : i < 4) : zpz .u64 (wd a i) (wd b i) = wd (a &&& ~~~ b) i := by
 unfold wd
 rw [qib]
 have : W64 a i &&& ~~~ W64 b i = W64 (a &&& ~~~ b) i := by
  apply BitVec.eq_of_getLsbD_eq
  intro j hj
  simp only [W64, BitVec.getLsbD_and, BitVec.getLsbD_not, BitVec.getLsbD_extractLsb', hj, decide_true, Bool.true_and]
  have : 64 * i + j < 256 := by omega
  simp [this]
 rw [this]
theorem qiv (w : BitVec 64) (r : Nat) (hr : r < 64) : (z4d .u64 (zyp .u64 ((w.toNat : Nat) : Int) (r : Int)) 1 == 1) = w.getLsbD r := by
 have hw := w.isLt
 have h1 : zyp .u64 ((w.toNat : Nat) : Int) (r : Int) = ((w.toNat / 2 ^ r : Nat) : Int) := by
  unfold zyp
  rw [show min (r : Int).toNat IntKind.u64.bits = r from by simp [IntKind.bits]; omega]
  rw [Int.fdiv_eq_ediv_of_nonneg _ (by exact_mod_cast Nat.zero_le _)]
  norm_cast
 rw [h1]
 have h2 : w.toNat / 2 ^ r < 2 ^ 64 := Nat.lt_of_le_of_lt (Nat.div_le_self _ _) hw
 show (IntKind.u64.wrap (((BitVec.ofInt 64 ((w.toNat / 2 ^ r : Nat) : Int) &&& BitVec.ofInt 64 1).toNat : Nat) : Int) == 1) = _
 have h3 : (BitVec.ofInt 64 ((w.toNat / 2 ^ r : Nat) : Int) &&& BitVec.ofInt 64 1).toNat = w.toNat / 2 ^ r % 2 := by
  rw [BitVec.toNat_and]
  have e1 : (BitVec.ofInt 64 ((w.toNat / 2 ^ r : Nat) : Int)).toNat = w.toNat / 2 ^ r := by
   rw [BitVec.ofInt_natCast, BitVec.toNat_ofNat]; exact Nat.mod_eq_of_lt h2
  have e2 : (BitVec.ofInt 64 1).toNat = 1 := rfl
  rw [e1, e2, Nat.and_one_is_mod]
 rw [h3]
 have h4 : w.toNat / 2 ^ r % 2 < 2 := Nat.mod_lt _ (by decide)
 have h5 : IntKind.u64.wrap ((w.toNat / 2 ^ r % 2 : Nat) : Int) = ((w.toNat / 2 ^ r % 2 : Nat) : Int) := z0m (Nat.lt_trans h4 (by decide))
 rw [h5, BitVec.getLsbD, Nat.testBit_eq_decide_div_mod_eq]
 generalize w.toNat / 2 ^ r % 2 = m
 rw [Bool.eq_iff_iff]; simp only [beq_iff_eq, decide_eq_true_eq]; omega
def elN (s : BS) (i : Nat) : List Nat := (List.range i).filter fun j => s.getLsbD j
def els (s : BS) : List Int := (elN s 256).map fun (j : Nat) => (j : Int)
theorem z9t (s : BS) (i : Nat) : elN s (i + 1) = elN s i ++ (if s.getLsbD i = true then [i] else []) := by
 rw [elN, List.range_succ, List.filter_append]; simp [elN, List.filter_cons]
theorem z4o (s : BS) {i : Nat} (h : s.getLsbD i = true) : ∀ k, i < k → (elN s k)[(elN s i).length]? = some i
 | 0, hk => by omega
 | k + 1, hk => by
  rw [z9t]
  by_cases e : i = k
  ·subst e; rw [if_pos h]; simp
  ·have ih := z4o s h k (by omega)
   rw [List.getElem?_append_left (List.getElem?_eq_some_iff.1 ih).1]; exact ih
def zmv (x y : Int) : Int := if x < y then -1 else if x > y then 1 else 0
def zvk (p q : Nat → Bool) : List Nat → Int
 | [] => 0
 | j :: l => if p j = q j then zvk p q l else if p j = true then -1 else 1
def zwq (s t : BS) : Int := zvk s.getLsbD t.getLsbD (List.range 256)
theorem zsf (p q : Nat → Bool) : ∀ l, zvk p q l = - zvk q p l
 | [] => rfl
 | j :: l => by
  rw [zvk, zvk]
  by_cases h : p j = q j
  ·rw [if_pos h, if_pos h.symm, zsf p q l]
  ·rw [if_neg h, if_neg (Ne.symm h)]
   cases hp : p j <;> cases hq : q j <;> simp_all
theorem zvy (p q : Nat → Bool) : ∀ l, zvk p q l = -1 ∨ zvk p q l = 0 ∨ zvk p q l = 1
 | [] => .inr (.inl rfl)
 | j :: l => by
  rw [zvk]
  split
  ·exact zvy p q l
  ·split
   ·exact .inl rfl
   ·exact .inr (.inr rfl)
theorem z2b (p q : Nat → Bool) : ∀ l, zvk p q l = 0 ↔ ∀ j ∈ l, p j = q j
 | [] => by simp [zvk]
 | j :: l => by
  rw [zvk]
  by_cases h : p j = q j
  ·rw [if_pos h, z2b p q l]; simp [h]
  ·rw [if_neg h]
   constructor
   ·intro e; split at e <;> simp at e
   ·intro e; exact absurd (e j (by simp)) h
theorem zpc (p q r : Nat → Bool) : ∀ l, zvk p q l ≤ 0 → zvk q r l ≤ 0 → zvk p r l ≤ 0
 | [], _, _ => by simp [zvk]
 | j :: l, h1, h2 => by
  rw [zvk] at h1 h2 ⊢
  have ih := zpc p q r l
  cases hp : p j <;> cases hq : q j <;> cases hr : r j <;> simp [hp, hq, hr] at h1 h2 ⊢ <;> first | exact ih h1 h2 | skip
theorem z4b (s t : BS) : zwq s t = 0 ↔ s = t := by
 rw [zwq, z2b]
 constructor
 ·intro h; apply BitVec.eq_of_getLsbD_eq; intro j hj; exact h j (List.mem_range.2 hj)
 ·rintro rfl j _; rfl
theorem qfu {s : BS} {i : Nat} : elN s i = [] ↔ ∀ j, j < i → s.getLsbD j = false := by
 rw [elN, List.filter_eq_nil_iff]; simp
theorem zwj (p q : Nat → Bool) (d : Nat → Bool) (l : List Nat) (hd : ∀ j ∈ l, d j = (p j != q j)) : zvk p q l = (match l.filter d with | [] => 0 | c :: _ => if p c = true then -1 else 1) := by
 induction l with
 | nil => rfl
 | cons j l ih =>
  have h := hd j (by simp)
  rw [zvk, List.filter_cons]
  by_cases e : p j = q j
  ·rw [if_pos e, if_neg (by rw [h, e]; simp)]
   exact ih fun k hk => hd k (by simp [hk])
  ·have hb : d j = true := by rw [h]; simpa using e
   rw [if_neg e, hb]; rfl
def zeq (c d : Int) : Int := if c ≠ 0 then c else d
def z4n (mx : Int) : Int := if mx = -1 then 9223372036854775807 else mx
mutual
def zkq : Tr → Tr → Int
 | .mk k s mn mx l, .mk k' s' mn' mx' l' => if k ≠ k' then zmv k k' else if k = 2 then zwq s s' else if k = 5 then zeq (zeq (zmv mn mn') (zmv (z4n mx) (z4n mx'))) (zjv l l') else if k = 0 ∨ k = 1 then 0 else zjv l l'
def zjv : List Tr → List Tr → Int
 | [], [] => 0
 | [], _ :: _ => -1
 | _ :: _, [] => 1
 | x :: a, y :: b => zeq (zkq x y) (zjv a b)
end
theorem zuc (x y : Int) : zmv x y = - zmv y x := by unfold zmv; split <;> split <;> (try split) <;> omega
theorem zps (x y : Int) : zmv x y = -1 ∨ zmv x y = 0 ∨ zmv x y = 1 := by unfold zmv; split <;> (try split) <;> simp
theorem ztf (x y : Int) : zmv x y = 0 ↔ x = y := by unfold zmv; split <;> (try split) <;> omega
theorem zsy (x y : Int) : zmv x y ≤ 0 ↔ x ≤ y := by unfold zmv; split <;> (try split) <;> omega
theorem zmt {c d : Int} (h : c = -1 ∨ c = 0 ∨ c = 1) (k : d = -1 ∨ d = 0 ∨ d = 1) : zeq c d = -1 ∨ zeq c d = 0 ∨ zeq c d = 1 := by unfold zeq; split <;> assumption
theorem zpu {c d c' d' : Int} (h : c = -c') (k : d = -d') : zeq c d = - zeq c' d' := by unfold zeq; split <;> split <;> omega
theorem zpm {c d : Int} : zeq c d = 0 ↔ c = 0 ∧ d = 0 := by unfold zeq; split <;> omega
theorem ztv {m m' m'' d d' d'' : Int} (h : d ≤ 0 → d' ≤ 0 → d'' ≤ 0) : zeq (zmv m m') d ≤ 0 → zeq (zmv m' m'') d' ≤ 0 → zeq (zmv m m'') d'' ≤ 0 := by
 unfold zeq zmv
 repeat' split
 all_goals first | omega | (intro h1 h2; first | omega | exact h h1 h2)
theorem z6b {xy yx yz zy xz zx d d' d'' : Int} (a1 : xy = -yx) (a2 : yz = -zy) (a3 : xz = -zx) (t1 : xy ≤ 0 → yz ≤ 0 → xz ≤ 0) (t2 : yz ≤ 0 → zx ≤ 0 → yx ≤ 0) (t3 : zx ≤ 0 → xy ≤ 0 → zy ≤ 0) (h : d ≤ 0 → d' ≤ 0 → d'' ≤ 0) :
 zeq xy d ≤ 0 → zeq yz d' ≤ 0 → zeq xz d'' ≤ 0 := by
 unfold zeq
 intro h1 h2
 split at h1 <;> split at h2 <;> split <;> first | omega | exact h h1 h2
def SetG (S : Tr → Prop) : Prop := (∀ x y, S x → S y → zkq x y = - zkq y x) ∧ (∀ x y z, S x → S y → S z → zkq x y ≤ 0 → zkq y z ≤ 0 → zkq x z ≤ 0)
theorem z3e {S : Tr → Prop} (g : SetG S) : ∀ a b, (∀ x ∈ a, S x) → (∀ x ∈ b, S x) → zjv a b = - zjv b a
 | [], [], _, _ => by simp [zjv]
 | [], _ :: _, _, _ => by simp [zjv]
 | _ :: _, [], _, _ => by simp [zjv]
 | x :: a, y :: b, ha, hb => by
  rw [zjv, zjv]
  exact zpu (g.1 x y (ha x (by simp)) (hb y (by simp))) (z3e g a b (fun z hz => ha z (by simp [hz])) (fun z hz => hb z (by simp [hz])))
theorem zwo {S : Tr → Prop} (g : SetG S) : ∀ a b c, (∀ x ∈ a, S x) → (∀ x ∈ b, S x) → (∀ x ∈ c, S x) → zjv a b ≤ 0 → zjv b c ≤ 0 → zjv a c ≤ 0
 | [], b, [], _, _, _ => by intros; simp [zjv]
 | [], b, _ :: _, _, _, _ => by intros; simp [zjv]
 | x :: a, [], c, _, _, _ => by intro h; simp [zjv] at h
 | x :: a, y :: b, [], _, _, _ => by intro _ h; simp [zjv] at h
 | x :: a, y :: b, z :: c, ha, hb, hc => by
  rw [zjv, zjv, zjv]
  have sx := ha x (by simp); have sy := hb y (by simp); have sz := hc z (by simp)
  exact z6b (g.1 x y sx sy) (g.1 y z sy sz) (g.1 x z sx sz) (g.2 x y z sx sy sz) (fun h1 h2 => g.2 y z x sy sz sx h1 h2) (fun h1 h2 => g.2 z x y sz sx sy h1 h2)
   (zwo g a b c (fun w hw => ha w (by simp [hw])) (fun w hw => hb w (by simp [hw])) (fun w hw => hc w (by simp [hw])))
theorem z6d : ∀ n, SetG fun t => (pre t).length ≤ n
 | 0 => ⟨fun x y h => by have h : (pre x).length ≤ 0 := h; rw [zdi] at h; simp at h, fun x y z h => by have h : (pre x).length ≤ 0 := h; rw [zdi] at h; simp at h⟩
 | n + 1 => by
  have g := z6d n
  have sub : ∀ t : Tr, (pre t).length ≤ n + 1 → ∀ x ∈ t.l, (pre x).length ≤ n := fun t h x hx => by
   have h1 := zcc hx
   rw [zdi] at h; simp at h; omega
  constructor
  ·rintro ⟨k, s, mn, mx, l⟩ ⟨k', s', mn', mx', l'⟩ h1 h2
   have s1 := sub _ h1
   have s2 := sub _ h2
   simp only [Tr.l] at s1 s2
   have hl := z3e g l l' s1 s2
   rw [zkq, zkq]
   by_cases e : k = k'
   ·subst e
    simp only [ne_eq, not_true_eq_false, if_false]
    split
    ·exact zsf _ _ _
    split
    ·exact zpu (zpu (zuc _ _) (zuc _ _)) hl
    split
    ·rfl
    ·exact hl
   ·rw [if_pos e, if_pos (Ne.symm e)]; exact zuc _ _
  ·rintro ⟨k, s, mn, mx, l⟩ ⟨k', s', mn', mx', l'⟩ ⟨k'', s'', mn'', mx'', l''⟩ h1 h2 h3
   have s1 := sub _ h1
   have s2 := sub _ h2
   have s3 := sub _ h3
   simp only [Tr.l] at s1 s2 s3
   have hl := zwo g l l' l'' s1 s2 s3
   rw [zkq, zkq, zkq]
   by_cases e : k = k'
   ·subst e
    by_cases e2 : k = k''
    ·subst e2
     simp only [ne_eq, not_true_eq_false, if_false]
     split
     ·exact zpc _ _ _ _
     split
     ·rename_i h5
      have key : ∀ (a b c a' b' c' : Int) (d d' d'' : Int), (d ≤ 0 → d' ≤ 0 → d'' ≤ 0) → zeq (zeq (zmv a b) (zmv a' b')) d ≤ 0 → zeq (zeq (zmv b c) (zmv b' c')) d' ≤ 0 → zeq (zeq (zmv a c) (zmv a' c')) d'' ≤ 0 := by
       intro a b c a' b' c' d d' d'' h
       have asc : ∀ x y z : Int, zeq (zeq x y) z = zeq x (zeq y z) := fun x y z => by
        unfold zeq
        by_cases hx : x = 0
        ·simp [hx]
        ·simp [hx]
       rw [asc, asc, asc]
       exact ztv (ztv h)
      exact key _ _ _ _ _ _ _ _ _ hl
     split
     ·intros; omega
     ·exact hl
    ·intro _ h
     rw [if_pos (by simpa using e2)] at h ⊢
     rw [zsy] at h ⊢; exact h
   ·rw [if_pos (show k ≠ k' from e)]
    intro h
    rw [zsy] at h
    by_cases e2 : k' = k''
    ·subst e2
     intro _
     rw [if_pos (show k ≠ k' from e)]
     rw [zsy]; exact h
    ·rw [if_pos (show k' ≠ k'' from e2)]
     intro h'
     rw [zsy] at h'
     rw [if_pos (show k ≠ k'' by omega), zsy]; omega
theorem zgy (x y : Tr) : zkq x y = - zkq y x := (z6d (max (pre x).length (pre y).length)).1 x y (Nat.le_max_left _ _) (Nat.le_max_right _ _)
theorem zhh (x y z : Tr) : zkq x y ≤ 0 → zkq y z ≤ 0 → zkq x z ≤ 0 := (z6d ((pre x).length + (pre y).length + (pre z).length)).2 x y z (by omega) (by omega) (by omega)
theorem qkh (x : Tr) : zkq x x = 0 := by have := zgy x x; omega
mutual
theorem qbe : ∀ x y, zkq x y = -1 ∨ zkq x y = 0 ∨ zkq x y = 1
 | .mk k s mn mx l, .mk k' s' mn' mx' l' => by
  rw [zkq]
  have hl := zvq l l'
  split
  ·exact zps _ _
  split
  ·exact zvy _ _ _
  split
  ·exact zmt (zmt (zps _ _) (zps _ _)) hl
  split
  ·exact .inr (.inl rfl)
  ·exact hl
theorem zvq : ∀ a b, zjv a b = -1 ∨ zjv a b = 0 ∨ zjv a b = 1
 | [], [] => by simp [zjv]
 | [], _ :: _ => by simp [zjv]
 | _ :: _, [] => by simp [zjv]
 | x :: a, y :: b => by rw [zjv]; exact zmt (qbe x y) (zvq a b)
end
theorem zyz {k : Nat} {s : BS} {mn mx : Int} {l : List Tr} (h : zds (.mk k s mn mx l) = true) : (k ≠ 2 → s = 0#256) ∧ (k ≠ 5 → mn = 0 ∧ mx = 0) ∧ (k < 3 → l = []) ∧ (k = 5 → mx = -1 ∨ (1 ≤ mx ∧ mx ≤ 16)) := by
 have hk := zkc h
 simp only [Tr.k] at hk
 rw [zdx, Bool.and_eq_true, zlh] at h
 obtain ⟨h1, h2⟩ := h
 simp only [Bool.not_eq_true', Bool.or_eq_false_iff, Bool.and_eq_false_iff] at h1
 obtain ⟨⟨a, b⟩, c⟩ := h1
 refine ⟨fun h => ?_, fun h => ?_, fun h => ?_, fun h => ?_⟩
 ·rcases a with a | a
  ·simp at a; omega
  ·simpa using a
 ·rcases b with b | b
  ·simp at b; omega
  ·simp at b; exact b
 ·rcases c with c | c
  ·simp at c; omega
  ·cases l with
   | nil => rfl
   | cons x l => simp at c
 ·subst h
  simp [zdp] at h2
  have := h2.1.2
  omega
mutual
theorem qic : ∀ x y, CR x → CR y → zkq x y = 0 → x = y
 | .mk k s mn mx l, .mk k' s' mn' mx' l', hx, hy, h => by
  rw [zcd] at hx hy
  simp only [Tr.l] at hx hy
  obtain ⟨a1, a2, a3, a4⟩ := zyz hx.1
  obtain ⟨b1, b2, b3, b4⟩ := zyz hy.1
  have hk := zkc hx.1
  simp only [Tr.k] at hk
  rw [zkq] at h
  by_cases e : k = k'
  ·subst e
   simp only [ne_eq, not_true_eq_false, if_false] at h
   split at h
   ·rename_i h2
    rw [(z4b s s').1 h, (a2 (by omega)).1, (a2 (by omega)).2, (b2 (by omega)).1, (b2 (by omega)).2, a3 (by omega), b3 (by omega)]
   split at h
   ·rename_i h2 h5
    rw [zpm, zpm, ztf, ztf] at h
    have a5 := a4 h5
    have b5 := b4 h5
    have hm : mx = mx' := by
     have := h.1.2
     unfold z4n at this
     split at this <;> split at this <;> omega
    rw [a1 h2, b1 h2, h.1.1, hm, z4s l l' hx.2 hy.2 h.2]
   split at h
   ·rename_i h2 h5 h0
    rw [a1 h2, b1 h2, (a2 h5).1, (a2 h5).2, (b2 h5).1, (b2 h5).2, a3 (by omega), b3 (by omega)]
   ·rename_i h2 h5 h0
    rw [a1 h2, b1 h2, (a2 h5).1, (a2 h5).2, (b2 h5).1, (b2 h5).2, z4s l l' hx.2 hy.2 h]
  ·rw [if_pos e, ztf] at h; omega
theorem z4s : ∀ a b, CRL a → CRL b → zjv a b = 0 → a = b
 | [], [], _, _, _ => rfl
 | [], _ :: _, _, _, h => by simp [zjv] at h
 | _ :: _, [], _, _, h => by simp [zjv] at h
 | x :: a, y :: b, ha, hb, h => by
  rw [zau] at ha hb
  rw [zjv, zpm] at h
  rw [qic x y ha.1 hb.1 h.1, z4s a b ha.2 hb.2 h.2]
end
def z3z (t : Tr) : List AV := [.raw (.int .u8 t.k), .raw (.int .u64 (wd t.s 0)), .raw (.int .u64 (wd t.s 1)), .raw (.int .u64 (wd t.s 2)), .raw (.int .u64 (wd t.s 3)), .raw (.int .i64 t.mn), .raw (.int .i64 t.mx), .list t.l.length (cellsL t.l) .none]
theorem ztt (t : Tr) : cells t = z3z t := qlc t
instance : Enc Tr where
 inh := noneT
 cells := z3z
 cellsL := cellsL
 sz := 8
 pos := by decide
 nil := by simp [cellsL]
 cons a l := by rw [cellsL, ztt]
 len _ := rfl
 clo t := by rw [← ztt]; exact z2g t
theorem enc_eq (t : Tr) : enc t = .agg (Enc.cells t) := by rw [enc, ztt]; rfl
theorem qas {E : Int} (g : 0 ≤ E) (s : BS) (mn mx : Int) (l : List Tr) : AV.agg (Enc.cells (Tr.mk (Int.toNat E) s mn mx l)) = .agg [.raw (.int .u8 E), .raw (.int .u64 (wd s 0)), .raw (.int .u64 (wd s 1)), .raw (.int .u64 (wd s 2)), .raw (.int .u64 (wd s 3)), .raw (.int .i64 mn), .raw (.int .i64 mx), .list l.length (cellsL l) .none] := by
 show AV.agg (z3z _) = _
 simp only [z3z, Tr.k, Tr.s, Tr.mn, Tr.mx, Tr.l, Int.toNat_of_nonneg g]
def zca (t : Tr) (st : Room) : AV := .agg [.raw (.int .u8 t.k), .raw (.int .u64 (wd t.s 0)), .raw (.int .u64 (wd t.s 1)), .raw (.int .u64 (wd t.s 2)), .raw (.int .u64 (wd t.s 3)), .raw (.int .i64 t.mn), .raw (.int .i64 t.mx), .list t.l.length (cellsL t.l) st]
theorem zj (t : Tr) (st : Room) : zcs (zca t st) = .agg (Enc.cells t) := by
 simp only [zca, zcs, stripL, ziu]; rfl
def qnw (s : BS) : List AV := [.raw (.int .u64 (wd s 0)), .raw (.int .u64 (wd s 1)), .raw (.int .u64 (wd s 2)), .raw (.int .u64 (wd s 3))]
instance : Enc BS where
 inh := 0#256
 cells := qnw
 cellsL l := l.flatMap qnw
 sz := 4
 pos := by decide
 nil := rfl
 cons _ _ := rfl
 len _ := rfl
 clo _ := rfl
instance : Enc Sm where
 inh := (0, 0, 0)
 cells := smc
 cellsL := qob
 sz := 3
 pos := by decide
 nil := by simp [qob]
 cons _ _ := by simp [qob]
 len _ := rfl
 clo _ := rfl
structure Rgx where
 b : Bool
 e : Bool
 t : Tr
def qmz (r : Rgx) : List AV := .raw (.bool r.b) :: .raw (.bool r.e) :: z3z r.t
instance : Enc Rgx where
 inh := ⟨false, false, noneT⟩
 cells := qmz
 cellsL l := l.flatMap qmz
 sz := 10
 pos := by decide
 nil := rfl
 cons _ _ := rfl
 len _ := rfl
 clo r := by have := Enc.clo r.t; exact this
def zuq (t : Tr) : List AV := [.agg (Enc.cells t)]
theorem zic {t : Tr} (h : (pre t).length ≤ 10000) : zbq t = true := by simpa [zbq] using h
theorem znx {α : Type} [Enc α] {l : List α} {i : Nat} (h : i < l.length) : ix l (i : Int) = l[i] := by simp [ix, h]
def qiw (k : Int) (s : BS) (mn mx : Int) (l : List Tr) (st : Room) : AV := .agg [.raw (.int .u8 k), .raw (.int .u64 (wd s 0)), .raw (.int .u64 (wd s 1)), .raw (.int .u64 (wd s 2)), .raw (.int .u64 (wd s 3)), .raw (.int .i64 mn), .raw (.int .i64 mx), .list l.length (cellsL l) st]
theorem ztz {k : Int} (g : 0 ≤ k) (s : BS) (mn mx : Int) (l : List Tr) (st : Room) : zcs (qiw k s mn mx l st) = .agg (Enc.cells (Tr.mk k.toNat s mn mx l)) := by
 rw [qas g]; simp only [qiw, zcs, stripL, ziu]
end Go.Ab
