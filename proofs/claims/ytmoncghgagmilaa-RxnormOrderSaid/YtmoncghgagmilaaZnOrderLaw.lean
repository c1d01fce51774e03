/-
  The law RxnormOrder of the given program returns true, whatever the slices are, and what came in reads as it did. No condition.
-/
import Derived.Test.YtmoncghgagmilaaZnNg
import Derived.Test.YtmoncghgagmilaaZnNf
import Derived.Test.YtmoncghgagmilaaZdQr
import Derived.Test.YtmoncghgagmilaaZnV3
import Derived.Test.YtmoncghgagmilaaZdCq
import Derived.Test.YtmoncghgagmilaaZnX2
import Derived.Test.YtmoncghgagmilaaZnVb
import Derived.ProofKit
import Derived.Laws.IdiomArrays
import Derived.Deep.Slices
import Derived.Deep.Fields
import Derived.ChangeSame
set_option linter.unusedSimpArgs false
set_option linter.unusedVariables false
namespace Go.Ab
open Go Go.RowKit Go.Fwd Go.Proofs
theorem zzh (k : Nat) (s : BS) (mn mx : Int) (l : List Tr) (h : k ≠ 6) : plainT (.mk k s mn mx l) = l.all plainT := by
 rw [zfr]
 simp only [Tr.k, Tr.l, h, decide_false, Bool.not_false, Bool.true_and]
 induction l with
 | nil => rfl
 | cons x l ih => rw [List.any_cons, List.all_cons, Bool.not_or, ih, Bool.not_not]
theorem plain_k {t : Tr} (h : t.k ≠ 6) : plainT t = t.l.all plainT := by obtain ⟨k, s, mn, mx, l⟩ := t; exact zzh k s mn mx l h
theorem zxa : plainT emptyT = true := by rw [emptyT, zzh _ _ _ _ _ (by decide)]; rfl
theorem zqf (kind : Nat) (h6 : kind ≠ 6) : ∀ {l : List Tr}, CRL l → (zbd kind l).all plainT = l.all plainT
 | [], _ => rfl
 | x :: l, h => by
  rw [zap] at h
  rw [zd6, List.all_append, List.all_cons, zqf kind h6 h.2]
  congr 1
  cases hk : ((x.k : Int) == kind) with
  | true =>
   have e : x.k = kind := by have := eq_of_beq hk; omega
   rw [cond_true, plain_k (by omega)]
  | false =>
   rw [cond_false]
   cases hq : ((kind : Int) == 3 && (x.k : Int) == 1) with
   | true =>
    rw [Bool.and_eq_true] at hq
    have e : x.k = 1 := by have := eq_of_beq hq.2; omega
    rw [z72 h.1 e, zxa]; rfl
   | false => simp
theorem zv7 {l : List Tr} (h : CLn 997 l) (hp : l.all plainT = true) (hne : l ≠ []) :
 CS 998 (orT l) ∧ normT (orT l) = ztj (zbd 4 ((zbd 4 l).map normT)) ∧ GdL (zbd 4 ((zbd 4 l).map normT)) := by
 have hh := h.2
 obtain ⟨o1, o2⟩ := zww h hne (by omega)
 have hcs : CS 998 (orT l) := ⟨o1, by omega⟩
 have eo : orT l = zqc 4 (zbd 4 l) := z3k h.1 hne (by omega)
 have g4 := zfg h.1
 have hsz := zhf l hh
 have hpf : (zbd 4 l).all plainT = true := by rw [zqf 4 (by decide) h.1]; exact hp
 have hmem : ∀ x ∈ zbd 4 l, CS 998 x ∧ plainT x = true := fun x hx => ⟨⟨(zcq _).1 g4.1 x hx, by have := zbr hx; omega⟩, List.all_eq_true.1 hpf x hx⟩
 have hnl : NFL ((zbd 4 l).map normT) := fun z hz => by
  obtain ⟨y, hy, rfl⟩ := List.mem_map.1 hz
  obtain ⟨a1, a2⟩ := hmem y hy
  exact z34 _ y (Nat.le_refl _) a1 a2
 refine ⟨hcs, ?_⟩
 rw [eo] at hcs ⊢
 rcases hfl : zbd 4 l with _ | ⟨x, _ | ⟨y, m⟩⟩
 ·exact absurd hfl (znp h.1 hne)
 ·rw [hfl] at hmem hnl hcs
  rw [zfm] at hcs ⊢
  have hx := hnl (normT x) (by simp)
  have hxs := zwn hcs
  have hcx := hcs.2
  have hsz1 : (zai ([x].map normT)).length ≤ 998 := by simp [zai]; omega
  refine ⟨?_, z5o ((zl5 4 hnl).cln (zhf _ hsz1)) (by omega)⟩
  rw [List.map_cons, List.map_nil, zd6, z14, List.append_nil]
  by_cases hk : (normT x).k = 4
  ·have e : (((normT x).k : Int) == ((4 : Nat) : Int)) = true := by simp [hk]
   rw [e, cond_true, hx.ok.2.2.2.2 hk]
  ·have e : (((normT x).k : Int) == ((4 : Nat) : Int)) = false := by simp; omega
   have e1 : ((((4 : Nat) : Int) == 3) && (((normT x).k : Int) == 1)) = false := by simp
   rw [e, cond_false, e1, cond_false, zzc hx.cr hk (by omega)]
 ·rw [hfl] at hmem hnl hcs
  rw [zd5] at hcs ⊢
  have hmc := zxf hcs
  refine ⟨?_, z5o ((zl5 4 hnl).cln (zhf _ hmc.2)) (by omega)⟩
  rw [znz, z0j, if_neg (by simp [Tr.k]), if_neg (by simp [Tr.k]), if_neg (by simp [Tr.k]), if_pos (by simp [Tr.k])]
  exact z32 hnl (by simp [Tr.l]) (by have q : (zai ((x :: y :: m).map normT)).length ≤ 997 := hmc.2; show (zai ((x :: y :: m).map normT)).length ≤ 998; omega)
theorem zro (kind : Nat) {l m : List Tr} (h : ∀ z, z ∈ l ↔ z ∈ m) (z : Tr) : z ∈ zbd kind l ↔ z ∈ zbd kind m := by
 unfold zbd
 rw [List.mem_flatMap, List.mem_flatMap]
 exact ⟨fun ⟨x, h1, h2⟩ => ⟨x, (h x).1 h1, h2⟩, fun ⟨x, h1, h2⟩ => ⟨x, (h x).2 h1, h2⟩⟩
theorem zkh {l m : List Tr} (h : CLn 997 l) (hm : CLn 997 m) (hp : l.all plainT = true) (hne : l ≠ []) (e : ∀ z, z ∈ l ↔ z ∈ m) : normT (orT l) = normT (orT m) := by
 have hpm : m.all plainT = true := by
  rw [List.all_eq_true] at hp ⊢
  exact fun z hz => hp z ((e z).2 hz)
 have hnm : m ≠ [] := fun q => by
  subst q
  rcases l with _ | ⟨x, l⟩
  ·exact hne rfl
  ·exact absurd ((e x).1 (by simp)) (by simp)
 obtain ⟨a1, a2, a3⟩ := zv7 h hp hne
 obtain ⟨b1, b2, b3⟩ := zv7 hm hpm hnm
 rw [a2, b2]
 refine zzv a3 fun z => zro 4 (fun y => ?_) z
 rw [List.mem_map, List.mem_map]
 exact ⟨fun ⟨x, h1, h2⟩ => ⟨x, (zro 4 e x).1 h1, h2⟩, fun ⟨x, h1, h2⟩ => ⟨x, (zro 4 e x).2 h1, h2⟩⟩
end Go.Ab
set_option linter.unusedSimpArgs false
set_option linter.unusedVariables false
set_option maxRecDepth 100000
set_option maxHeartbeats 4000000
namespace Go.Ab
open Go Go.RowKit Go.Fwd Go.Proofs
end Go.Ab
set_option linter.unusedSimpArgs false
set_option linter.unusedVariables false
namespace Go.Ab
open Go Go.RowKit Go.Fwd Go.Proofs
theorem zys {t : Tr} (h : CS 998 t) : zmg t = (normT t, 0) := by rw [zmg, if_pos (h.clean (by omega))]
theorem z5e {t : Tr} {n : Nat} (h : CS n t) (hn : n ≤ 10000) : zfc t t = true := zpc (h.light hn)
end Go.Ab
set_option linter.unusedSimpArgs false
set_option linter.unusedVariables false
namespace Go.Ab
open Go Go.RowKit Go.Fwd Go.Proofs
def plT (L : List (List Sm)) : List Tr := (L.map zkr).filter zks
theorem z60 (L : List (List Sm)) (i : Nat) (hi : i < L.length) : plT (L.take (i + 1)) = plT (L.take i) ++ (if zks (zkr L[i]) = true then [zkr L[i]] else []) := by
 unfold plT
 rw [List.take_succ_eq_append_getElem hi, List.map_append, List.filter_append]
 congr 1
 rw [List.map_cons, List.map_nil, List.filter_cons, List.filter_nil]
theorem plT_mem {L : List (List Sm)} {x : Tr} (h : x ∈ plT L) : CS 50 x ∧ plainT x = true := by
 obtain ⟨h1, h2⟩ := List.mem_filter.1 h
 obtain ⟨m, hm, rfl⟩ := List.mem_map.1 h1
 rw [zks, Bool.and_eq_true] at h2
 exact ⟨(z1t m).cs, h2.2⟩
theorem zq9 {n : Nat} : ∀ {l : List Tr}, (∀ x ∈ l, (pre x).length ≤ n) → (zai l).length ≤ n * l.length
 | [], _ => by simp [zai]
 | x :: l, h => by
  have h1 := h x (by simp)
  have h2 := zq9 (l := l) fun y hy => h y (by simp [hy])
  rw [zai, List.length_append, List.length_cons, Nat.mul_succ]; omega
theorem zyc : zbj noneT = false := by decide +kernel
theorem ab_ok : (zbj (orT [zpw [97], zpw [98]]) && decide ((pre (orT [zpw [97], zpw [98]])).length ≤ 998) && crT (orT [zpw [97], zpw [98]]) && zim (normT (orT [zpw [97], zpw [98]])) (zpw [97, 98])) = true := by decide +kernel
theorem z58 (j k l : List Sm) (hj : j.length < 2 ^ 63 ∧ ∀ y ∈ j, y.2.1 < 256) (hk : k.length < 2 ^ 63 ∧ ∀ y ∈ k, y.2.1 < 256) (hl : l.length < 2 ^ 63 ∧ ∀ y ∈ l, y.2.1 < 256) : zrp 5 j k l = some true := by
 obtain ⟨L, hL⟩ : ∃ L, L = [j, k, l] := ⟨_, rfl⟩
 have hlen : L.length = 3 := by rw [hL]; rfl
 have hall : ∀ m ∈ L, m.length < 2 ^ 63 ∧ ∀ y ∈ m, y.2.1 < 256 := fun m hm => by
  rw [hL] at hm
  simp only [List.mem_cons, List.not_mem_nil, or_false] at hm
  rcases hm with rfl | rfl | rfl
  ·exact hj
  ·exact hk
  ·exact hl
 have hpl : ∀ i, (plT (L.take i)).length ≤ 3 := fun i => by
  have h1 := List.length_filter_le zks ((L.take i).map zkr)
  have h2 := List.length_take_le i L
  have h3 : (L.take i).length ≤ L.length := by rw [List.length_take]; omega
  rw [List.length_map] at h1
  unfold plT; omega
 unfold zrp
 rw [← hL]
 refine zc1 (plT L) ?_ ?_
 ·refine zfz 3 (fun i => (plT (L.take i), (i : Int))) (by simp [plT]) (fun i hi => ?_) ?_ (by decide)
  ·have hi' : i < L.length := by omega
   refine zby (by simp; omega) ?_
   refine zc1 (plT (L.take (i + 1))) ?_ (zt (by simp only; omega) (by simp))
   have hx : ix L (i : Int) = L[i] := zdz hi'
   simp only [hx]
   obtain ⟨m, hm⟩ : ∃ m, m = L[i] := ⟨_, rfl⟩
   have hmem := hall L[i] (List.getElem_mem hi')
   rw [z60 L i hi', ← hm]
   rw [← hm] at hmem
   refine zt (by omega) (zt hmem (zaj fun x1 e1 => ?_))
   have hc : CS 50 x1 := by rw [← e1]; exact (z1t m).cs
   have hs := hc.2
   rw [e1]
   refine zt (by omega) (zaj fun x2 e2 => ?_)
   have hp := hpl i
   cases x2 with
   | true => rw [if_pos e2]; exact zby rfl (zt (by simp only [List.length_cons, List.length_nil]; omega) rfl)
   | false => rw [if_neg (by rw [e2]; decide), List.append_nil]; rfl
  ·refine zbv (by simp; omega) ?_
   rw [List.take_of_length_le (by omega)]
 obtain ⟨A, hA⟩ : ∃ A, A = plT L := ⟨_, rfl⟩
 have hA3 : A.length ≤ 3 := by have := hpl 3; rw [List.take_of_length_le (by omega)] at this; rw [hA]; exact this
 have hAm : ∀ x ∈ A, CS 50 x ∧ plainT x = true := fun x hx => by rw [hA] at hx; exact plT_mem hx
 rw [← hA]
 clear hA
 -- lists of these trees
 have hB : ∀ B : List Tr, (∀ x ∈ B, x ∈ A) → B.length ≤ 6 → CLn 300 B ∧ B.all plainT = true := fun B hb hn => by
  have := zq9 (n := 50) (l := B) fun x hx => (hAm x (hb x hx)).1.2
  refine ⟨⟨(zcq B).2 fun x hx => (hAm x (hb x hx)).1.1, by omega⟩, List.all_eq_true.2 fun x hx => (hAm x (hb x hx)).2⟩
 have key : ∀ B : List Tr, (∀ x ∈ B, x ∈ A) → B.length ≤ 6 → B ≠ [] → CS 998 (orT B) ∧ (zai B).length ≤ 300 ∧ zmg (orT B) = (normT (orT B), 0) ∧ (pre (orT B)).length ≤ 998 ∧ CS 998 (normT (orT B)) := fun B hb hn hne => by
  obtain ⟨b1, b2⟩ := hB B hb hn
  have hc := (zv7 (b1.mono (by omega)) b2 hne).1
  have hle := zwn hc
  have := hc.2
  exact ⟨hc, b1.2, zys hc, hc.2, norm_cr hc, by omega⟩
 obtain ⟨a1, a2⟩ := hB A (fun x h => h) (by omega)
 have a12 := a1.2
 refine zt (by omega) (zaj fun x3 e3 => ?_)
 rcases hAe : A with _ | ⟨x, T⟩
 ·subst hAe
  rw [zvh] at e3
  subst e3
  refine zt ⟨.inr zyc, by decide +kernel⟩ (zaj fun x4 e4 => zby rfl ?_)
  rw [← e4, zmg, zyc]; rfl
 rw [← hAe]
 have hne : A ≠ [] := by rw [hAe]; simp
 have hxm : x ∈ A := by rw [hAe]; simp
 have hTm : ∀ y ∈ T, y ∈ A := fun y hy => by rw [hAe]; simp [hy]
 have hlT : T.length + 1 = A.length := by rw [hAe]; rfl
 obtain ⟨k1, k2, k3, k4, k5⟩ := key A (fun x h => h) (by omega) hne
 rw [e3] at k1 k3 k4 k5
 refine zt ⟨.inl k1, by omega⟩ (zaj fun x4 e4 => ?_)
 rw [k3] at e4
 subst e4
 have hlt : ((A.length : Int) == 0) = false := by simp; omega
 refine zbv hlt (zbv rfl ?_)
 have hsub : sub A 1 (A.length : Int) = T := by rw [sub]; simp [hAe]
 have hix : ix A (0 : Int) = x := by rw [hAe]; rfl
 rw [hsub, hix]
 refine zt (by omega) (zt (by simp only [List.length_nil]; omega) (zt (by omega) (zaj fun x5 e5 => ?_)))
 subst e5
 refine zt (by simp only [List.length_append, List.length_cons, List.length_nil]; omega) (zt (by simp only [List.length_append, List.length_cons, List.length_nil]; omega) (zt (by simp only [List.length_append, List.length_cons, List.length_nil]; omega) ?_))
 have mem1 : ∀ z, z ∈ A ↔ z ∈ T ++ [x] := fun z => by rw [hAe]; simp [or_comm]
 have mem2 : ∀ z, z ∈ A ↔ z ∈ T ++ [x] ++ A := fun z => by rw [List.mem_append, ← mem1]; simp
 have r1 : CLn 300 (T ++ [x]) ∧ _ := hB (T ++ [x]) (fun y hy => (mem1 y).2 hy) (by simp only [List.length_append, List.length_cons, List.length_nil]; omega)
 have r2 : CLn 300 (T ++ [x] ++ A) ∧ _ := hB (T ++ [x] ++ A) (fun y hy => (mem2 y).2 hy) (by simp only [List.length_append, List.length_cons, List.length_nil]; omega)
 have q1 := key (T ++ [x]) (fun y hy => (mem1 y).2 hy) (by simp only [List.length_append, List.length_cons, List.length_nil]; omega) (by simp)
 have q2 := key (T ++ [x] ++ A) (fun y hy => (mem2 y).2 hy) (by simp only [List.length_append, List.length_cons, List.length_nil]; omega) (by simp)
 have n1 : normT (orT (T ++ [x])) = normT x3 := by rw [← e3]; exact (zkh (a1.mono (by omega)) (r1.1.mono (by omega)) a2 hne mem1).symm
 have n2 : normT (orT (T ++ [x] ++ A)) = normT x3 := by rw [← e3]; exact (zkh (a1.mono (by omega)) (r2.1.mono (by omega)) a2 hne mem2).symm
 have hboth : ∀ B ∈ [T ++ [x], T ++ [x] ++ A], (zai B).length ≤ 300 ∧ CS 998 (orT B) ∧ zmg (orT B) = (normT x3, 0) := fun B hb => by
  simp only [List.mem_cons, List.not_mem_nil, or_false] at hb
  rcases hb with rfl | rfl
  ·exact ⟨q1.2.1, q1.1, by rw [q1.2.2.1, n1]⟩
  ·exact ⟨q2.2.1, q2.1, by rw [q2.2.2.1, n2]⟩
 have k52 := k5.2
 have hD2 : [T ++ [x], T ++ [x] ++ A].length = 2 := rfl
 generalize hD : [T ++ [x], T ++ [x] ++ A] = D at hboth hD2
 rw [show [[] ++ T ++ [x], [] ++ ([] ++ T ++ [x]) ++ A] = D from hD]
 refine zc1 () ?_ ?_
 ·refine zfz 2 (fun i => (i : Int)) rfl (fun i hi => ?_) (zbv (by simp; omega) rfl) (by decide)
  have hi' : i < D.length := by omega
  refine zby (by simp; omega) (zt (by omega) (zaj fun x6 e6 => ?_))
  rw [zdz hi'] at e6
  obtain ⟨c1, c2, c3⟩ := hboth D[i] (List.getElem_mem hi')
  rw [e6] at c1 c2 c3
  have := c2.2
  refine zt (by omega) (zaj fun x7 e7 => ?_)
  rw [e7] at c2 c3
  refine zt ⟨.inl c2, by have := c2.2; omega⟩ (zaj fun x8 e8 => ?_)
  rw [c3] at e8
  subst e8
  refine zbv rfl (zt ⟨by simp only; omega, by simp only; omega⟩ (zaj fun x9 e9 => ?_))
  have : x9 = true := by rw [← e9]; exact z5e k5 (by omega)
  subst this
  exact zbv rfl (zt (by omega) (by simp))
 ·have hab := ab_ok
  simp only [Bool.and_eq_true, decide_eq_true_eq] at hab
  obtain ⟨⟨⟨b1, b2⟩, b3⟩, b4⟩ := hab
  have hcs : CS 998 (orT [zpw [97], zpw [98]]) := ⟨b3, b2⟩
  refine zt (by decide) (zaj fun x10 e10 => zt (by decide) (zaj fun x11 e11 => zt ?_ (zaj fun x12 e12 => ?_)))
  ·rw [← e10, ← e11]; decide +kernel
  rw [← e10, ← e11] at e12
  rw [e12] at hcs b4
  refine zt ⟨.inl hcs, by have := hcs.2; omega⟩ (zaj fun x13 e13 => ?_)
  rw [zys hcs] at e13
  subst e13
  have h98 := (zho _ _).1 b4
  refine zby rfl (zt (by decide) (zaj fun x14 e14 => ?_))
  subst e14
  rw [h98]
  refine zt ⟨by decide +kernel, by decide +kernel⟩ (zaj fun x15 e15 => ?_)
  rw [← e15]
  exact congrArg some (zpc (by decide +kernel))
end Go.Ab
set_option linter.unusedSimpArgs false
set_option linter.unusedVariables false
namespace Go.Ab
open Go Go.RowKit Go.Fwd Go.Proofs Go.ChangeShapes Go.WideShapes Go.ChangeAt Go.Deep
theorem ownLess : ownKnob Try.prog.godebug = none := by kernel_rfl
theorem laidOut : laidOutB Try.prog = true := by kernel_rfl
def zz2 (W : World) : Cx := ⟨fun b o => ∃ v, W.cell? ⟨b, o, none⟩ = some v, [], [], [], W, fun _ => False, fun _ _ => False⟩
theorem gv_base (W : World) : gvBase Try.prog W where
 err := fun n g h e => by
  have h1 : Try.prog.globalNamed "strconv.ErrSyntax" = none := by kernel_rfl
  have h2 : Try.prog.globalNamed "strconv.ErrRange" = none := by kernel_rfl
  rcases h with rfl | rfl
  ·rw [h1] at e; cases e
  ·rw [h2] at e; cases e
 pow := fun g e => by
  have h1 : Try.prog.globalNamed "internal/strconv.uint64pow10" = none := by kernel_rfl
  rw [h1] at e; cases e
 max := fun g e => by
  have h1 : Try.prog.globalNamed "internal/bytealg.MaxLen" = none := by kernel_rfl
  rw [h1] at e; cases e
theorem inv_top (W : World) : Inv (ITP Try.prog) St.empty (zz2 W) where
 lens := rfl
 elems := rfl
 κlen := rfl
 κnd := fun s s' b h => by simp [zz2] at h
 box := fun s b t cs h => by simp [zz2] at h
 κF := fun s b t cs h => by simp [zz2] at h
 βlen := rfl
 βnd := by simp [zz2]
 βκ := fun r h => by simp [zz2] at h
 row := fun s r L h => by simp [zz2] at h
 Ok := fun b h => h.elim
 Fcell := fun b o h => h
 gv := ⟨W, gv_base W, Szs.refl _, fun b o v _ hv => ⟨⟨v, hv⟩, hv⟩⟩
theorem z5s {f : FuncId} {args : List AV} {u : Value} (h : Pure (ITP Try.prog) Try.prog f args (.raw u)) (W : World) {vs : List Value} (hr : za9 (ITP Try.prog) (zz2 W) args vs) :
 Calls Try.prog f vs.toArray W fun e W' => e = .returned u ∧ Ex W.heap.size W W' := by
 refine (h.2 (zz2 W) vs (inv_top W) hr).mono ?_
 rintro e w' ⟨v, Y, rfl, rfl, hE, hIY, hv⟩
 rw [Rep] at hv; subst hv
 exact ⟨rfl, ⟨⟨hE.os, hE.tape, hE.output, hE.size, fun b hb => hE.frame b hb (by simp [zz2]) (by simp [zz2])⟩, hE.drawn⟩⟩
theorem z1l {n : Int} (h : (Lit.int .u8 n).wf = true) : 0 ≤ n ∧ n ≤ 255 := by
 have h1 : IntKind.u8.min = 0 := rfl
 have h2 : IntKind.u8.max = 255 := rfl
 simp only [Lit.wf, Bool.and_eq_true, decide_eq_true_eq] at h
 omega
set_option maxRecDepth 100000 in
theorem z7o : Try.prog.underlying 22 = some (.slice 49) := rfl
theorem cells49 : Try.prog.cellsOf 49 = 3 := by kernel_rfl
set_option maxRecDepth 100000 in
theorem z7i : ∃ f0 f1 f2 : Field, Try.prog.underlying 49 = some (.struct #[f0, f1, f2]) ∧ oneCellFields Try.prog #[f0, f1, f2] = true ∧ Try.prog.underlying f0.type = some (.int .u8) ∧ Try.prog.underlying f1.type = some (.int .u8) ∧ Try.prog.underlying f2.type = some (.int .u8) := ⟨_, _, _, rfl, by kernel_rfl, rfl, rfl, rfl⟩
section
variable {H : Type} {enc : TypeId × Value → H}
set_option maxRecDepth 100000 in
theorem zwy {W : World} {base : Nat} {spare : Nat → Bool} {held : Bool} {n : Nat} {cs : List Value} {x : DataW H × List MemPlace} (h : DataW.trod enc Try.prog W base spare held n 49 cs = some x) (hl : cs.length = 3) :
 ∃ s : Sm, cs = [.int .u8 (s.1 : Int), .int .u8 (s.2.1 : Int), .int .u8 (s.2.2 : Int)] ∧ s.2.1 < 256 := by
 obtain ⟨f0, f1, f2, hu, hone, t0, t1, t2⟩ := z7i
 obtain ⟨ys, m, _, _, _, hyl, hf⟩ := DataW.trod_struct hu h
 obtain ⟨o0, k0⟩ := hone_of hone 0 f0 rfl
 obtain ⟨o1, k1⟩ := hone_of hone 1 f1 rfl
 obtain ⟨o2, k2⟩ := hone_of hone 2 f2 rfl
 match cs, hl with
 | [c0, c1, c2], _ =>
  match ys, hyl with
  | [y0, y1, y2], _ =>
   have g0 : DataW.trod enc Try.prog W base spare held m f0.type [c0] = some y0 := by simpa [o0, k0] using hf 0 f0 rfl
   have g1 : DataW.trod enc Try.prog W base spare held m f1.type [c1] = some y1 := by simpa [o1, k1] using hf 1 f1 rfl
   have g2 : DataW.trod enc Try.prog W base spare held m f2.type [c2] = some y2 := by simpa [o2, k2] using hf 2 f2 rfl
   obtain ⟨n0, e0, _, w0⟩ := DataW.trod_int t0 g0
   obtain ⟨n1, e1, _, w1⟩ := DataW.trod_int t1 g1
   obtain ⟨n2, e2, _, w2⟩ := DataW.trod_int t2 g2
   simp at e0 e1 e2
   subst e0 e1 e2
   have b0 := z1l w0
   have b1 := z1l w1
   have b2 := z1l w2
   exact ⟨(n0.toNat, n1.toNat, n2.toNat), by simp only [Int.toNat_of_nonneg b0.1, Int.toNat_of_nonneg b1.1, Int.toNat_of_nonneg b2.1], by simp only; omega⟩
theorem zvg (W : World) (b : Nat) : ∀ (len o : Nat) (g : Nat → Sm), (∀ i, i < len → W.cell? ⟨b, o + i * 3, none⟩ = some (.int .u8 ((g i).1 : Int)) ∧ W.cell? ⟨b, o + i * 3 + 1, none⟩ = some (.int .u8 ((g i).2.1 : Int)) ∧ W.cell? ⟨b, o + i * 3 + 2, none⟩ = some (.int .u8 ((g i).2.2 : Int))) →
 At (ITP Try.prog) (zz2 W) (z8f ((List.range len).map g)) b o
 | 0, o, g, _ => by simp [z8f, At]
 | len + 1, o, g, h => by
  rw [List.range_succ_eq_map, List.map_cons, List.map_map, z8f, smc]
  have h0 := h 0 (by omega)
  simp only [Nat.zero_mul, Nat.add_zero] at h0
  obtain ⟨a0, a1, a2⟩ := h0
  have ih := zvg W b len (o + 3) (g ∘ Nat.succ) (fun i hi => by
   have := h (i + 1) (by omega)
   rw [show o + (i + 1) * 3 = o + 3 + i * 3 by omega] at this
   exact this)
  simp only [List.cons_append, List.nil_append, At]
  exact ⟨⟨⟨_, a0⟩, _, a0, rfl, by rw [Rep]⟩, ⟨⟨_, a1⟩, _, a1, rfl, by rw [Rep]⟩, ⟨⟨_, a2⟩, _, a2, rfl, by rw [Rep]⟩, ih⟩
set_option maxRecDepth 100000 in
theorem zl4 {W : World} {base : Nat} {v : Value} {d : DataW H} {p : List MemPlace} (hv : Value.okWide Try.prog W .any base 22 v) (h : DataW.Trod enc Try.prog W 0 (fun _ => true) true 22 v d p) :
 ∃ l : List Sm, (l.length < 2 ^ 63 ∧ ∀ x ∈ l, x.2.1 < 256) ∧ Rep (ITP Try.prog) (zz2 W) (.list l.length (z8f l) .none) v := by
 obtain ⟨fuel, hf⟩ := h
 obtain ⟨a0, len, cap, rfl⟩ := okWide_slice z7o hv
 rcases open_slice z7o hf with ⟨h0, _⟩ | ⟨a, len', cap', m, n, D, Pl, hcs, hb, hl, hm, hmm, hx, hi⟩
 ·simp [Value.cells] at h0
  obtain ⟨rfl, rfl, rfl⟩ := h0
  refine ⟨[], by simp, ?_⟩
  rw [Rep]
  exact ⟨none, 0, rfl, ⟨Nat.le_refl _, fun _ => rfl⟩, .inl rfl, trivial⟩
 ·simp [Value.cells] at hcs
  obtain ⟨rfl, rfl, rfl⟩ := hcs
  rw [cells49] at hi
  have hm' : m = cap := by simpa using hmm
  have hcell : ∀ i, i < m → ∃ s : Sm, W.cell? (a.add (i * 3)) = some (.int .u8 (s.1 : Int)) ∧ W.cell? (a.add (i * 3 + 1)) = some (.int .u8 (s.2.1 : Int)) ∧ W.cell? (a.add (i * 3 + 2)) = some (.int .u8 (s.2.2 : Int)) ∧ s.2.1 < 256 := fun i him => by
   obtain ⟨cs', hc, ht⟩ := hi i him
   obtain ⟨_, hcl, hat⟩ := World.cells?_some hc
   obtain ⟨s, rfl, hs⟩ := zwy ht hcl
   refine ⟨s, ?_, ?_, ?_, hs⟩
   ·have := hat 0 (by omega); rw [Go.Deep.add_add] at this; simpa using this
   ·have := hat 1 (by omega); rw [Go.Deep.add_add] at this; simpa using this
   ·have := hat 2 (by omega); rw [Go.Deep.add_add] at this; simpa using this
  by_cases hz : len = 0
  ·subst hz
   refine ⟨[], by simp, ?_⟩
   rw [Rep]
   exact ⟨some a, cap, rfl, ⟨hl, fun h => by cases h⟩, .inl rfl, trivial⟩
  ·obtain ⟨s0, c0, _⟩ := hcell 0 (by omega)
   have hspot : a = ⟨a.block, a.off, none⟩ := by
    cases a with
    | mk b o sp =>
     cases sp with
     | none => rfl
     | some k =>
      exfalso
      simp [Addr.add, World.cell?] at c0
      split at c0 <;> simp at c0
   have hadd : ∀ j, a.add j = ⟨a.block, a.off + j, none⟩ := fun j => by
    by_cases hj : j = 0
    ·subst hj; simp [Addr.add]; exact hspot
    ·simp [Addr.add, hj]
   let g : Nat → Sm := fun i => if h : i < m then Classical.choose (hcell i h) else (0, 0, 0)
   have hg : ∀ i (him : i < m), W.cell? (a.add (i * 3)) = some (.int .u8 ((g i).1 : Int)) ∧ W.cell? (a.add (i * 3 + 1)) = some (.int .u8 ((g i).2.1 : Int)) ∧ W.cell? (a.add (i * 3 + 2)) = some (.int .u8 ((g i).2.2 : Int)) ∧ (g i).2.1 < 256 := fun i him => by
    have e : g i = Classical.choose (hcell i him) := dif_pos him
    rw [e]; exact Classical.choose_spec (hcell i him)
   have hml : maxLen < 2 ^ 63 := by decide
   refine ⟨(List.range len).map g, ⟨by simp; omega, fun x hx => ?_⟩, ?_⟩
   ·obtain ⟨i, hi', rfl⟩ := List.mem_map.1 hx
    exact (hg i (by have := List.mem_range.1 hi'; omega)).2.2.2
   rw [Rep]
   refine ⟨some a, cap, by simp, ⟨by simpa using hl, fun h => by cases h⟩, .inr ⟨a.block, a.off, by rw [← hspot], zvg W a.block len a.off g fun i hi => ?_⟩, trivial⟩
   have := hg i (by omega)
   rw [hadd, hadd, hadd] at this
   exact ⟨this.1, this.2.1, this.2.2.1⟩
end
end Go.Ab
set_option linter.unusedSimpArgs false
set_option linter.unusedVariables false
namespace Go.Proofs.Ytmoncghgagmilaa
open Go Go.Ab Go.ChangeShapes Go.WideShapes Go.ChangeAt Go.RowKit Go.Fwd
set_option maxRecDepth 100000 in
theorem rxnormOrder_lifted (os : Os) (started : os.Started) (H : Type) (enc : TypeId × Value → H) :
 ReturnsInHanded {} Try.checked os 3 .any (Rows.rxnormOrderSpec.pre6 enc Try.prog Try.f3 Rows.rxnormOrderRow.domain false) (Rows.rxnormOrderSpec.post enc Try.prog Try.f3 false true false false) := by
 refine returnsInHanded_of_change (C := Try.checked) ownLess started (by kernel_rfl) Try.func3
  (ChangeSpec.witness6 (enc := enc) (C := Try.checked) false ⟨#[], #[.slice .none 0 0, .slice .none 0 0, .slice .none 0 0], []⟩ 8 (by kernel_rfl) (by kernel_rfl) (by kernel_rfl) (by kernel_rfl)) ?_
 intro W base args ds gs before hval0 hW _ _
 have hval : ∀ (j : Nat) t v, Try.f3.params[j]? = some t → args[j]? = some v → Value.okWide Try.prog W .any base t v := hval0
 have hW' := hW
 obtain ⟨p, q, hA0, hV, rfl, _, _⟩ := hW
 have hA : DataW.TrodAll enc Try.prog W 0 (fun _ => true) true Try.f3.params.toList args.toList ds p := hA0
 rw [show Try.f3.params.toList = [22, 22, 22] from by kernel_rfl] at hA
 obtain ⟨v0, v1, v2, d0, d1, d2, p0, p1, p2, rfl, rfl, rfl, h0, h1, h2⟩ := trodAll_three hA
 obtain ⟨rfl, rfl⟩ := trodVars_none hV
 obtain ⟨l0, hl0, hr0⟩ := zl4 (hval 0 22 v0 (by kernel_rfl) rfl) h0
 obtain ⟨l1, hl1, hr1⟩ := zl4 (hval 1 22 v1 (by kernel_rfl) rfl) h1
 obtain ⟨l2, hl2, hr2⟩ := zl4 (hval 2 22 v2 (by kernel_rfl) rfl) h2
 clear hA0 hval0
 simp only [List.append_nil] at hW'
 have hlt : ∀ y ∈ p0 ++ p1 ++ p2, y.block < W.heap.size := fun y hy => by simpa using hW'.lt y hy
 refine (z5s (z6p 5 l0 l1 l2 true (z58 l0 l1 l2 hl0 hl1 hl2)) W (vs := [v0, v1, v2]) ⟨_, _, rfl, hr0, _, _, rfl, hr1, _, _, rfl, hr2, rfl⟩).mono fun e W' ⟨he, hw⟩ => ?_
 subst he
 refine ⟨_, rfl, ?_⟩
 refine ⟨_, _, _, [] ++ [], p0 ++ p1 ++ p2, [], hW', ?_, ?_, rfl, hw.toBelow.frame _, fun h => by cases h⟩
 ·exact trodAll_mk1 (shut_bool (show Try.prog.underlying 4 = some .bool from by kernel_rfl) true)
 ·have td : ∀ {v : Value} {d : DataW H} {p : List MemPlace}, DataW.Trod enc Try.prog W 0 (fun _ => true) true 22 v d p → (∀ y ∈ p, y.block < W.heap.size) → DataW.Trod enc Try.prog W' 0 (fun b => decide (b < W.heap.size)) true 22 v d p := fun h hl => Below.trod laidOut (by kernel_rfl) (of_decide_eq_true (by kernel_rfl)) h hw.toBelow hl
  have := trodAll_mk3 (td h0 fun y hy => hlt y (by simp [hy])) (td h1 fun y hy => hlt y (by simp [hy])) (td h2 fun y hy => hlt y (by simp [hy]))
  rw [show p0 ++ p1 ++ p2 = p0 ++ (p1 ++ p2) by simp]
  exact this
theorem rxnormOrder_holds : Rows.RxnormOrderSaid :=
 OpenClaim.holds_of_wide 3 Try.f3 rfl rfl rfl rfl rfl rfl rfl ⟨rfl, rfl, rfl, rfl, rfl⟩ rfl rfl rfl rfl rfl (by kernel_rfl) Try.func3 (by kernel_rfl)
  (of_decide_eq_true (by kernel_rfl)) (by unfold Func.isWrapper; rw [if_neg (by decide +kernel)]; exact ⟨rfl, rfl⟩)
  (fun os started H enc _ => rxnormOrder_lifted os started H enc)
end Go.Proofs.Ytmoncghgagmilaa
