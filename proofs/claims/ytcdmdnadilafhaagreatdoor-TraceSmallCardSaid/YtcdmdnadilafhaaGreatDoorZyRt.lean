/-
  reparteeref33: lines, Read; TraceReads: plain.
-/
import Derived.Test.YtcdmdnadilafhaaGreatDoorZyW4
import Derived.Test.YtcdmdnadilafhaaGreatDoorZyPq
import Derived.Test.YtcdmdnadilafhaaGreatDoorZyRq
import Derived.Test.YtcdmdnadilafhaaGreatDoorZyTy
set_option linter.unusedSimpArgs false
set_option linter.unusedVariables false
namespace Go.Ab
open Go Go.RowKit Go.Fwd Go.Proofs
theorem zjw (fuel : Nat) (t : Trc) (hf : t.l.length < fuel) (hm : t.l.length ≤ 1000000000) : zfp fuel t = some t := by
 unfold zfp
 refine zdd t (zfi t.l.length (fun i => ((i : Int), Trc.mk (t.l.take i) (Ed.mk t.e.k t.e.c))) ?_ ?_ ?_ hf) rfl
 ·simp
 ·intro i hi
  refine zaq (decide_eq_true (by simp only; omega)) (zal (by simp only; omega) (za1 (zal ?_ (zal (by simp only; omega) ?_))))
  ·simp; omega
  ·simp only [ix, Int.toNat_natCast]
   have : t.l.take (i + 1) = t.l.take i ++ [t.l.getD i Enc.inh] := by
    rw [List.take_add_one]; simp [hi]
   rw [this]
   rfl
 ·refine (zat (decide_eq_false (by simp only; omega)) ?_)
  simp
theorem z1f (a b : Trc) : (z1o a b).2 = decide (a ≠ b) := by
 have hl := zm9 a.l b.l
 have h1 := zg3 a.l b.l
 unfold z1o
 obtain ⟨al, ae⟩ := a
 obtain ⟨bl, be⟩ := b
 simp only at hl h1 ⊢
 by_cases h : lcp al bl = al.length ∧ lcp al bl = bl.length ∧ ae = be
 ·rw [if_pos h]
  obtain ⟨h2, h3, rfl⟩ := h
  have : al = bl := (h1.1 h2).eq_of_length (by omega)
  subst this
  simp
 ·rw [if_neg h]
  have hne : Trc.mk al ae ≠ Trc.mk bl be := fun e => by
   cases e
   have := (zg3 al al).2 (List.prefix_refl _)
   exact h ⟨this, this, rfl⟩
  simp only [hne, decide_true, ne_eq, not_false_eq_true]
theorem zos (fuel : Nat) (a b : Trc) (h : a.l.length < fuel) (hm : fuel < 2 ^ 60) : zfs fuel a b = some (z1o a b) := by
 have hl := zm9 a.l b.l
 unfold zfs
 have hsame : ∀ i : Nat, i < lcp a.l b.l → decide (a.l.getD i Enc.inh ≠ b.l.getD i Enc.inh) = false := fun i hi => decide_eq_false (fun h => h (zgk _ _ i hi))
 by_cases hx : lcp a.l b.l = a.l.length ∧ lcp a.l b.l = b.l.length
 ·refine zdd () (zfi (lcp a.l b.l) (fun i => (i : Int)) rfl (fun i hi => zdd () (zaq (decide_eq_true (by omega)) rfl) (zat (decide_eq_false (by omega)) (zat (decide_eq_false (by omega)) (zal (by omega) (za1 (zal (by omega) (za1 (zat (by simp only [ix, Int.toNat_natCast]; exact hsame i hi) (zal (by omega) rfl))))))))) ?_ (by omega)) ?_
  ·refine zlb (Sum.inr (Sum.inl ())) (zat (decide_eq_false (by omega)) (zat (decide_eq_false (by omega)) rfl)) rfl
  ·unfold z1o
   by_cases he : a.e = b.e
   ·rw [if_pos ⟨hx.1, hx.2, he⟩]
    exact zat (decide_eq_false (fun h => h he)) rfl
   ·rw [if_neg (fun h => he h.2.2)]
    refine (zaq (decide_eq_true he) ?_)
    rw [hx.1]
 ·have hd : z1o a b = ((lcp a.l b.l : Int), true) := by unfold z1o; rw [if_neg (fun h => hx ⟨h.1, h.2.1⟩)]
  rw [hd]
  refine zlb ((lcp a.l b.l : Int), true) (zfi (lcp a.l b.l) (fun i => (i : Int)) rfl (fun i hi => zdd () (zaq (decide_eq_true (by omega)) rfl) (zat (decide_eq_false (by omega)) (zat (decide_eq_false (by omega)) (zal (by omega) (za1 (zal (by omega) (za1 (zat (by simp only [ix, Int.toNat_natCast]; exact hsame i hi) (zal (by omega) rfl))))))))) ?_ (by omega)) rfl
  refine zdd () ?_ ?_
  ·by_cases h1 : lcp a.l b.l < a.l.length
   ·exact zaq (decide_eq_true (by omega)) rfl
   ·exact zat (decide_eq_false (by omega)) (zaq (decide_eq_true (by omega)) rfl)
  ·by_cases h1 : lcp a.l b.l < a.l.length
   ·by_cases h2 : lcp a.l b.l < b.l.length
    ·refine zat (decide_eq_false (by omega)) (zat (decide_eq_false (by omega)) (zal (by omega) (za1 (zal (by omega) (za1 (zaq ?_ rfl))))))
     simp only [ix, Int.toNat_natCast]
     exact decide_eq_true (zjo _ _ h1 h2)
    ·exact zat (decide_eq_false (by omega)) (zaq (decide_eq_true (by omega)) rfl)
   ·exact zaq (decide_eq_true (by omega)) rfl
theorem zp3 (fuel : Nat) (a b : Trc) (h : a.l.length < fuel) (hm : fuel < 2 ^ 60) : zid fuel a b = some (decide (a = b)) := by
 unfold zid
 refine zcj _ (zos fuel a b h hm) ?_
 rw [z1f]
 by_cases e : a = b <;> simp [e]
theorem z06 (fuel : Nat) (a b : Trc) (h : a.l.length < fuel) (hm : fuel < 2 ^ 60) : zm5 fuel a b = some (z0l a b) := by
 have hl := zm9 a.l b.l
 have hp := zg3 a.l b.l
 unfold zm5
 refine zcj _ (zp3 fuel a b h hm) ?_
 unfold z0l
 by_cases e : a = b
 ·rw [decide_eq_true e]; rfl
 ·rw [decide_eq_false e]
  refine zat rfl ?_
  obtain ⟨al, ak, ac⟩ := a
  simp only at *
  by_cases hk : ak = 1
  ·subst hk
   refine zat rfl ?_
   by_cases hc : ac = 0
   ·subst hc
    refine zat rfl ?_
    by_cases hlen : al.length > b.l.length
    ·refine (zaq (decide_eq_true (by omega)) ?_)
     have : ¬ al <+: b.l := fun hpre => by have := hpre.length_le; omega
     simp [this]
    ·refine zat (decide_eq_false (by omega)) ?_
     by_cases hpre : lcp al b.l = al.length
     ·have : al <+: b.l := hp.1 hpre
      simp only [this, decide_true, Bool.false_or, Bool.and_self]
      refine zdd () (zfi (lcp al b.l) (fun i => (i : Int)) rfl ?_ (zat (decide_eq_false (by omega)) rfl) (by omega)) rfl
      intro i hi
      refine zaq (decide_eq_true (by omega)) (zal (by omega) (za1 (zal (by omega) (za1 (zat ?_ (zal (by omega) rfl))))))
      simp only [ix, Int.toNat_natCast]
      exact decide_eq_false (fun h => h (zgk _ _ i hi))
     ·have : ¬ al <+: b.l := fun h => hpre (hp.2 h)
      simp only [this, decide_false, Bool.and_false, Bool.or_self]
      refine zlb false (zfi (lcp al b.l) (fun i => (i : Int)) rfl ?_ ?_ (by omega)) rfl
      ·intro i hi
       refine zaq (decide_eq_true (by omega)) (zal (by omega) (za1 (zal (by omega) (za1 (zat ?_ (zal (by omega) rfl))))))
       simp only [ix, Int.toNat_natCast]
       exact decide_eq_false (fun h => h (zgk _ _ i hi))
      ·refine zaq (decide_eq_true (by omega)) (zal (by omega) (za1 (zal (by omega) (za1 (zaq ?_ rfl)))))
       simp only [ix, Int.toNat_natCast]
       exact decide_eq_true (zjo _ _ (by omega) (by omega))
   ·refine (zaq (by simpa using hc) ?_)
    have : ¬ (Ed.mk 1 ac = ⟨1, 0⟩) := fun e => hc (Ed.mk.inj e).2
    simp [this]
  ·refine (zaq (by simpa using hk) ?_)
   have : ¬ (Ed.mk ak ac = ⟨1, 0⟩) := fun e => hk (Ed.mk.inj e).1
   simp [this]
theorem zqf (fuel : Nat) (a b : Trc) (h1 : a.l.length < fuel) (h2 : b.l.length < fuel) (hm : fuel < 1000000) : zlh fuel a b = some true := by
 have hm' : fuel < 2 ^ 60 := by omega
 unfold zlh
 refine zcj _ (zjw fuel a h1 (by omega)) (zcj _ (zjw fuel b h2 (by omega)) (zcj _ (zsg fuel a b h1 hm') (zcj _ (zos fuel a b h1 hm') (zaq (beq_self_eq_true _) (zaq (beq_self_eq_true _) ?_)))))
 refine zcj _ (same_eq fuel a b h1 hm') (zcj _ (zp3 fuel a b h1 hm') (zaq (beq_self_eq_true _) ?_))
 refine zcj _ (goes_eq fuel a b h1 hm') (zcj _ (z06 fuel a b h1 hm') ?_)
 simp
end Go.Ab
set_option linter.unusedSimpArgs false
set_option linter.unusedVariables false
namespace Go.Ab
open Go Go.RowKit Go.Fwd Go.Proofs
theorem zg0 (e : En) (a : Int) : zf8 e a = some (zi9 e a) := by
 unfold zi9
 obtain ⟨k, fr, to, b⟩ := e
 unfold zf8 zbt
 simp only
 by_cases h1 : k = 1
 ·subst h1
  refine zaq rfl ?_
  by_cases h2 : fr = 0
  ·by_cases h3 : to = 0
   ·refine zaq (by simp [h2]) (zaq (by simp [h3]) ?_)
    have e1 : ((List.length b : Int) ≤ 512) ↔ b.length ≤ 512 := by omega
    simp [h2, h3, e1]
   ·refine zaq (by simp [h2]) (zat (by simp [h3]) ?_)
    simp [h3]
  ·refine zat (by simp [h2]) ?_
   simp [h2]
 ·refine zat (by simpa using h1) ?_
  by_cases h2 : k = 2 ∨ k = 3
  ·by_cases h4 : b = []
   ·subst h4
    refine zdd () ?_ ?_
    ·rcases h2 with rfl | rfl
     ·exact zat rfl (zat rfl rfl)
     ·exact zaq rfl (zat rfl (zat rfl rfl))
    by_cases h3 : fr = a
    ·subst h3
     refine zat (by simp) ?_
     by_cases h5 : to < fr
     ·refine zaq (decide_eq_true h5) ?_
      have : ¬ fr ≤ to := by omega
      simp [h1, this]
     ·refine zat (decide_eq_false h5) ?_
      by_cases h6 : to > 1073741824
      ·refine zaq (decide_eq_true h6) ?_
       have : ¬ to ≤ 1073741824 := by omega
       simp [h1, this]
      ·refine zat (decide_eq_false h6) ?_
       have h5' : fr ≤ to := by omega
       have h6' : to ≤ 1073741824 := by omega
       rcases h2 with rfl | rfl
       ·exact zaq rfl (by simp [h5', h6'])
       ·exact zat rfl (by simp [h5', h6'])
    ·refine zaq (by simp [h3]) ?_
     simp [h1, h3]
   ·refine zlb false ?_ (by simp [h1, h4])
    have h4' : (!(b == ([] : List UInt8))) = true := by simp [h4]
    rcases h2 with rfl | rfl
    ·exact zat rfl (zaq h4' rfl)
    ·exact zaq rfl (zat rfl (zaq h4' rfl))
  ·have g2 : ¬ k = 2 := fun h => h2 (.inl h)
   have g3 : ¬ k = 3 := fun h => h2 (.inr h)
   refine zlb false (zaq (by simp [g2]) (zaq (by simp [g3]) rfl)) ?_
   simp [h1, g2, g3]
theorem zz3 (fuel : Nat) (e : En) (hk : 1 ≤ e.k ∧ e.k ≤ 3) (hf : e.b.length < fuel) (hb : e.b.length ≤ 1000000000) (h1 : 0 ≤ e.fr ∧ e.fr < 9223372036854775808) (h2 : 0 ≤ e.to ∧ e.to < 9223372036854775808) : zh7 fuel e = some (zdo e) := by
 have l1 := Lib.itoa_length_le e.fr (by omega) (by omega)
 have l2 := Lib.itoa_length_le e.to (by omega) (by omega)
 have hfl := zfj e.b
 unfold zh7 zdo
 by_cases k1 : e.k = 1
 ·refine zaq (by simp [k1]) ?_
  rw [zw3 fuel e.b hf hb, bindE_some]
  refine zal (by simp only [List.length_cons, List.length_nil]; omega) (zal (by simp only [List.length_append, List.length_cons, List.length_nil]; omega) ?_)
  rw [if_pos k1, k1]
  simp [zbe, zcu]
 ·refine zat (by simp [k1]) ?_
  rw [if_neg k1]
  by_cases k2 : e.k = 2
  ·refine zaq (by simp [k2]) (zal h1 (za1 (zal (by simp; omega) (zal (by simp; omega) (zal h2 (za1 (zal (by simp; omega) ?_)))))))
   rw [k2]
   simp [zbe]
  ·have k3 : e.k = 3 := by omega
   refine zat (by simp [k2]) (zal h1 (za1 (zal (by simp; omega) (zal (by simp; omega) (zal h2 (za1 (zal (by simp; omega) ?_)))))))
   rw [k3]
   simp [zbe]
theorem zim (fuel : Nat) {e : En} {a : Int} (ha : 0 ≤ a) (h : zbt e a) (hf : 600 < fuel) : zh7 fuel e = some (zdo e) := by
 obtain ⟨h1, h2, h3, h4, h5, h6⟩ := zig ha h
 exact zz3 fuel e h1 (by omega) (by omega) (by omega) (by omega)
theorem z2f (fuel : Nat) (l : List En) (hl : okL 0 l) (hf : l.length < fuel) (hb : l.length ≤ 1000000000) : zrk fuel l = some (atL 0 l) := by
 unfold zrk
 refine Ok.eq (zaw (fun t => t = atL 0 l) ?_ (fun t h => zd h))
 refine zay (fun (s : Int × Int) => ∃ i : Nat, s.2 = (i : Int) ∧ i ≤ l.length ∧ s.1 = atL 0 (l.take i)) (fun s => l.length - s.2.toNat) (fun s hT => ?_) _ _ (by simp; omega) ⟨0, rfl, by omega, by simp [atL]⟩
 obtain ⟨i, h1, h2, h3⟩ := hT
 obtain ⟨s1, s2⟩ := s
 simp only at h1 h3
 subst h1 h3
 refine zi (fun hc => ?_) (fun hc => ?_)
 ·have hc : i < l.length := by have := of_decide_eq_true hc; simp only at this; omega
  have hr := zrd hl hc
  rw [← ixD] at hr
  have ha := zg7 0 (l.take i)
  obtain ⟨k1, k2, k3, k4, k5, k6⟩ := zig ha hr
  have hnext : atL 0 (l.take (i + 1)) = max (atL 0 (l.take i)) (ix l (i : Int)).to := by rw [zdz l hc, zki]; rfl
  refine zaw (fun t => t = atL 0 (l.take (i + 1))) ?_ (fun t ht => ze (by omega) (zd ⟨⟨i + 1, by simp, by omega, ht⟩, by simp only; omega⟩))
  refine ze (by omega) (zn fun x hx => zi (fun hk => ze (by omega) (zn fun y hy => zd ?_)) (fun hk => zd ?_))
  ·have hk : x.k ≠ 1 := by simpa using hk
   have hy : ix l (i : Int) = y := hy
   have hx : ix l (i : Int) = x := hx
   show y.to = _
   rw [hnext, ← hy]
   rw [← hx] at hk
   rcases hr with ⟨q1, _⟩ | ⟨q1, q2, q3, q4, q5, q6⟩
   ·exact absurd q1 hk
   ·omega
  ·have hk : x.k = 1 := by simpa using hk
   have hx : ix l (i : Int) = x := hx
   rw [← hx] at hk
   show atL 0 (l.take i) = _
   rw [hnext, (k5 hk).2]
   omega
 ·have hc : i = l.length := by have := of_decide_eq_false hc; simp only at this; omega
  refine zd ?_
  show atL 0 (l.take i) = _
  rw [hc, List.take_length]
theorem rend_ok (fuel : Nat) (t : List UInt8) (hf : t.length < fuel) (hf2 : 20 < fuel) (hb : t.length ≤ 1000000000) : Ok (fun r => r.2 = true → zhy r.1 = t ∧ zb4 r.1 = true) (zn3 fuel t) := by
 unfold zn3
 refine zaw (fun _ => True) ?_ (fun _ _ => ?_)
 ·refine zay (fun (s : Int) => 1 ≤ s ∧ s ≤ 6) (fun s => (6 - s).toNat) (fun s hT => ?_) _ _ (by simp; omega) (by decide)
  refine zi (fun hc => ?_) (fun _ => zd trivial)
  have hc := of_decide_eq_true hc
  refine zaw (fun _ => True) ?_ (fun _ _ => zd ?_)
  ·refine ze (by omega) (zn fun n hn => zi (fun h => zi (fun h2 => zd (fun _ => ?_)) (fun _ => zd trivial)) (fun _ => zd trivial))
   have h2 : s ≠ 2 := by simpa using h2
   have h : t = n := eq_of_beq h
   refine ⟨?_, ?_⟩
   ·unfold zhy; rw [if_neg h2, h, ← hn]
   ·unfold zb4; rw [if_neg h2]; exact decide_eq_true ⟨by simp only; omega, by simp only; omega, rfl⟩
  ·rw [zia (by omega) (by omega)]
   exact ⟨by omega, by omega⟩
 refine zi (fun _ => zd (fun h => by cases h)) (fun h5 => ?_)
 have h5 : 5 ≤ t.length := by have := of_decide_eq_false h5; omega
 refine ze (by omega) (zn fun x hx => zi (fun _ => zd (fun h => by cases h)) (fun hxe => ze (by omega) (zn fun y hy => ?_)))
 have hxe : x = [101, 120, 105, 116] := by simpa using hxe
 have hx' : t.take 4 = [101, 120, 105, 116] := by rw [← hxe, ← hx, zfn]; rfl
 have hy' : y = t.drop 4 := by rw [← hy]; exact zdf t 4 (by omega)
 subst hy'
 refine zjp (zu3 fuel (t.drop 4) (by simp; omega) hf2 (by simp; omega)) (fun l hl => zi (fun _ => zd (fun h => by cases h)) (fun hl1 => ?_))
 have hl1 : l.length = 1 := by have := bne_eq_false_iff_eq.1 hl1; omega
 refine ze (by omega) (zi (fun _ => zd (fun h => by cases h)) (fun h255 => ze (by omega) (zd (fun _ => ?_))))
 have h255 := of_decide_eq_false h255
 obtain ⟨c, rfl⟩ := List.length_eq_one_iff.1 hl1
 have hl2 := hl.resolve_left (by simp)
 have hc := hl2.2 c (by simp)
 have hi : ix [c] (0 : Int) = c := rfl
 rw [hi] at h255
 have ht : t = [101, 120, 105, 116] ++ (32 :: Lib.itoa c) := by
  rw [← List.take_append_drop 4 t, hx', ← hl2.1]
  simp [zb9]
 refine ⟨?_, ?_⟩
 ·show zhy ⟨2, c⟩ = t
  rw [ht]; rfl
 ·show zb4 ⟨2, c⟩ = true
  exact decide_eq_true ⟨hc.1, by simp only; omega⟩
theorem z1y (fuel : Nat) (e : Ed) (hf : 100 < fuel) (h : zb4 e = true) : zn3 fuel (zhy e) = some (e, true) := by
 have hl := zl8 h
 obtain ⟨h1, h2, h3⟩ := zjq h
 unfold zn3
 by_cases hk : e.k = 2
 ·obtain ⟨_, c1, c2⟩ : e.k = 2 ∧ 0 ≤ e.c ∧ e.c ≤ 255 := by omega
  have he : zhy e = [101, 120, 105, 116] ++ (32 :: Lib.itoa e.c) := by unfold zhy; rw [if_pos hk]; rfl
  have hn : zb9 [e.c] = 32 :: Lib.itoa e.c := by simp [zb9]
  have hlen : 5 ≤ (zhy e).length := by rw [he]; simp
  refine Ok.eq (zaw (fun _ => True) ?_ (fun _ _ => ?_))
  ·refine zay (fun (s : Int) => 1 ≤ s ∧ s ≤ 6) (fun s => (6 - s).toNat) (fun s hT => ?_) _ _ (by simp; omega) (by decide)
   refine zi (fun hc => ?_) (fun _ => zd trivial)
   have hc := of_decide_eq_true hc
   refine zaw (fun _ => True) ?_ (fun _ _ => zd ?_)
   ·refine ze (by omega) (zn fun n hn' => zi (fun h => ?_) (fun _ => zd trivial))
    exfalso
    have h := eq_of_beq h
    have := (zus s ⟨hT.1, hc⟩).2
    rw [hn', ← h, he] at this
    simp at this
   ·rw [zia (by omega) (by omega)]
    exact ⟨by omega, by omega⟩
  refine zi (fun h5 => by have := of_decide_eq_true h5; omega) (fun _ => ze (by omega) (zn fun x hx => ?_))
  have hx' : x = [101, 120, 105, 116] := by rw [← hx, zfn, he]; rfl
  subst hx'
  refine zi (fun h => by simp at h) (fun _ => ze (by omega) (zn fun y hy => ?_))
  have hy' : y = zb9 [e.c] := by rw [← hy]; exact (zdf _ 4 (by omega)).trans (by rw [he, hn]; rfl)
  subst hy'
  have hnl : (zb9 [e.c]).length ≤ 30 := by rw [hn]; rw [he] at hl; simp at hl ⊢; omega
  rw [zuo fuel [e.c] (fun n hn => by have := List.mem_singleton.1 hn; subst this; omega) (by omega) (by omega) (by omega), bindE_some]
  have hi : ix [e.c] (0 : Int) = e.c := rfl
  rw [hi]
  refine zi (fun h => by simp at h) (fun _ => ze (by simp) (zi (fun h => by have := of_decide_eq_true h; omega) (fun _ => ze (by simp) (zd ?_))))
  rw [← hk]
 ·have he : zhy e = zfr e.k := by unfold zhy; rw [if_neg hk]
  have c0 : e.c = 0 := by omega
  refine Ok.eq (zaw (fun _ => False) ?_ (fun _ h => h.elim))
  refine zay (fun (s : Int) => 1 ≤ s ∧ s ≤ e.k) (fun s => (6 - s).toNat) (fun s hT => ?_) _ _ (by simp; omega) ⟨by decide, h1⟩
  refine zi (fun hc => ?_) (fun h => by have := of_decide_eq_false h; omega)
  refine zaw (fun _ => s ≠ e.k) ?_ (fun _ hne => zd ?_)
  ·refine ze (by omega) (zn fun n hn' => zi (fun h => ?_) (fun h => zd (fun e' => ?_)))
   ·have h := eq_of_beq h
    have hs : s = e.k := zru (by omega) ⟨h1, h2⟩ (by rw [hn', ← h, he])
    refine zi (fun _ => zd ?_) (fun h2 => by have := bne_eq_false_iff_eq.1 h2; omega)
    rw [hs]
    show ((⟨e.k, 0⟩ : Ed), true) = _
    rw [← c0]
   ·subst e'
    rw [he, ← hn'] at h
    simp at h
  ·rw [zia (by omega) (by omega)]
   exact ⟨by omega, by omega⟩
theorem zy5 (fuel : Nat) (t : List UInt8) (a : Int) (ha : 0 ≤ a) (hf : t.length < fuel) (hf2 : 2300 < fuel) (hb : t.length ≤ 1000000000) : Ok (fun r => r.2 = true → zdo r.1 = t ∧ zbt r.1 a) (zgj fuel t a) := by
 unfold zgj
 refine zi (fun _ => zd (fun h => by cases h)) (fun h5 => ?_)
 have h5 : 5 ≤ t.length := by have := of_decide_eq_false h5; omega
 refine zaw (fun j => j.b = [] ∧ (j.k = 0 ∨ (j.k = 2 ∧ t.take 4 = [116, 97, 107, 101]) ∨ (j.k = 3 ∧ t.take 4 = [108, 111, 115, 101]))) ?_ (fun j hj => ?_)
 ·refine ze (by omega) (zn fun x hx => ?_)
  have hx' : t.take 5 = x := by rw [← hx, zfn]; rfl
  have h4 : t.take 4 = x.take 4 := by rw [← hx', List.take_take]; rfl
  refine zi (fun h1 => ze (by omega) (zn fun y hy => ?_)) (fun _ => zi (fun h2 => zd ⟨rfl, .inr (.inl ⟨rfl, ?_⟩)⟩) (fun _ => zi (fun h3 => zd ⟨rfl, .inr (.inr ⟨rfl, ?_⟩)⟩) (fun _ => zd ⟨rfl, .inl rfl⟩)))
  ·have hy' : y = t.drop 5 := by rw [← hy]; exact zdf t 5 (by omega)
   subst hy'
   refine zjp (zs1 fuel (t.drop 5) (by simp; omega) (by omega) (by simp; omega)) (fun u hu => zi (fun _ => ze (by omega) (zi (fun _ => ?_) (fun _ => zd (fun h => by cases h)))) (fun _ => zd (fun h => by cases h)))
   rw [zg0, bindE_some]
   refine zi (fun hr => ?_) (fun _ => zd (fun h => by cases h))
   have hr : zbt ⟨1, 0, 0, u.1⟩ a := of_decide_eq_true hr
   rw [zim fuel ha hr (by omega), bindE_some]
   exact zd (fun h => ⟨eq_of_beq h, hr⟩)
  ·rw [h4, eq_of_beq h2]; rfl
  ·rw [h4, eq_of_beq h3]; rfl
 ·obtain ⟨jb, hj⟩ := hj
  refine ze (by omega) (zn fun y hy => ?_)
  have hy' : y = t.drop 4 := by rw [← hy]; exact zdf t 4 (by omega)
  subst hy'
  refine zjp (zu3 fuel (t.drop 4) (by simp; omega) (by omega) (by simp; omega)) (fun l hl => zi (fun _ => zd (fun h => by cases h)) (fun hl2 => zi (fun _ => zd (fun h => by cases h)) (fun hk => ?_)))
  have hl2 : l.length = 2 := by have := bne_eq_false_iff_eq.1 hl2; omega
  have hk : j.k ≠ 0 := by simpa using hk
  obtain ⟨p, q, rfl⟩ : ∃ p q, l = [p, q] := by
   match l, hl2 with
   | [p, q], _ => exact ⟨p, q, rfl⟩
  have hl3 := hl.resolve_left (by simp)
  have i0 : ix [p, q] (0 : Int) = p := rfl
  have i1 : ix [p, q] (1 : Int) = q := rfl
  rw [i0, i1]
  refine ze (by simp) (ze (by simp) ?_)
  rw [zg0, bindE_some]
  refine zd (fun hr => ?_)
  have hr : zbt ⟨j.k, p, q, j.b⟩ a := of_decide_eq_true hr
  refine ⟨?_, hr⟩
  have ht : t = t.take 4 ++ (32 :: (Lib.itoa p ++ 32 :: Lib.itoa q)) := by
   conv => lhs; rw [← List.take_append_drop 4 t, ← hl3.1]
   simp [zb9]
  show zdo ⟨j.k, p, q, j.b⟩ = t
  rw [ht]
  rcases hj with h | ⟨h1, h2⟩ | ⟨h1, h2⟩
  ·exact absurd h hk
  ·rw [h2, h1]; rfl
  ·rw [h2, h1]; rfl
theorem zs3 (fuel : Nat) (e : En) (a : Int) (ha : 0 ≤ a) (h : zbt e a) (hf : 2300 < fuel) : zgj fuel (zdo e) a = some (e, true) := by
 obtain ⟨h1, h2, h3, h4, h5, h6⟩ := zig ha h
 have hll := ziw ha h
 unfold zgj
 have hrb := zly h
 by_cases k1 : e.k = 1
 ·obtain ⟨f0, t0⟩ := h5 k1
  have he : (⟨1, 0, 0, e.b⟩ : En) = e := by obtain ⟨k, fr, to, b⟩ := e; simp only at k1 f0 t0; subst k1 f0 t0; rfl
  have hle : zdo e = [115, 101, 110, 100] ++ (32 :: zcu e.b) := by unfold zdo; rw [if_pos k1, k1]; rfl
  have hlen : 5 ≤ (zdo e).length := by rw [hle]; simp
  refine Ok.eq (zi (fun h5 => by have := of_decide_eq_true h5; omega) (fun _ => zaw (fun _ => False) ?_ (fun _ h => h.elim)))
  refine ze (by omega) (zn fun x hx => ?_)
  have hx' : x = [115, 101, 110, 100, 32] := by rw [← hx, zfn, hle]; rfl
  subst hx'
  refine zi (fun _ => ze (by omega) (zn fun y hy => ?_)) (fun h => by simp at h)
  have hy' : y = zcu e.b := by rw [← hy]; exact (zdf _ 5 (by omega)).trans (by rw [hle]; rfl)
  subst hy'
  rw [zog fuel e.b (by omega) (by omega) (by omega), bindE_some]
  have hll2 : ((zdo e).length : Int) - 5 = ((zcu e.b).length : Int) := by rw [hle]; simp; omega
  refine zi (fun _ => ze (by omega) (zi (fun _ => ?_) (fun h => ?_))) (fun h => by simp at h)
  ·simp only
   rw [he, zg0, hrb, bindE_some]
   refine zi (fun _ => ?_) (fun h => by cases h)
   rw [zim fuel ha h (by omega), bindE_some]
   exact zd (by simp)
  ·rw [hll2] at h; simp at h
 ·have b0 := h6 k1
  have hkk : e.k = 2 ∨ e.k = 3 := by omega
  have hle : zdo e = (zbe e.k).w ++ (32 :: (Lib.itoa e.fr ++ 32 :: Lib.itoa e.to)) := by unfold zdo; rw [if_neg k1]
  have hw : (zbe e.k).w.length = 4 := by rcases hkk with h | h <;> rw [h] <;> rfl
  have hlen : 5 ≤ (zdo e).length := by rw [hle]; simp; omega
  have hn : zb9 [e.fr, e.to] = 32 :: (Lib.itoa e.fr ++ 32 :: Lib.itoa e.to) := by simp [zb9]
  have hd4 : (zdo e).drop 4 = zb9 [e.fr, e.to] := by rw [hle, hn, ← hw, List.drop_left]
  refine Ok.eq (zi (fun h5 => by have := of_decide_eq_true h5; omega) (fun _ => zaw (fun j => j = ⟨e.k, 0, 0, []⟩) ?_ (fun j hj => ?_)))
  ·refine ze (by omega) (zn fun x hx => ?_)
   have hx' : x = (zbe e.k).w ++ [32] := by
    rw [← hx, zfn, hle]
    rcases hkk with h | h <;> rw [h] <;> rfl
   subst hx'
   rcases hkk with h | h
   ·rw [h]
    exact zi (fun h => by simp [zbe] at h) (fun _ => zi (fun _ => zd rfl) (fun h => by simp [zbe] at h))
   ·rw [h]
    exact zi (fun h => by simp [zbe] at h) (fun _ => zi (fun h => by simp [zbe] at h) (fun _ => zi (fun _ => zd rfl) (fun h => by simp [zbe] at h)))
  ·subst hj
   refine ze (by omega) (zn fun y hy => ?_)
   have hy' : y = zb9 [e.fr, e.to] := by rw [← hy]; exact (zdf _ 4 (by omega)).trans hd4
   subst hy'
   have hnl : (zb9 [e.fr, e.to]).length ≤ 2100 := by rw [← hd4]; simp; omega
   rw [zuo fuel [e.fr, e.to] (fun n hn => by
    rcases List.mem_cons.1 hn with rfl | hn
    ·omega
    ·have := List.mem_singleton.1 hn; subst this; omega) (by omega) (by omega) (by omega), bindE_some]
   have i0 : ix [e.fr, e.to] (0 : Int) = e.fr := rfl
   have i1 : ix [e.fr, e.to] (1 : Int) = e.to := rfl
   rw [i0, i1]
   have he : (⟨e.k, e.fr, e.to, []⟩ : En) = e := by rw [← b0]
   refine zi (fun h => by simp at h) (fun _ => zi (fun h => by have := eq_of_beq h; simp only at this; omega) (fun _ => ze (by simp) (ze (by simp) ?_)))
   simp only
   rw [he, zg0, hrb, bindE_some]
   exact zd rfl
theorem rread_S (fuel : Nat) (t : List UInt8) (hf : 2300 < fuel) (hft : t.length < fuel) (hl : t.length ≤ 1048576) : zmk fuel t = some (zib (t.length + 1) 0 1 [] t) := by
 unfold zmk
 obtain ⟨R, hR⟩ : ∃ R, R = zib (t.length + 1) 0 1 [] t := ⟨_, rfl⟩
 have h0 : RdS R t.length 0 1 [] t := hR ▸ RdS.start t
 rw [← hR]
 refine Ok.eq (zi (fun h => by have := of_decide_eq_true h; omega) (fun _ => ?_))
 refine zaw (fun j => R = (⟨[], ⟨0, 0⟩⟩, j.1, 332)) ?_ (fun j hj => zd hj.symm)
 refine zay (fun (s : Int × Int × Int × Trc) => ∃ i f : Nat, s.2.2.1 = (i : Int) ∧ s.2.1 = (f : Int) ∧ f ≤ i ∧ i ≤ t.length ∧ (10 : UInt8) ∉ (t.drop f).take (i - f) ∧ okL 0 s.2.2.2.l ∧ RdS R t.length (atL 0 s.2.2.2.l) s.1 s.2.2.2.l (t.drop f)) (fun s => t.length - s.2.2.1.toNat) (fun s hT => ?_) _ _ (by simp; omega) ⟨0, 0, rfl, rfl, Nat.le_refl _, by omega, by simp, trivial, h0⟩
 obtain ⟨n, f', i', ⟨l, e⟩⟩ := s
 obtain ⟨i, f, g1, g2, g3, g4, g5, g6, hT⟩ := hT
 simp only at g1 g2 g6 hT
 subst g1 g2
 have hm := hT.many
 have hu := hT.num
 have hs := hT.sh
 rw [List.length_drop] at hs
 have ha := zg7 0 l
 refine zi (fun hc => ?_) (fun hc => zd ?_)
 ·have hc : i < t.length := by have := of_decide_eq_true hc; simp only at this; omega
  refine zaw (fun (j : Int × Int × Trc) => ∃ f' : Nat, j.2.1 = (f' : Int) ∧ f' ≤ i + 1 ∧ (10 : UInt8) ∉ (t.drop f').take (i + 1 - f') ∧ okL 0 j.2.2.l ∧ RdS R t.length (atL 0 j.2.2.l) j.1 j.2.2.l (t.drop f')) ?_ (fun j hj => ?_)
  ·refine ze (by simp only; omega) (zn fun x hx => ?_)
   rw [show ix t ((n, ((f : Nat) : Int), ((i : Nat) : Int), (⟨l, e⟩ : Trc)).2.2.1) = t[i] from zrp t i hc] at hx
   refine zi (fun h10 => zd ⟨f, rfl, by omega, ?_, g6, hT⟩) (fun h10 => ?_)
   ·have h10 : (((x.toNat : Nat) : Int) != 10) = true := h10
    have hx10 : x ≠ 10 := fun e => by subst e; simp at h10
    rw [show i + 1 - f = (i - f) + 1 by omega, List.take_add_one, List.getElem?_drop, show f + (i - f) = i by omega, List.getElem?_eq_getElem hc, hx]
    simp only [Option.toList, List.mem_append, List.mem_singleton]
    rintro (h | h)
    ·exact g5 h
    ·exact hx10 h.symm
   ·have h10 : (((x.toNat : Nat) : Int) != 10) = false := h10
    have hx10 : x = 10 := UInt8.toNat_inj.1 (by have := bne_eq_false_iff_eq.1 h10; show x.toNat = 10; omega)
    subst hx10
    refine ze (by simp only; omega) (zn fun p hp => ze (by simp only; omega) ?_)
    have hp' : p = (t.drop f).take (i - f) := by rw [← hp]; simp [sub]
    have hcat : t.drop f = p ++ 10 :: t.drop (i + 1) := by
     rw [hp']
     conv => lhs; rw [← List.take_append_drop (i - f) (t.drop f)]
     rw [List.drop_drop, show f + (i - f) = i by omega, List.drop_eq_getElem_cons hc, hx]
    rw [← hp'] at g5
    rw [hcat] at hT
    have hpl : p.length ≤ t.length := by rw [hp']; simp; omega
    obtain ⟨d, hd, hd'⟩ := rend_ok fuel p (by omega) (by omega) (by omega)
    rw [hd, bindE_some]
    refine zi (fun hd2 => ?_) (fun hd2 => ?_)
    ·obtain ⟨d1, d2⟩ := hd' hd2
     have hr := hT.end_ g5 d2 d1
     refine zi (fun hq => ze (by simp only; omega) (zd ?_)) (fun hq => zd ?_)
     ·have hq : i + 1 < t.length := by have := of_decide_eq_true hq; simp only at this; omega
      rw [if_neg (by intro e; have := congrArg List.length e; simp at this; omega)] at hr
      exact hr.symm
     ·have hq : t.length ≤ i + 1 := by have := of_decide_eq_false hq; simp only at this; omega
      rw [if_pos (List.drop_of_length_le hq)] at hr
      exact hr.symm
    ·have hne : ¬ ∃ e, zb4 e = true ∧ zhy e = p := by
      rintro ⟨e0, q1, q2⟩
      have := z1y fuel e0 (by omega) q1
      rw [q2, hd] at this
      cases this; cases hd2
     rw [z2f fuel l g6 (by omega) (by omega), bindE_some]
     obtain ⟨en, he, he'⟩ := zy5 fuel p (atL 0 l) ha (by omega) (by omega) (by omega)
     rw [he, bindE_some]
     refine zi (fun hb => zd ?_) (fun hb => ?_)
     ·refine (hT.none_ g5 hne ?_).symm
      rintro ⟨e0, q1, q2⟩
      have := zs3 fuel e0 (atL 0 l) ha q1 (by omega)
      rw [q2, he] at this
      rw [Option.some.inj this] at hb
      cases hb
     obtain ⟨e1, e2⟩ := he' (by simpa using hb)
     refine zi (fun h6 => zd ?_) (fun h6 => ?_)
     ·have h6 : l.length = 65536 := by have := of_decide_eq_true h6; simp only at this; omega
      exact (hT.full g5 hne e2 e1 h6).symm
     ·have h6 : ¬ l.length = 65536 := by have := of_decide_eq_false h6; simp only at this; omega
      refine ze (by simp only [List.length_cons, List.length_nil]; omega) (ze (by simp only; omega) (zd ⟨i + 1, rfl, by omega, by simp, ?_, ?_⟩))
      ·exact (zpk 0 l [en.1]).2 ⟨g6, e2, trivial⟩
      ·have := hT.next g5 hne e2 e1 h6
       rw [show max (atL 0 l) en.1.to = atL 0 (l ++ [en.1]) by rw [zki]; rfl] at this
       exact this
  ·obtain ⟨f2, k1, k2, k3, k4, k5⟩ := hj
   refine ze (by simp only; omega) (zd ⟨⟨i + 1, f2, by simp, k1, k2, by omega, k3, k4, k5⟩, by simp only; omega⟩)
 ·have hc : i = t.length := by have := of_decide_eq_false hc; simp only at this; omega
  subst hc
  rw [List.take_of_length_le (by simp)] at g5
  exact hT.no g5
theorem zsf (fuel : Nat) (a b : Trc) (h : a.l.length < fuel) (hm : a.l.length ≤ 1000000000) (hf : fuel < 2 ^ 60) : zea fuel a b = some (decide (a = b)) := by
 unfold zea
 rw [zjw fuel a h hm, bindE_some, zp3 fuel a b h hf, bindE_some]
theorem zrg : ∀ (k : Nat) (a n : Int) (l : List En) (s : List UInt8), l.length ≤ 65536 → (zib k a n l s).1.l.length ≤ 65536
 | 0, a, n, l, s, _ => by simp [zib]
 | k + 1, a, n, l, s, h => by
  rw [zib]
  split
  ·split
   ·split <;> simp [h]
   ·split
    ·split
     ·simp
     ·exact zrg k _ _ _ _ (by simp; omega)
    ·simp
  ·simp
end Go.Ab
