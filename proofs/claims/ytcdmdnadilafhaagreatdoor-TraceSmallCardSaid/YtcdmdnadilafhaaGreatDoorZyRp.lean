/-
  reparteeref02: quoting: plain.
-/
import Derived.Test.YtcdmdnadilafhaaGreatDoorZyRn
set_option linter.unusedSimpArgs false
set_option linter.unusedVariables false
namespace Go.Ab
open Go Go.RowKit Go.Fwd Go.Proofs
theorem zw3 (fuel : Nat) (b : List UInt8) (hf : b.length < fuel) (hb : b.length ≤ 1000000000) : zi0 fuel b (RSet.mk false) = some (b.flatMap byteP) := by
 unfold zi0
 refine Ok.eq (zaw (fun t => t = b.flatMap byteP) ?_ (fun t h => zd h))
 refine zay (fun s => ∃ i : Nat, s.2 = (i : Int) ∧ i ≤ b.length ∧ s.1 = (b.take i).flatMap byteP) (fun s => b.length - s.2.toNat) (fun s hT => ?_) _ _ (by simp; omega) ⟨0, rfl, by omega, by simp⟩
 obtain ⟨i, h1, h2, h3⟩ := hT
 obtain ⟨s1, s2⟩ := s
 simp only at h1 h3
 subst h1 h3
 refine zi (fun hc => ?_) (fun hc => ?_)
 ·have hc : i < b.length := by have := of_decide_eq_true hc; omega
  have hx : ix b (i : Int) = b[i] := by simp [ix, hc]
  have hfl := zfj (b.take i)
  have hbl := zhi b[i]
  have htl : (b.take i).length ≤ b.length := by simp; omega
  refine ze (by simp only; omega) (zn fun x hx' => ze rfl (zn fun y hy => ze ?_ (ze (by simp only; omega) (zd ?_))))
  ·rw [← hy, ← hx', hx]; simp only; omega
  ·refine ⟨⟨i + 1, by simp, by omega, ?_⟩, by simp only; omega⟩
   simp only
   rw [← hy, ← hx', hx, List.take_succ_eq_append_getElem hc, List.flatMap_append]
   simp
 ·have hc : i = b.length := by have := of_decide_eq_false hc; simp only at this; omega
  exact zd (by simp [hc])
def zur (s : List UInt8) (c : UInt8) : List (List UInt8) → Option (UInt8 × Nat)
 | [] => none
 | f :: fs => bif f.isPrefixOf s then some (c, f.length) else zur s c fs
def zsu (s : List UInt8) : List UInt8 → Option (UInt8 × Nat)
 | [] => none
 | c :: cs => match zur s c (ze5 c) with
  | some x => some x
  | none => zsu s cs
def zws : List UInt8 → List UInt8
 | [] => []
 | c :: r => bif c == 92 then [9, 10, 13] ++ (match r with
  | [] => []
  | x :: r => [x] ++ (match r with
   | a :: b :: _ => [zas (IntKind.u8.wrap (16 * zv5 a + zv5 b))]
   | _ => [])) else [c]
theorem zys (c : UInt8) : 0 ≤ zv5 c ∧ zv5 c ≤ 16 := of_decide_eq_true (zvn (fun c => decide (0 ≤ zv5 c ∧ zv5 c ≤ 16)) (by decide +kernel) c)
theorem rmay_eq (s : List UInt8) : zq5 s = some (zws s) := by
 unfold zq5
 rcases s with _ | ⟨c, r⟩
 ·refine zaq rfl (zal (by decide) (za1 rfl))
 refine zat (by simp <;> omega) (zal (by simp <;> omega) (za1 ?_))
 rw [ix0]
 by_cases hc : c = 92
 ·subst hc
  refine zat (by decide) ?_
  rcases r with _ | ⟨x, r⟩
  ·exact zat (by decide) (zat (by decide) rfl)
  refine zaq (by simp; omega) (zal (by simp; omega) (za1 ?_))
  rw [ix1]
  refine zal (zhh x) (zal (by simp) ?_)
  rw [zqz]
  rcases r with _ | ⟨a, _ | ⟨b, r⟩⟩
  ·exact zat (by simp) rfl
  ·exact zat (by simp) rfl
  have da := zys a
  have db := zys b
  refine zaq (by simp; omega) (zal (by simp; omega) (za1 (za1 ?_)))
  rw [ix2]
  refine zal (by omega) (zal (by simp; omega) (za1 (za1 ?_)))
  rw [ix3]
  refine zal (by omega) (zal (zzh _) (zal (by simp) ?_))
  rfl
 ·have h1 : ((((c).toNat : Nat) : Int) != 92) = true := bne_iff_ne.2 fun e => hc (UInt8.toNat_inj.1 (by show c.toNat = 92; omega))
  refine zaq h1 (zal (by simp; omega) (za1 ?_))
  have : (min ((List.length (c :: r) : Nat) : Int) 1) = 1 := by simp; omega
  rw [this, zfn]
  have h2 : (c == 92) = false := beq_eq_false_iff_ne.2 hc
  simp [zws, h2]
theorem zv1 (s t : List UInt8) : zg5 s t = some (t.isPrefixOf s) := by
 unfold zg5
 refine zt4 (fun h => ?_) (fun h => ?_)
 ·have h := of_decide_eq_true h
  refine zal (by omega) (za1 ?_)
  rw [zfn, Int.toNat_natCast]
  congr 1
  rw [Bool.eq_iff_iff, beq_iff_eq, List.isPrefixOf_iff_prefix, List.prefix_iff_eq_take]
  exact eq_comm
 ·have h := of_decide_eq_false h
  congr 1
  symm
  rw [Bool.eq_false_iff]
  intro h2
  have := (List.isPrefixOf_iff_prefix.1 h2).length_le
  omega
theorem znw (c : UInt8) : (ze5 c).length ≤ 10 ∧ ((ze5 c).all fun f => decide (1 ≤ f.length ∧ f.length ≤ 4)) = true := of_decide_eq_true (zvn (fun c => decide ((ze5 c).length ≤ 10 ∧ ((ze5 c).all fun f => decide (1 ≤ f.length ∧ f.length ≤ 4)) = true)) (by decide +kernel) c)
theorem may_len (s : List UInt8) : (zws s).length ≤ 5 := by
 rcases s with _ | ⟨c, _ | ⟨x, _ | ⟨a, _ | ⟨b, r⟩⟩⟩⟩ <;> simp only [zws, List.length_nil] <;> (try omega) <;> cases (c == 92) <;> simp
def rbP (s : List UInt8) : Int × Int × Int := match zsu s (zws s) with
 | some (c, n) => (((c.toNat : Nat) : Int), (n : Int), 0)
 | none => (0, 0, 20)
theorem zk2 (fuel : Nat) (s : List UInt8) (hf : 20 < fuel) (hs : s.length ≤ 1000000000) : zfd fuel s (RSet.mk false) = some (rbP s) := by
 unfold zfd
 have hml := may_len s
 rw [rmay_eq, bindE_some]
 unfold rbP
 generalize zws s = all at hml
 refine Ok.eq (zaw (fun _ => zsu s all = none) ?_ (fun _ h => zd (by rw [h])))
 refine zay (fun (x : Int) => ∃ i : Nat, x = (i : Int) ∧ i ≤ all.length ∧ zsu s (all.drop i) = zsu s all) (fun x => all.length - x.toNat) (fun x hT => ?_) _ _ (by simp; omega) ⟨0, rfl, by omega, rfl⟩
 obtain ⟨i, rfl, h2, h3⟩ := hT
 refine zi (fun hc => ?_) (fun hc => ?_)
 ·have hc : i < all.length := by have := of_decide_eq_true hc; omega
  have hx : ix all (i : Int) = all[i] := by simp [ix, hc]
  rw [List.drop_eq_getElem_cons hc, zsu, ← hx] at h3
  have hfl := (znw (ix all (i : Int))).1
  refine zaw (fun _ => zur s (ix all (i : Int)) (ze5 (ix all (i : Int))) = none) ?_ (fun _ hn => ze (by omega) (zd ⟨⟨i + 1, by simp, by omega, ?_⟩, by first | omega | (simp only; omega)⟩))
  ·refine ze (by omega) (ze rfl (zn fun l hl => ?_))
   rw [hl] at h3 hfl ⊢
   refine zay (fun (y : Int) => ∃ j : Nat, y = (j : Int) ∧ j ≤ l.length ∧ zur s (ix all (i : Int)) (l.drop j) = zur s (ix all (i : Int)) l) (fun y => l.length - y.toNat) (fun y hU => ?_) _ _ (by simp; omega) ⟨0, rfl, by omega, rfl⟩
   obtain ⟨j, rfl, g2, g3⟩ := hU
   refine zi (fun hd => ?_) (fun hd => ?_)
   ·have hd : j < l.length := by have := of_decide_eq_true hd; omega
    have hy : ix l (j : Int) = l[j] := by simp [ix, hd]
    rw [List.drop_eq_getElem_cons hd, zur, ← hy] at g3
    refine ze (by omega) ?_
    rw [zv1, bindE_some]
    refine zi (fun hp => ze (by omega) (ze (by omega) (zd ?_))) (fun hp => ze (by omega) (zd ⟨⟨j + 1, by simp, by omega, ?_⟩, by first | omega | (simp only; omega)⟩))
    ·rw [hp] at g3
     simp only [cond_true] at g3
     rw [← g3] at h3
     simp only at h3
     rw [← h3]
    ·rw [hp] at g3
     simp only [cond_false] at g3
     exact g3
   ·have hd : j = l.length := by have := of_decide_eq_false hd; omega
    rw [hd, List.drop_length] at g3
    exact zd g3.symm
  ·rw [hn] at h3; exact h3
 ·have hc : i = all.length := by have := of_decide_eq_false hc; omega
  rw [hc, List.drop_length] at h3
  exact zd h3.symm
theorem zyh : ∀ (f p r : List UInt8), f.length ≤ p.length → f.isPrefixOf (p ++ r) = f.isPrefixOf p
 | [], p, r, _ => by simp
 | a :: f, [], r, h => by simp at h
 | a :: f, b :: p, r, h => by
  rw [List.cons_append, List.isPrefixOf_cons_cons, List.isPrefixOf_cons_cons, zyh f p r (by simpa using h)]
theorem zvk (p r : List UInt8) (c : UInt8) : ∀ fs : List (List UInt8), (∀ f ∈ fs, f.length ≤ p.length) → zur (p ++ r) c fs = zur p c fs
 | [], _ => rfl
 | f :: fs, h => by rw [zur, zur, zyh f p r (h f (by simp)), zvk p r c fs fun g hg => h g (by simp [hg])]
theorem zu6 (p r : List UInt8) (hp : p.length = 4) : ∀ l : List UInt8, zsu (p ++ r) l = zsu p l
 | [] => rfl
 | c :: l => by
  rw [zsu, zsu, zvk p r c (ze5 c) fun f hf => by
   have := of_decide_eq_true (List.all_eq_true.1 (znw c).2 f hf); omega, zu6 p r hp l]
theorem try_hex (c : UInt8) (h : (byteP c).length = 4) : zsu (byteP c) (zws (byteP c)) = some (c, 4) := by
 have := zvn (fun c => !decide ((byteP c).length = 4) || decide (zsu (byteP c) (zws (byteP c)) = some (c, 4))) (by decide +kernel) c
 simpa [h] using this
theorem try_dir (c : UInt8) (h1 : ¬ c = 92) (h2 : 32 ≤ c) (h3 : c ≤ 126) (h4 : ¬ c = 34) (r : List UInt8) : rbP (c :: r) = (((c.toNat : Nat) : Int), 1, 0) := by
 have hb : (c == 92) = false := beq_eq_false_iff_ne.2 h1
 have hm : zws (c :: r) = [c] := by simp [zws, hb]
 have hf : ∃ t, ze5 c = [c] :: t := by
  unfold ze5
  rw [if_pos ⟨h2, h3, h1, h4⟩]
  exact ⟨_, rfl⟩
 obtain ⟨t, ht⟩ := hf
 unfold rbP
 rw [hm, zsu, ht, zur]
 simp [List.isPrefixOf]
theorem zod (c : UInt8) (r : List UInt8) : rbP (byteP c ++ r) = (((c.toNat : Nat) : Int), (((byteP c).length : Nat) : Int), 0) := by
 unfold byteP
 split
 ·rename_i h; subst h; rfl
 split
 ·rename_i h; subst h; rfl
 split
 ·rename_i h; subst h; rfl
 split
 ·rename_i g1 g2 g3 h
  have hb : byteP c = [92, 120, zl2 (c.toNat / 16), zl2 (c.toNat % 16)] := by unfold byteP; rw [if_neg g1, if_neg g2, if_neg g3, if_pos h]
  have hl : (byteP c).length = 4 := by rw [hb]; rfl
  have ht := try_hex c hl
  have hm : zws ([92, 120, zl2 (c.toNat / 16), zl2 (c.toNat % 16)] ++ r) = zws [92, 120, zl2 (c.toNat / 16), zl2 (c.toNat % 16)] := rfl
  unfold rbP
  rw [hm, zu6 _ _ rfl, ← hb, ht, hb]
  rfl
 split
 ·rename_i h
  rcases h with h | h <;> subst h <;> rfl
 ·rename_i h1 h2
  have e1 : 32 ≤ c := UInt8.not_lt.1 fun h => h1 (.inl h)
  have e2 : c ≤ 126 := UInt8.not_lt.1 fun h => h1 (.inr h)
  exact try_dir c (fun h => h2 (.inl h)) e1 e2 (fun h => h2 (.inr h)) r
theorem zrc {s : List UInt8} {c d : UInt8} {n : Nat} : ∀ {fs : List (List UInt8)}, (∀ f ∈ fs, 1 ≤ f.length) → zur s c fs = some (d, n) → 1 ≤ n ∧ n ≤ s.length
 | [], _, h => by cases h
 | f :: fs, hf, h => by
  rw [zur] at h
  cases hp : f.isPrefixOf s with
  | true =>
   rw [hp] at h
   simp only [cond_true, Option.some.injEq, Prod.mk.injEq] at h
   have := (List.isPrefixOf_iff_prefix.1 hp).length_le
   have := hf f (by simp)
   omega
  | false =>
   rw [hp] at h
   exact zrc (fun g hg => hf g (by simp [hg])) h
theorem zrm {s : List UInt8} {d : UInt8} {n : Nat} : ∀ {l : List UInt8}, zsu s l = some (d, n) → 1 ≤ n ∧ n ≤ s.length
 | [], h => by cases h
 | c :: l, h => by
  rw [zsu] at h
  cases ht : zur s c (ze5 c) with
  | none => rw [ht] at h; exact zrm h
  | some x =>
   rw [ht] at h
   cases h
   exact zrc (fun f hf => (of_decide_eq_true (List.all_eq_true.1 (znw c).2 f hf)).1) ht
theorem rbP_ok (s : List UInt8) : (0 ≤ (rbP s).1 ∧ (rbP s).1 < 256) ∧ ((rbP s).2.2 = 0 → 1 ≤ (rbP s).2.1 ∧ (rbP s).2.1 ≤ (s.length : Int)) := by
 unfold rbP
 cases h : zsu s (zws s) with
 | none => exact ⟨by decide, fun h => by simp at h⟩
 | some x =>
  obtain ⟨c, n⟩ := x
  have := zrm h
  exact ⟨zhh c, fun _ => by simp only; omega⟩
theorem zog (fuel : Nat) (b : List UInt8) (hf : b.length < fuel) (hf2 : 20 < fuel) (hb : b.length ≤ 100000000) : zd8 fuel (zcu b) = some (b, ((zcu b).length : Int), 0) := by
 have hfl := zfj b
 have hql : (zcu b).length = (b.flatMap byteP).length + 2 := by simp [zcu]
 unfold zd8
 refine Ok.eq (zi (fun h => by have := eq_of_beq h; omega) (fun _ => ze (by omega) (zn fun x hx => zi (fun h => ?_) (fun _ => ?_))))
 ·have : x = 34 := by rw [← hx]; rfl
  subst this; simp at h
 refine zaw (fun s => s.1 = b ∧ s.2 = ((1 + (b.flatMap byteP).length : Nat) : Int)) ?_ (fun s hs => ?_)
 ·refine zay (fun s => ∃ i : Nat, i ≤ b.length ∧ s.1 = b.take i ∧ s.2 = ((1 + ((b.take i).flatMap byteP).length : Nat) : Int)) (fun s => b.length - s.1.length) (fun s hT => ?_) _ _ (by simp; omega) ⟨0, by omega, by simp, by simp⟩
  obtain ⟨i, hi, h1, h2⟩ := hT
  obtain ⟨out, at'⟩ := s
  simp only at h1 h2
  subst h1 h2
  have hd := zot b i hi
  have htl : (b.take i).length = i := by simp; omega
  by_cases e : i = b.length
  ·subst e
   rw [List.drop_length] at hd
   obtain ⟨k1, k2⟩ := znv (show (zcu b).drop _ = 34 :: [] from hd)
   rw [List.take_length] at k1 k2 ⊢
   refine zi (fun _ => ?_) (fun h => zd ⟨rfl, rfl⟩)
   refine ze (by omega) (zn fun y hy => zi (fun h => ?_) (fun _ => zd ⟨rfl, rfl⟩))
   rw [← hy, k1] at h; simp at h
  ·have hlt : i < b.length := by omega
   rw [List.drop_eq_getElem_cons hlt, List.flatMap_cons, List.append_assoc] at hd
   obtain ⟨a, r, ha, hne⟩ := zo9 b[i]
   have hd' := hd
   rw [ha, List.cons_append] at hd'
   obtain ⟨k1, k2⟩ := znv hd'
   have hbl := zhi b[i]
   refine zi (fun _ => ?_) (fun h => ?_)
   ·refine ze (by omega) (zn fun y hy => zi (fun _ => ze (by omega) (zn fun z hz => ?_)) (fun h => ?_))
    ·have hz' : z = byteP b[i] ++ ((b.drop (i + 1)).flatMap byteP ++ [34]) := by
      rw [← hz, zdf _ _ (by omega), hd]
     subst hz'
     have hzl := congrArg List.length hd
     simp only [List.length_drop, List.length_append] at hzl
     rw [zk2 fuel _ hf2 (by simp only [List.length_append]; omega), zod, bindE_some]
     refine zi (fun h => by simp at h) (fun _ => ze (zhh _) (ze (by simp only [htl, List.length_cons, List.length_nil]; omega) (ze ?_ (zd ⟨⟨i + 1, by omega, ?_, ?_⟩, ?_⟩))))
     ·simp only; omega
     ·simp only [zqz]; rw [List.take_succ_eq_append_getElem hlt]
     ·simp only; rw [List.take_succ_eq_append_getElem hlt, List.flatMap_append]; simp; omega
     ·simp only [List.length_append, htl, List.length_cons, List.length_nil]; omega
    ·rw [← hy, k1] at h
     exfalso; apply hne
     apply UInt8.toNat_inj.1
     have h : (((a.toNat : Nat) : Int) != 34) = false := h
     have := (bne_eq_false_iff_eq).1 h
     show a.toNat = 34
     omega
   ·have := of_decide_eq_false h; simp only at this; omega
 ·obtain ⟨s1, s2⟩ := s
  obtain ⟨hs1, hs2⟩ := hs
  simp only at hs1 hs2
  subst hs1 hs2
  simp only
  refine zi (fun h => by have := eq_of_beq h; omega) (fun _ => ze (by omega) (zd ?_))
  simp only [Prod.mk.injEq, true_and, and_true]
  omega
theorem zs1 (fuel : Nat) (t : List UInt8) (hf : t.length < fuel) (hf2 : 20 < fuel) (hb : t.length ≤ 1000000000) : Ok (fun r => r.1.length ≤ t.length ∧ (-9223372036854775808 ≤ r.2.1 ∧ r.2.1 < 9223372036854775808)) (zd8 fuel t) := by
 unfold zd8
 refine zi (fun _ => zd ⟨Nat.zero_le _, by decide⟩) (fun h => ?_)
 have h0 : 0 < t.length := by have := ne_of_beq_false h; omega
 refine ze (by omega) (zn fun x hx => zi (fun _ => zd ⟨Nat.zero_le _, by decide⟩) (fun _ => ?_))
 refine zaw (fun s => 1 ≤ s.2 ∧ s.2 ≤ (t.length : Int) ∧ (s.1.length : Int) + 1 ≤ s.2) ?_ (fun s hs => ?_)
 ·refine zay (fun (s : List UInt8 × Int) => 1 ≤ s.2 ∧ s.2 ≤ (t.length : Int) ∧ (s.1.length : Int) + 1 ≤ s.2) (fun s => t.length - s.2.toNat) (fun s hT => ?_) _ _ (by simp; omega) ⟨by decide, by omega, by simp⟩
  obtain ⟨out, at'⟩ := s
  obtain ⟨h1, h2, h3⟩ := hT
  simp only at h1 h2 h3
  refine zi (fun hc => ?_) (fun _ => zd ⟨h1, h2, h3⟩)
  have hc := of_decide_eq_true hc
  simp only at hc
  refine ze ⟨by simp only; omega, hc⟩ (zn fun y hy => zi (fun _ => ze (by simp only; omega) (zn fun z hz => ?_)) (fun _ => zd ⟨h1, h2, h3⟩))
  have hzl : z.length = t.length - at'.toNat := by
   obtain ⟨n, rfl⟩ : ∃ n : Nat, at' = (n : Int) := ⟨at'.toNat, by omega⟩
   rw [← hz]
   simp only
   rw [zdf _ _ (by omega), List.length_drop, Int.toNat_natCast]
  rw [zk2 fuel z hf2 (by omega), bindE_some]
  obtain ⟨g1, g2⟩ := rbP_ok z
  refine zi (fun _ => zd ⟨Nat.zero_le _, by simp only; omega⟩) (fun h => ?_)
  have he : (rbP z).2.2 = 0 := by simpa using h
  obtain ⟨g3, g4⟩ := g2 he
  refine ze g1 (ze (by simp only [List.length_cons, List.length_nil]; omega) (ze (by simp only; omega) (zd ⟨⟨by simp only; omega, by simp only; omega, by simp only [List.length_append, List.length_cons, List.length_nil]; omega⟩, by simp only; omega⟩)))
 ·obtain ⟨s1, s2⟩ := s
  obtain ⟨h1, h2, h3⟩ := hs
  simp only at h1 h2 h3 ⊢
  refine zi (fun _ => zd ⟨Nat.zero_le _, by simp only; omega⟩) (fun _ => ze (by omega) (zd ⟨by simp only; omega, by simp only; omega⟩))
end Go.Ab
