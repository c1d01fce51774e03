/-
  TraceTells: plain.
-/
import Derived.Test.YtcdmdnadilafhaaGreatDoorZyTy
import Derived.Test.YtcdmdnadilafhaaGreatDoorZyRt
set_option linter.unusedSimpArgs false
set_option linter.unusedVariables false
namespace Go.Ab
open Go Go.RowKit Go.Fwd Go.Proofs
theorem zx5 (e : Ed) : zjh e = some (zb4 e) := by
 unfold zjh zb4
 refine zt4 (fun h => ?_) (fun h => zt4 (fun h5 => ?_) (fun h5 => ?_))
 ·have h := of_decide_eq_true h
  rw [if_neg (by omega), decide_eq_false (by omega)]
 ·have h5 := of_decide_eq_true h5
  rw [if_neg (by omega), decide_eq_false (by omega)]
 have h := of_decide_eq_false h
 have h5 := of_decide_eq_false h5
 refine zt4 (fun h0 => ?_) (fun h0 => zt4 (fun h2 => zt4 (fun hc => ?_) (fun hc => ?_)) (fun h2 => ?_))
 ·have h0 := eq_of_beq h0
  split
  ·rw [decide_eq_true (by omega)]
  ·rw [decide_eq_true (by omega)]
 ·have h2 := eq_of_beq h2
  have hc := of_decide_eq_true hc
  rw [if_pos h2]
  congr 1
  rw [decide_eq_decide]
  omega
 ·have h2 := eq_of_beq h2
  have hc := of_decide_eq_false hc
  have h0 := ne_of_beq_false h0
  rw [if_pos h2, decide_eq_false (by omega)]
 ·have h2 := ne_of_beq_false h2
  have h0 := ne_of_beq_false h0
  rw [if_neg h2, decide_eq_false (by omega)]
theorem zzl (fuel : Nat) (t : Trc) (hf : t.l.length < fuel) (hf2 : 70000 < fuel) : zji fuel t = some (zct t) := by
 unfold zji
 refine Ok.eq (zi (fun h => zd ?_) (fun h => ?_))
 ·have h := of_decide_eq_true h
  unfold zct
  rw [if_pos (by omega)]
 have h := of_decide_eq_false h
 have hm : t.l.length ≤ 65536 := by omega
 refine zaw (fun _ => okL 0 t.l) ?_ (fun _ hk => ?_)
 ·refine zay (fun (s : Int × Int) => ∃ i : Nat, s.2 = (i : Int) ∧ i ≤ t.l.length ∧ okL 0 (t.l.take i) ∧ s.1 = atL 0 (t.l.take i)) (fun s => t.l.length - s.2.toNat) (fun s hT => ?_) _ _ (by simp; omega) ⟨0, rfl, by omega, by simp [okL], by simp [atL]⟩
  obtain ⟨s1, s2⟩ := s
  obtain ⟨i, g1, g2, g3, g4⟩ := hT
  simp only at g1 g4
  subst g1 g4
  have ha := zg7 0 (t.l.take i)
  refine zi (fun hc => ?_) (fun hc => zd ?_)
  ·have hc : i < t.l.length := by have := of_decide_eq_true hc; simp only at this; omega
   have hn : okL 0 (t.l.take (i + 1)) ↔ zbt (ix t.l (i : Int)) (atL 0 (t.l.take i)) := by
    rw [zdz t.l hc, zpk]
    simp [g3, okL]
   have hx : atL 0 (t.l.take (i + 1)) = max (atL 0 (t.l.take i)) (ix t.l (i : Int)).to := by rw [zdz t.l hc, zki]; rfl
   refine zaw (fun j => okL 0 (t.l.take (i + 1)) ∧ j = atL 0 (t.l.take (i + 1))) ?_ (fun j hj => ze (by simp only; omega) (zd ⟨⟨i + 1, by simp, by omega, hj.1, hj.2⟩, by simp only; omega⟩))
   refine ze (by simp only; omega) (zn fun x hx' => ?_)
   have hx' : ix t.l (i : Int) = x := hx'
   rw [hx'] at hn hx
   rw [zg0, bindE_some]
   refine zi (fun hr => zd ?_) (fun hr => ?_)
   ·have hr : ¬ zbt x (atL 0 (t.l.take i)) := by
     have : zi9 x (atL 0 (t.l.take i)) = false := by simpa using hr
     exact of_decide_eq_false this
    have hnok : nOk 0 t.l = i := by
     conv => lhs; rw [← List.take_append_drop i t.l]
     rw [nOk_app 0 _ _ g3, zom t.l hc, hx', nOk, if_neg hr]
     simp; omega
    show (((i : Nat) : Int), (330 : Int)) = zct t
    unfold zct
    rw [if_neg (by omega), hnok, if_pos hc]
   ·have hr : zbt x (atL 0 (t.l.take i)) := by
     have : zi9 x (atL 0 (t.l.take i)) = true := by simpa using hr
     exact of_decide_eq_true this
    obtain ⟨k1, k2, k3, k4, k5, k6⟩ := zig ha hr
    refine zi (fun hk => zd ⟨hn.2 hr, ?_⟩) (fun hk => zd ⟨hn.2 hr, ?_⟩)
    ·have hk : x.k ≠ 1 := by simpa using hk
     rw [hx]
     rcases hr with ⟨q1, _⟩ | ⟨q1, q2, q3, q4, q5, q6⟩
     ·exact absurd q1 hk
     ·omega
    ·have hk : x.k = 1 := by simpa using hk
     rw [hx, (k5 hk).2]
     show atL 0 (t.l.take i) = _
     omega
  ·have hc : i = t.l.length := by have := of_decide_eq_false hc; simp only at this; omega
   show okL 0 t.l
   rw [← List.take_length (l := t.l), ← hc]; exact g3
 ·rw [zx5, bindE_some]
  have hnok := (zvg 0 t.l).1 hk
  refine zi (fun he => zd ?_) (fun he => zd ?_)
  ·have he : zb4 t.e = false := by simpa using he
   unfold zct
   rw [if_neg (by omega), hnok, if_neg (by omega), if_neg (by simp [he])]
  ·have he : zb4 t.e = true := by simpa using he
   unfold zct
   rw [if_neg (by omega), hnok, if_neg (by omega), if_pos he]
theorem zz1 (fuel : Nat) (t : Trc) (hf : t.l.length < fuel) (hm : t.l.length ≤ 1000000000) (hb : zcl t.l ≤ 140737488355328) : zj9 fuel t = some (zdx t.l) := by
 unfold zj9
 refine Ok.eq (zaw (fun r => r = zdx t.l) ?_ (fun r h => zd h))
 refine zay (fun (s : List UInt8 × Int) => ∃ i : Nat, s.2 = (i : Int) ∧ i ≤ t.l.length ∧ s.1 = zdx (t.l.take i)) (fun s => t.l.length - s.2.toNat) (fun s hT => ?_) _ _ (by simp; omega) ⟨0, rfl, by omega, by simp [zdx]⟩
 obtain ⟨s1, s2⟩ := s
 obtain ⟨i, g1, g2, g3⟩ := hT
 simp only at g1 g3
 subst g1 g3
 refine zi (fun hc => ?_) (fun hc => zd ?_)
 ·have hc : i < t.l.length := by have := of_decide_eq_true hc; simp only at this; omega
  have hs : zdx (t.l.take (i + 1)) = zdx (t.l.take i) ++ (if (ix t.l (i : Int)).k = 1 then (ix t.l (i : Int)).b else []) := by rw [zdz t.l hc, zmz]; simp [zdx]
  have hbn : zcl t.l = zcl (t.l.take i) + ((ix t.l (i : Int)).b.length + zcl (t.l.drop (i + 1))) := by
   conv => lhs; rw [← List.take_append_drop i t.l]
   rw [zht, zom t.l hc, zcl]
  have hsl := zmx (t.l.take i)
  refine zaw (fun j => j = zdx (t.l.take (i + 1))) ?_ (fun j hj => ze (by simp only; omega) (zd ⟨⟨i + 1, by simp, by omega, hj⟩, by simp only; omega⟩))
  refine ze (by simp only; omega) (zn fun x hx => zi (fun hk => ze (by simp only; omega) (zn fun y hy => ze ?_ (zd ?_))) (fun hk => zd ?_))
  ·have hy : ix t.l (i : Int) = y := hy
   rw [← hy]; simp only; omega
  ·have hy : ix t.l (i : Int) = y := hy
   have hx : ix t.l (i : Int) = x := hx
   have hk : x.k = 1 := by simpa using hk
   rw [← hx] at hk
   rw [hs, if_pos hk, hy]
  ·have hx : ix t.l (i : Int) = x := hx
   have hk : x.k ≠ 1 := by simpa using hk
   rw [← hx] at hk
   rw [hs, if_neg hk, List.append_nil]
 ·have hc : i = t.l.length := by have := of_decide_eq_false hc; simp only at this; omega
  show zdx (t.l.take i) = _
  rw [hc, List.take_length]
theorem zw5 (fuel : Nat) (t : Trc) (k : Int) (hk : okL 0 t.l) (hf : t.l.length < fuel) (hm : t.l.length ≤ 65536) : zh0 fuel t k = some (zgw (fun e => e.k == k) t.l) := by
 unfold zh0
 refine Ok.eq (zaw (fun r => r = zgw (fun e => e.k == k) t.l) ?_ (fun r h => zd h))
 refine zay (fun (s : Int × Int) => ∃ i : Nat, s.2 = (i : Int) ∧ i ≤ t.l.length ∧ s.1 = zgw (fun e => e.k == k) (t.l.take i)) (fun s => t.l.length - s.2.toNat) (fun s hT => ?_) _ _ (by simp; omega) ⟨0, rfl, by omega, by simp [zgw]⟩
 obtain ⟨s1, s2⟩ := s
 obtain ⟨i, g1, g2, g3⟩ := hT
 simp only at g1 g3
 subst g1 g3
 refine zi (fun hc => ?_) (fun hc => zd ?_)
 ·have hc : i < t.l.length := by have := of_decide_eq_true hc; simp only at this; omega
  have hs : zgw (fun e => e.k == k) (t.l.take (i + 1)) = zgw (fun e => e.k == k) (t.l.take i) + (if (ix t.l (i : Int)).k = k then (ix t.l (i : Int)).to - (ix t.l (i : Int)).fr else 0) := by rw [zdz t.l hc, zpn]; simp [zgw]
  have hr := zrd hk hc
  rw [← ixD] at hr
  obtain ⟨q1, q2, q3, q4, q5⟩ := zo8 (zg7 0 (t.l.take i)) hr
  have hb := zpy (fun e => e.k == k) 0 (t.l.take i) (by omega) (zl9 hk i)
  have hl : (t.l.take i).length ≤ 65536 := by simp; omega
  refine zaw (fun j => j = zgw (fun e => e.k == k) (t.l.take (i + 1))) ?_ (fun j hj => ze (by simp only; omega) (zd ⟨⟨i + 1, by simp, by omega, hj⟩, by simp only; omega⟩))
  refine ze (by simp only; omega) (zn fun x hx => ?_)
  have hx : ix t.l (i : Int) = x := hx
  rw [hx] at hs q1 q2 q3 q4 q5
  refine zi (fun hkx => ze (by simp only; omega) (zn fun y hy => ?_)) (fun hkx => zd ?_)
  ·have hy : y = x := by rw [← hx]; exact hy.symm
   subst hy
   refine ze (by simp only; omega) (ze (by simp only; omega) (zn fun z hz => ?_))
   have hz : z = y := by rw [← hx]; exact hz.symm
   subst hz
   refine ze (by simp only; omega) (zd ?_)
   rw [hs, if_pos (eq_of_beq hkx)]
   show _ + z.to - z.fr = _
   omega
  ·rw [hs, if_neg (ne_of_beq_false hkx)]
   show zgw (fun e => e.k == k) (t.l.take i) = _
   omega
 ·have hc : i = t.l.length := by have := of_decide_eq_false hc; simp only at this; omega
  show zgw (fun e => e.k == k) (t.l.take i) = _
  rw [hc, List.take_length]
theorem zz9 (e : Ed) (h : zb4 e = true) : znm e = some (zhy e) := by
 obtain ⟨h1, h2, h3⟩ := zjq h
 have l1 := Lib.itoa_length_le e.c (by omega) (by omega)
 unfold znm zhy
 by_cases hk : e.k = 2
 ·refine zaq (by simp [hk]) (zal (by omega) (za1 (zal (by simp only [List.length_cons, List.length_nil]; omega) ?_)))
  rw [if_pos hk]
 ·refine zat (by simp [hk]) (zal (by omega) (za1 ?_))
  rw [if_neg hk]
theorem zw7 (fuel : Nat) (t : Trc) (hf : t.l.length < fuel) (hf2 : 2300 < fuel) (h : okT t) : zgg fuel t = some (zve t) := by
 obtain ⟨h1, h2, h3⟩ := h
 have hel := zl8 h3
 unfold zgg
 refine Ok.eq (zaw (fun j => j = zec t.l) ?_ (fun j hj => ?_))
 ·refine zay (fun (s : List UInt8 × Int) => ∃ i : Nat, s.2 = (i : Int) ∧ i ≤ t.l.length ∧ s.1 = zec (t.l.take i)) (fun s => t.l.length - s.2.toNat) (fun s hT => ?_) _ _ (by simp; omega) ⟨0, rfl, by omega, by simp [zec]⟩
  obtain ⟨s1, s2⟩ := s
  obtain ⟨i, g1, g2, g3⟩ := hT
  simp only at g1 g3
  subst g1 g3
  refine zi (fun hc => ?_) (fun hc => zd ?_)
  ·have hc : i < t.l.length := by have := of_decide_eq_true hc; simp only at this; omega
   have hr := zrd h2 hc
   rw [← ixD] at hr
   have ha := zg7 0 (t.l.take i)
   have hll := ziw ha hr
   have htl := zhd 0 (t.l.take i) (by omega) (zl9 h2 i)
   have htk : (t.l.take i).length ≤ 65536 := by simp; omega
   refine ze (by simp only; omega) (zn fun e he => ?_)
   have he : ix t.l (i : Int) = e := he
   rw [he] at hr hll
   rw [zim fuel ha hr (by omega), bindE_some]
   refine ze (by simp only; omega) (ze (by simp only [List.length_append, List.length_cons, List.length_nil]; omega) (ze (by simp only; omega) (zd ⟨⟨i + 1, by simp, by omega, ?_⟩, by simp only; omega⟩)))
   simp only
   rw [zdz _ hc, zr7, he]
   simp [zec]
  ·have hc : i = t.l.length := by have := of_decide_eq_false hc; simp only at this; omega
   show zec (t.l.take i) = _
   rw [hc, List.take_length]
 ·have htl := zhd 0 t.l (by omega) h2
  rw [zz9 t.e h3, bindE_some, hj]
  refine ze (by omega) (ze (by simp only [List.length_append, List.length_cons, List.length_nil]; omega) (zd ?_))
  unfold zve
  rw [List.append_assoc]
theorem zgu {t : Trc} : (zct t).2 = 0 ↔ okT t := zm4
theorem zyl (fuel : Nat) (t : Trc) (hf : t.l.length < fuel) (hk : 0 ≤ t.e.k ∧ t.e.k < 256) (h : ¬ (zct t).2 = 0) : zgy fuel t = some ([], (zct t).2) := by
 unfold zgy
 rw [zhs fuel t hf hk, bindE_some]
 exact zaq (by simpa using h) rfl
theorem zzr : ∀ (a : Int) (l : List En), 0 ≤ a → okL a l → zgw (fun _ => true) l = atL a l - a
 | a, [], _, _ => by simp [zgw, atL]
 | a, e :: l, ha, ⟨h1, h2⟩ => by
  rw [zgw, atL, zzr (max a e.to) l (by omega) h2]
  simp only [if_true]
  rcases h1 with ⟨q1, q2, q3, _⟩ | ⟨q1, q2, q3, q4, q5, q6⟩ <;> omega
theorem z0s (t : Trc) (h : t.l.length * 40 ≤ 140737488355328) : zuq t = some t := zal h rfl
theorem zp5 (t : Trc) (hl : t.l.length ≤ 100) (hb : zcl t.l ≤ 4000) (hk : 0 ≤ t.e.k ∧ t.e.k < 256) : zic 200000 t = some true := by
 have hchk := zhs 200000 t (by omega) hk
 have hrc := zzl 200000 t (by omega) (by decide)
 have htk := z1t 200000 t (by omega) hk
 have hlo := lost_eq 200000 t (by omega) hk
 have hat := at_eq 200000 t (by omega) hk
 have hse := sent_eq 200000 t (by omega) (by decide) (by omega)
 have hrs := zz1 200000 t (by omega) (by omega) (by omega)
 have hle : ∀ a b : Trc, a.l.length ≤ 100 → zea 200000 a b = some (decide (a = b)) := fun a b h => zsf 200000 a b (by omega) (by omega) (by decide)
 obtain ⟨s, hw, hws⟩ : ∃ s, zgy 200000 t = some (s, (zct t).2) ∧ (okT t → s = zve t) ∧ (¬ okT t → s = []) := by
  by_cases h : okT t
  ·have h0 := zgu.2 h
   exact ⟨_, by rw [z07 200000 t (by omega) (by decide) h, h0], fun _ => rfl, fun hn => absurd h hn⟩
  ·exact ⟨[], zyl 200000 t (by omega) hk (fun e => h (zgu.1 e)), fun e => absurd e h, fun _ => rfl⟩
 -- the last part
 have tail : ∀ {β : Type} (K : (Int × Int × Int × List UInt8) → Option Bool), (K = fun j2 => (z1 (zh8 200000 t) (fun x16 => (bif (x16 == j2.1) then (z1 (zmm 200000 t) (fun x17 => (bif (x17 == j2.2.1) then (z1 (z2a 200000 t) (fun x18 => (bif (x18 == j2.2.2.1) then (some (s == j2.2.2.2)) else (some false)))) else (some false)))) else (some false))))) →
  zcr (τ := Int × Int × Int × (List UInt8)) (bif ((zct t).2 == 0) then (z1 (zh0 200000 t 2) (fun x12 => (z1 (zh0 200000 t 3) (fun x13 => (z1 (zrk 200000 t.l) (fun x14 => (z1 (zgg 200000 t) (fun x15 => (some (Sum.inl (x12, x13, x14, x15))))))))))) else (some (Sum.inl (0, 0, 0, ([] : List UInt8))))) K = some true := by
  intro β K hK
  subst hK
  by_cases h : okT t
  ·have h0 := zgu.2 h
   rw [zw5 200000 t 2 h.2.1 (by omega) (by omega), zw5 200000 t 3 h.2.1 (by omega) (by omega), z2f 200000 t.l h.2.1 (by omega) (by omega), zw7 200000 t (by omega) (by decide) h, htk, hlo, hat, h0, hws.1 h]
   simp only [bindE_some, if_true, zzr 0 t.l (by omega) h.2.1, Int.sub_zero, beq_self_eq_true, cond_true, cutE_inl]
  ·have h0 : ¬ (zct t).2 = 0 := fun e => h (zgu.1 e)
   have h1 : ((zct t).2 == 0) = false := beq_eq_false_iff_ne.2 h0
   rw [htk, hlo, hat, hws.2 h, h1]
   simp only [bindE_some, if_neg h0, beq_self_eq_true, cond_true, cond_false, cutE_inl]
 unfold zic
 refine Ok.eq (ze (by omega) (zn fun x hx => ?_))
 subst hx
 have eta : (Trc.mk t.l t.e) = t := rfl
 have eta2 : (Trc.mk t.l (Ed.mk t.e.k t.e.c)) = t := rfl
 simp only [eta, eta2]
 rw [zjw 200000 t (by omega) (by omega), bindE_some, hchk, bindE_some, hrc, bindE_some, hw, bindE_some]
 refine zi (fun h0 => ?_) (fun h0 => ze (by omega) ?_)
 ·rw [z0s t (by omega), bindE_some]
  refine zi (fun h => by simp at h) (fun _ => zi (fun h => by simp at h) (fun _ => zi (fun h => by simp at h) (fun _ => ?_)))
  rw [hle t t hl, bindE_some]
  refine zi (fun h => by simp at h) (fun _ => ?_)
  rw [hse, bindE_some, hrs, bindE_some]
  refine zi (fun h => by simp at h) (fun _ => zaw (fun _ => True) ?_ (fun _ _ => ?_))
  ·have h0 : t.l.length = 0 := by have := eq_of_beq h0; omega
   refine zay (fun (s : Int) => s = 0) (fun s => 0) (fun s hs => ?_) _ _ (by decide) rfl
   exact zi (fun h => by have := of_decide_eq_true h; omega) (fun _ => zd trivial)
  ·rw [bindE_some]
   refine zi (fun h => by simp at h) (fun _ => ok_eq (tail (β := Unit) _ rfl))
 ·refine zi (fun h => by simp at h) (fun _ => zi (fun h => by simp at h) (fun _ => zi (fun h => by simp at h) (fun _ => ze trivial ?_)))
  rw [hle t t hl, bindE_some]
  refine zi (fun h => by simp at h) (fun _ => ?_)
  rw [hse, bindE_some, hrs, bindE_some]
  refine zi (fun h => by simp at h) (fun _ => zaw (fun _ => True) ?_ (fun _ _ => ?_))
  ·refine zay (fun (s : Int × List En) => ∃ i : Nat, s.1 = (i : Int) ∧ i ≤ t.l.length ∧ s.2.length = t.l.length) (fun s => t.l.length - s.1.toNat) (fun s hT => ?_) _ _ (by simp only; omega) ⟨0, rfl, by omega, rfl⟩
   obtain ⟨s1, s2⟩ := s
   obtain ⟨i, g1, g2, g3⟩ := hT
   simp only at g1 g3
   subst g1
   refine zi (fun hc => ?_) (fun _ => zd trivial)
   have hc : i < t.l.length := by have := of_decide_eq_true hc; simp only at this; omega
   exact ze (by simp only; omega) (ze (by simp only; omega) (zn fun x hx => ze (by simp only; omega) (zd ⟨⟨i + 1, by simp, by omega, by simp [g3]⟩, by simp only; omega⟩)))
  ·rw [bindE_some]
   refine zi (fun h => by simp at h) (fun _ => ok_eq (tail (β := Unit) _ rfl))
end Go.Ab
