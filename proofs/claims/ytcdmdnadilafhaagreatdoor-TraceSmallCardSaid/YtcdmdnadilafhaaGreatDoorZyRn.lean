/-
  reparteeref33: numbers in decimal digits: plain, and the contract of decimal.
-/
import Derived.Test.YtcdmdnadilafhaaGreatDoorZyPz
import Derived.Test.YtcdmdnadilafhaaGreatDoorZyRw
set_option linter.unusedSimpArgs false
set_option linter.unusedVariables false
namespace Go.Ab
open Go Go.RowKit Go.Fwd Go.Proofs
theorem ends_ok (fuel : Nat) (t : List UInt8) (hf : 6 < fuel) (hl : t.length ≤ 1000000000) : Ok (fun r => r.2 = true → zhy r.1 = t ∧ zb4 r.1 = true ∧ 1 ≤ r.1.k ∧ r.1.k ≤ 5) (zli fuel t) := by
 unfold zli
 refine ze (by omega) (zn fun x hx => ?_)
 have hcl := zqt 32 t
 rw [hx] at hcl
 refine zaw (fun _ => True) ?_ (fun _ _ => zd (fun h => by cases h))
 refine zay (fun (s : Int) => 1 ≤ s ∧ s ≤ 6) (fun s => (6 - s).toNat) (fun s hT => ?_) _ _ (by simp; omega) (by decide)
 refine zi (fun hc => ?_) (fun _ => zd trivial)
 have hc := of_decide_eq_true hc
 refine ze (by omega) (zn fun n hn => zi (fun h => ?_) (fun _ => zd ?_))
 ·have ha := zlu x.2.1
  refine ze (by omega) (zn fun v hv => ?_)
  rw [hv] at ha
  rw [zqu ⟨s, v⟩ (by simp only; omega), bindE_some]
  refine zi (fun he => ?_) (fun _ => zd (fun h => by cases h))
  rw [zte ⟨s, v⟩ (by simp only; omega) ha, bindE_some]
  exact zd (fun h => ⟨eq_of_beq h, he, by simp only; omega, by simp only; omega⟩)
 ·rw [zia (by omega) (by omega)]
  exact ⟨by omega, by omega⟩
theorem zzk (fuel : Nat) (t w : List UInt8) (e : Ed) (hf : 6 < fuel) (hl : t.length ≤ 1000000000) (hk : 1 ≤ e.k ∧ e.k ≤ 5) (hw : (Lib.cut t [32]).1 = zfr e.k) (hv : zmv (Lib.cut t [32]).2.1 = e.c) (he : zb4 e = true) (ht : zhy e = t) : zli fuel t = some (e, true) := by
 unfold zli
 refine Ok.eq (ze (by omega) (zn fun x hx => ?_))
 have hcl := zqt 32 t
 rw [hx] at hcl hw hv
 have hb := zlu x.2.1
 refine zaw (fun _ => False) ?_ (fun _ h => h.elim)
 refine zay (fun (s : Int) => 1 ≤ s ∧ s ≤ e.k) (fun s => (6 - s).toNat) (fun s hT => ?_) _ _ (by simp; omega) ⟨by decide, hk.1⟩
 refine zi (fun hc => ?_) (fun h => ?_)
 ·refine ze (by omega) (zn fun n hn => zi (fun h => ?_) (fun h => zd ?_))
  ·have h1 : s = e.k := zru (by omega) hk (by rw [hn, eq_of_beq h, hw])
   refine ze (by omega) (zn fun v hv' => ?_)
   have h2 : (Ed.mk s v) = e := by rw [h1, ← hv', hv]
   rw [h2, zqu e (by omega), bindE_some, he]
   refine zi (fun _ => ?_) (fun h => by cases h)
   rw [zte e (by omega) (by rw [← hv]; exact hb), bindE_some, ht]
   exact zd (by simp)
  ·have h1 : ¬ s = e.k := fun e' => by rw [← hn, hw, e'] at h; simp at h
   rw [zia (by omega) (by omega)]
   exact ⟨by omega, by omega⟩
 ·have := of_decide_eq_false h; omega
theorem zjq {e : Ed} (h : zb4 e = true) : 1 ≤ e.k ∧ e.k ≤ 5 ∧ ((e.k = 2 ∧ 0 ≤ e.c ∧ e.c ≤ 255) ∨ (e.k ≠ 2 ∧ e.c = 0)) := by
 unfold zb4 at h
 split at h
 ·rename_i hk; have := of_decide_eq_true h; exact ⟨by omega, by omega, .inl ⟨hk, this.1, this.2⟩⟩
 ·rename_i hk; have := of_decide_eq_true h; exact ⟨this.1, this.2.1, .inr ⟨hk, this.2.2⟩⟩
theorem zl8 {e : Ed} (h : zb4 e = true) : (zhy e).length ≤ 26 := by
 obtain ⟨h1, h2, h3⟩ := zjq h
 unfold zhy
 split
 ·have := Lib.itoa_length_le e.c (by omega) (by omega)
  simp; omega
 ·have : e.k = 1 ∨ e.k = 2 ∨ e.k = 3 ∨ e.k = 4 ∨ e.k = 5 := by omega
  rcases this with h | h | h | h | h <;> rw [h] <;> decide
theorem zpl (fuel : Nat) (e : Ed) (hf : 6 < fuel) (h : zb4 e = true) : zli fuel (zhy e) = some (e, true) := by
 have hl := zl8 h
 obtain ⟨h1, h2, h3⟩ := zjq h
 by_cases hk : e.k = 2
 ·obtain ⟨_, c1, c2⟩ : e.k = 2 ∧ 0 ≤ e.c ∧ e.c ≤ 255 := by omega
  have he : zhy e = [101, 120, 105, 116] ++ 32 :: Lib.itoa e.c := by unfold zhy; rw [if_pos hk]; rfl
  have hc := zkx (c := 32) (a := [101, 120, 105, 116]) (r := Lib.itoa e.c) (by decide)
  rw [← he] at hc
  exact zzk fuel _ [] e hf (by omega) ⟨h1, h2⟩ (by rw [hc, hk]; rfl) (by rw [hc]; exact zrs (by omega)) h rfl
 ·have he : zhy e = zfr e.k := by unfold zhy; rw [if_neg hk]
  have hc := zul (c := 32) (l := zfr e.k) (zus e.k ⟨h1, h2⟩).2
  have c0 : e.c = 0 := by omega
  exact zzk fuel _ [] e hf (by omega) ⟨h1, h2⟩ (by rw [he, hc]) (by rw [he, hc, c0]; rfl) h rfl
theorem zz6 (e : En) : Lib.cut (zdo e) [32] = ((zbe e.k).w, (if e.k = 1 then zcu e.b else Lib.itoa e.fr ++ 32 :: Lib.itoa e.to), true) := zkx (kind_no e.k).2
theorem z1q (fuel : Nat) (t : List UInt8) (hf : 6 < fuel) (hft : t.length < fuel) (hl : t.length ≤ 1000000000) : Ok (fun r => r.2 = true → zdo r.1 = t ∧ 1 ≤ r.1.k ∧ r.1.k ≤ 3) (zio fuel t) := by
 unfold zio
 refine ze (by omega) (zn fun x hx => ?_)
 have hcl := zqt 32 t
 rw [hx] at hcl
 refine zaw (fun j => 0 ≤ j.k ∧ j.k ≤ 3 ∧ j.fr = 0 ∧ j.to = 0 ∧ j.b = []) ?_ (fun j hj => ?_)
 ·refine zay (fun (s : Int × En) => (1 ≤ s.1 ∧ s.1 ≤ 4) ∧ 0 ≤ s.2.k ∧ s.2.k ≤ 3 ∧ s.2.fr = 0 ∧ s.2.to = 0 ∧ s.2.b = []) (fun s => (4 - s.1).toNat) (fun s hT => ?_) _ _ (by simp; omega) (by decide)
  obtain ⟨s, j⟩ := s
  obtain ⟨h1, h2⟩ := hT
  simp only at h1 h2
  refine zi (fun hc => ?_) (fun _ => zd h2)
  have hc := of_decide_eq_true hc
  simp only at hc
  refine zaw (fun j => 0 ≤ j.k ∧ j.k ≤ 3 ∧ j.fr = 0 ∧ j.to = 0 ∧ j.b = []) ?_ (fun j' hj => zd ?_)
  ·refine ze ⟨h1.1, hc⟩ (zi (fun _ => zd ⟨by simp only; omega, by simp only; omega, h2.2.2⟩) (fun _ => zd h2))
  ·have hw : IntKind.u8.wrap (s + 1) = s + 1 := zia (by omega) (by omega)
   simp only [hw]
   exact ⟨⟨⟨by omega, by omega⟩, hj⟩, by omega⟩
 ·obtain ⟨k0, k3, f0, t0, b0⟩ := hj
  refine zi (fun _ => zd (fun h => by cases h)) (fun hk => ?_)
  have hk0 : ¬ j.k = 0 := by simpa using hk
  refine zi (fun h1 => ?_) (fun h1 => ?_)
  ·have h1 : j.k = 1 := eq_of_beq h1
   refine zjp (zv2 fuel x.2.1 (by omega) (by omega)) (fun u hu => zi (fun _ => ?_) (fun _ => zd (fun h => by cases h)))
   rw [zqv fuel ⟨j.k, j.fr, j.to, u.1⟩ (by simp only; omega) (by simp only; omega) (by simp only; omega) (by simp only; omega) (by simp only; omega), bindE_some]
   exact zd (fun h => ⟨eq_of_beq h, by simp only; omega, k3⟩)
  ·have hcl2 := zqt 32 x.2.1
   refine ze (by omega) (zn fun y hy => ?_)
   rw [hy] at hcl2
   have a1 := zlu y.1
   have a2 := zlu y.2.1
   refine ze (by omega) (zn fun v hv => ze (by omega) (zn fun w hw => ?_))
   rw [hv] at a1
   rw [hw] at a2
   rw [zqv fuel _ (by simp only; omega) (by simp only [b0, List.length_nil]; omega) (by simp only [b0, List.length_nil]; omega) a1 a2, bindE_some]
   exact zd (fun h => ⟨eq_of_beq h, by simp only; omega, k3⟩)
theorem zig {e : En} {a : Int} (ha : 0 ≤ a) (h : zbt e a) : (1 ≤ e.k ∧ e.k ≤ 3) ∧ (0 ≤ e.fr ∧ e.fr ≤ 1073741824) ∧ (0 ≤ e.to ∧ e.to ≤ 1073741824) ∧ e.b.length ≤ 512 ∧ (e.k = 1 → e.fr = 0 ∧ e.to = 0) ∧ (e.k ≠ 1 → e.b = []) := by
 rcases h with ⟨h1, h2, h3, h4⟩ | ⟨h1, h2, h3, h4, h5, h6⟩
 ·exact ⟨by omega, by omega, by omega, h4, fun _ => ⟨h2, h3⟩, fun h => absurd h1 h⟩
 ·exact ⟨by omega, by omega, by omega, by rw [h3]; simp, fun h => by omega, fun _ => h3⟩
theorem ziw {e : En} {a : Int} (ha : 0 ≤ a) (h : zbt e a) : (zdo e).length ≤ 2100 := by
 obtain ⟨h1, h2, h3, h4, h5, h6⟩ := zig ha h
 have l1 := Lib.itoa_length_le e.fr (by omega) (by omega)
 have l2 := Lib.itoa_length_le e.to (by omega) (by omega)
 have hw := z2m e.k
 have hfl := zfj e.b
 have hq : (zcu e.b).length = (e.b.flatMap byteP).length + 2 := by simp [zcu]
 unfold zdo
 split
 ·simp only [List.length_append, List.length_cons]; omega
 ·simp only [List.length_append, List.length_cons]; omega
theorem zkq (fuel : Nat) (e : En) (a : Int) (ha : 0 ≤ a) (h : zbt e a) (hf : 2200 < fuel) : zio fuel (zdo e) = some (e, true) := by
 obtain ⟨h1, h2, h3, h4, h5, h6⟩ := zig ha h
 have hl := ziw ha h
 have l1 := Lib.itoa_length_le e.fr (by omega) (by omega)
 have l2 := Lib.itoa_length_le e.to (by omega) (by omega)
 have hline := zqv fuel e h1 (by omega) (by omega) (by omega) (by omega)
 unfold zio
 refine Ok.eq (ze (by omega) (zn fun x hx => ?_))
 rw [zz6] at hx
 subst hx
 refine zaw (fun j => j = ⟨e.k, 0, 0, []⟩) ?_ (fun j hj => ?_)
 ·refine zay (fun (s : Int × En) => (1 ≤ s.1 ∧ s.1 ≤ 4) ∧ s.2 = ⟨if e.k < s.1 then e.k else 0, 0, 0, []⟩) (fun s => (4 - s.1).toNat) (fun s hT => ?_) _ _ (by simp; omega) ⟨by decide, by rw [if_neg (by simp only; omega)]⟩
  obtain ⟨s, j⟩ := s
  obtain ⟨g1, g2⟩ := hT
  simp only at g1
  have g2' : j = (⟨if e.k < s then e.k else 0, 0, 0, []⟩ : En) := g2
  clear g2
  subst g2'
  refine zi (fun hc => ?_) (fun hc => zd ?_)
  ·have hc := of_decide_eq_true hc
   simp only at hc
   have hw : IntKind.u8.wrap (s + 1) = s + 1 := zia (by omega) (by omega)
   refine zaw (fun j => j = ⟨if e.k < s + 1 then e.k else 0, 0, 0, []⟩) ?_ (fun j' hj => zd ?_)
   ·refine ze ⟨g1.1, hc⟩ (zi (fun hb => zd ?_) (fun hb => zd ?_))
    ·have : s = e.k := zz5 ⟨g1.1, hc⟩ h1 (eq_of_beq hb)
     subst this
     simp only
     rw [if_pos (by omega)]
    ·have : ¬ s = e.k := fun e' => by simp [e'] at hb
     by_cases hlt : e.k < s
     ·show (_ : En) = _
      rw [if_pos hlt, if_pos (by omega)]
     ·show (_ : En) = _
      rw [if_neg hlt, if_neg (by omega)]
   ·simp only [hw]
    exact ⟨⟨⟨by omega, by omega⟩, hj⟩, by omega⟩
  ·have hc := of_decide_eq_false hc
   simp only at hc
   show (_ : En) = _
   rw [if_pos (by omega)]
 ·subst hj
  simp only
  refine zi (fun hk => ?_) (fun _ => ?_)
  ·have := eq_of_beq hk; omega
  ·by_cases k1 : e.k = 1
   ·obtain ⟨f0, t0⟩ := h5 k1
    refine zi (fun _ => ?_) (fun hk => by simp [k1] at hk)
    rw [if_pos k1, zpg fuel e.b (by omega) (by omega), bindE_some]
    have he : (⟨e.k, 0, 0, e.b⟩ : En) = e := by
     cases e
     simp only at f0 t0
     rw [f0, t0]
    refine zi (fun _ => ?_) (fun hk => by simp at hk)
    simp only
    rw [he, hline, bindE_some]
    exact zd (by simp)
   ·have b0 := h6 k1
    refine zi (fun hk => absurd (eq_of_beq hk) k1) (fun _ => ?_)
    rw [if_neg k1]
    have hno := itoa_no h2.1 32 (by decide)
    have hc := zkx (c := 32) (a := Lib.itoa e.fr) (r := Lib.itoa e.to) hno
    refine ze (by simp only [List.length_append, List.length_cons]; omega) (zn fun y hy => ?_)
    rw [hc] at hy
    subst hy
    refine ze (by simp only; omega) (zn fun v hv => ze (by simp only; omega) (zn fun w hw => ?_))
    simp only at hv hw
    rw [zrs (by omega)] at hv hw
    subst hv hw
    have he : (⟨e.k, e.fr, e.to, []⟩ : En) = e := by rw [← b0]
    rw [he, hline, bindE_some]
    exact zd (by simp)
end Go.Ab
set_option linter.unusedSimpArgs false
set_option linter.unusedVariables false
namespace Go.Ab
open Go Go.RowKit Go.Fwd Go.Proofs
def okT (t : Trc) : Prop := t.l.length ≤ 65536 ∧ okL 0 t.l ∧ zb4 t.e = true
theorem zzj {t : Trc} (h : okT t) : zct t = (-1, 0) := by
 have h2 := zm4.2 h
 unfold zct at h2 ⊢
 repeat' split at h2
 all_goals first | (simp at h2; done) | skip
 rename_i a b c
 rw [if_neg a, if_neg b, if_pos c]
theorem zhd : ∀ (a : Int) (l : List En), 0 ≤ a → okL a l → (zec l).length ≤ 2101 * l.length
 | _, [], _, _ => by simp [zec]
 | a, e :: l, ha, ⟨h1, h2⟩ => by
  have := zhd (max a e.to) l (by omega) h2
  have h3 := ziw ha h1
  unfold zec at this ⊢
  simp only [List.flatMap_cons, List.length_append, List.length_cons, List.length_nil]
  omega
theorem zr7 (l m : List En) : zec (l ++ m) = zec l ++ zec m := List.flatMap_append
theorem zdz {α : Type} [Enc α] (l : List α) {i : Nat} (h : i < l.length) : l.take (i + 1) = l.take i ++ [ix l (i : Int)] := by
 rw [List.take_succ_eq_append_getElem h]; simp [ix, h]
theorem zom {α : Type} [Enc α] (l : List α) {i : Nat} (h : i < l.length) : l.drop i = ix l (i : Int) :: l.drop (i + 1) := by
 rw [List.drop_eq_getElem_cons h]; simp [ix, h]
theorem ixD (l : List En) (i : Nat) : ix l (i : Int) = l.getD i Enc.inh := by simp [ix]
theorem z07 (fuel : Nat) (t : Trc) (hf : t.l.length < fuel) (hf2 : 2200 < fuel) (h : okT t) : zgy fuel t = some (zve t, 0) := by
 obtain ⟨h1, h2, h3⟩ := h
 obtain ⟨e1, e2, e3⟩ := zjq h3
 have hel := zl8 h3
 unfold zgy
 rw [zhs fuel t hf (by omega), bindE_some, zzj ⟨h1, h2, h3⟩]
 refine Ok.eq (zi (fun h => by simp at h) (fun _ => ?_))
 refine zaw (fun j => j.2 = zec t.l) ?_ (fun j hj => ?_)
 ·refine zay (fun (s : Int × Bool × List UInt8) => ∃ i : Nat, s.1 = (i : Int) ∧ i ≤ t.l.length ∧ s.2.2 = zec (t.l.take i)) (fun s => t.l.length - s.1.toNat) (fun s hT => ?_) _ _ (by simp; omega) ⟨0, rfl, by omega, by simp [zec]⟩
  obtain ⟨s1, s2, s3⟩ := s
  obtain ⟨i, g1, g2, g3⟩ := hT
  simp only at g1 g3
  subst g1 g3
  refine zi (fun hc => ?_) (fun hc => zd ?_)
  ·have hc : i < t.l.length := by have := of_decide_eq_true hc; simp only at this; omega
   have hr := zrd h2 hc
   rw [← ixD] at hr
   have ha := zg7 0 (t.l.take i)
   obtain ⟨k1, k2, k3, k4, k5, k6⟩ := zig ha hr
   have hll := ziw ha hr
   have htl := zhd 0 (t.l.take i) (by omega) (zl9 h2 i)
   have htk : (t.l.take i).length ≤ 65536 := by simp; omega
   refine ze (by simp only; omega) (zn fun e he => ?_)
   simp only at he
   rw [he] at hr hll k1 k2 k3 k4
   rw [zqv fuel e k1 (by omega) (by omega) (by omega) (by omega), bindE_some]
   refine ze (by simp only [List.length_cons, List.length_nil]; omega) (ze (by simp only [List.length_append, List.length_cons, List.length_nil]; omega) (ze (by simp only; omega) (zd ⟨⟨i + 1, by simp, by omega, ?_⟩, ?_⟩)))
   ·simp only
    rw [zdz _ hc, zr7, he]
    simp [zec]
   ·simp only; omega
  ·have hc : i = t.l.length := by have := of_decide_eq_false hc; simp only at this; omega
   show zec (t.l.take i) = _
   rw [hc, List.take_length]
 ·have htl := zhd 0 t.l (by omega) h2
  rw [zte t.e (by omega) (by omega), bindE_some]
  refine ze (by simp only [List.length_cons, List.length_nil]; omega) (ze (by rw [hj]; simp only [List.length_append, List.length_cons, List.length_nil]; omega) (zd ?_))
  rw [hj]; rfl
end Go.Ab
set_option linter.unusedSimpArgs false
set_option linter.unusedVariables false
namespace Go.Ab
open Go Go.RowKit Go.Fwd Go.Proofs
theorem dg_at {d : Int} (h : 0 ≤ d ∧ d < 10) : sub ([48, 49, 50, 51, 52, 53, 54, 55, 56, 57] : List UInt8) d (d + 1) = [UInt8.ofNat (48 + d.toNat)] := by
 have : d = 0 ∨ d = 1 ∨ d = 2 ∨ d = 3 ∨ d = 4 ∨ d = 5 ∨ d = 6 ∨ d = 7 ∨ d = 8 ∨ d = 9 := by omega
 rcases this with rfl | rfl | rfl | rfl | rfl | rfl | rfl | rfl | rfl | rfl <;> rfl
theorem dec_eq (m n : Int) (h : 0 ≤ n ∧ n < 9223372036854775808) (hm : n ≤ m) : z0o m n = some (Lib.itoa n) := by
 unfold z0o
 refine zt4 (fun hc => ?_) (fun hc => ?_)
 ·have hc : n < 10 := of_decide_eq_true hc
  refine zal (by omega) (zal (by simp; omega) (za1 ?_))
  rw [dg_at ⟨h.1, hc⟩, zgb h.1, Lib.decDigits_one (by omega)]
 ·have hc : ¬ n < 10 := of_decide_eq_false hc
  have ht : Int.tdiv n 10 = n / 10 := Int.tdiv_eq_ediv_of_nonneg h.1
  have hr : Int.tmod n 10 = n % 10 := Int.tmod_eq_emod_of_nonneg h.1
  have hw : IntKind.i64.wrap (n / 10) = n / 10 := zf6 (by omega) (by omega)
  have l1 := Lib.itoa_length_le (n / 10) (by omega) (by omega)
  rw [ht, hr, hw]
  refine zal (by omega) (za1 (zal (by omega) (zal (by simp; omega) (za1 ?_))))
  rw [dg_at (by omega)]
  refine zal (by simp; omega) ?_
  rw [zgb h.1, zgb (show 0 ≤ n / 10 by omega)]
  conv => rhs; rw [Lib.decDigits]
  rw [dif_neg (by omega), show (n / 10).toNat = n.toNat / 10 by omega, show (n % 10).toNat = n.toNat % 10 by omega]
theorem zx1 (k : Nat) : (k : Int) ≤ 9223372036854775808 → ∀ x : Int, 0 ≤ x ∧ x < (k : Int) → Pure (ITP Tryz.prog) Tryz.prog 80 [.raw (.int .i64 x)] (.raw (.string (bs (Lib.itoa x)))) := by
 induction k with
 | zero => intro _ x h; omega
 | succ k ih =>
  intro hk x h
  exact dec_sh (k : Int) x (Lib.itoa x) (fun y hy => ih (by omega) y hy) (dec_eq (k : Int) x (by omega) (by omega))
theorem zi1 (x : Int) (h : 0 ≤ x ∧ x < 9223372036854775808) : Pure (ITP Tryz.prog) Tryz.prog 80 [.raw (.int .i64 x)] (.raw (.string (bs (Lib.itoa x)))) := zx1 (x.toNat + 1) (by omega) x (by omega)
end Go.Ab
