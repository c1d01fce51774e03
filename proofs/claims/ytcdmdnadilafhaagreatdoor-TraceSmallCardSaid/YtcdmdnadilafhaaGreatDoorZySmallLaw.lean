/-
  The law TraceSmall of the given program returns true, whatever came in, and what came in reads as it did; what the row lists is tied to the program's text. No condition.
-/
import Derived.Test.YtcdmdnadilafhaaGreatDoorZySb
import Derived.Test.YtcdmdnadilafhaaGreatDoorZyTt
import Derived.Test.YtcdmdnadilafhaaGreatDoorZyPq
import Derived.Deep.Slices
import Derived.Deep.Fields
import Derived.ChangeSame
import Derived.Stop.LaidErr
import Derived.Deep.DeepHandedRow
import Derived.Deep.DeepWitnessRowRef
import Derived.ProofKit
import Derived.SizedLaws
import Derived.ChangeMaps
import Derived.Test.YtcdmdnadilafhaaGreatDoorCards
import Derived.Test.YtcdmdnadilafhaaGreatDoorTie
import Derived.SevenTiedAt
set_option linter.unusedSimpArgs false
set_option linter.unusedVariables false
set_option maxRecDepth 20000
namespace Go.Ab
open Go Go.RowKit Go.Fwd Go.Proofs
theorem zky {α : Type} [Enc α] {l : List α} {i : Int} (h : 0 ≤ i ∧ i < l.length) : ix l i ∈ l := by
 unfold ix
 have hi : i.toNat < l.length := by omega
 rw [List.getD_eq_getElem?_getD, List.getElem?_eq_getElem hi]
 exact List.getElem_mem hi
theorem cpy_rep {α : Type} (e z : α) (k n m : Nat) (hm : m ≤ k) (hn : m ≤ n) : cpy (List.replicate k e ++ List.replicate n z) k (List.take m (List.take k (List.replicate k e ++ List.replicate n z))) = List.replicate (k + m) e ++ List.replicate (n - m) z := by
 have h1 : List.take k (List.replicate k e ++ List.replicate n z) = List.replicate k e := List.take_left' (List.length_replicate ..)
 have h2 : List.take m (List.replicate k e) = List.replicate m e := by rw [List.take_replicate, Nat.min_eq_left hm]
 have h3 : List.drop (k + m) (List.replicate k e ++ List.replicate n z) = List.replicate (n - m) z := by
  rw [← List.drop_drop, List.drop_left' (List.length_replicate ..), List.drop_replicate]
 unfold cpy
 rw [h1, h2, List.length_replicate, h3, List.replicate_append_replicate]
theorem zvr (fuel : Nat) (e : En) (N : Nat) (h1 : 1 ≤ N) (hN : N ≤ 100000) (hf : N < fuel) (hm : zr6 (IntKind.u64.wrap ((List.length [e] : Nat) : Int)) (IntKind.u64.wrap (N : Int)) = some (0, (N : Int))) : zf1 fuel [e] (N : Int) = some (List.replicate N e) := by
 unfold zf1
 refine Ok.eq (zi (fun h => ?_) (fun _ => ?_))
 ·have := of_decide_eq_true h; omega
 rw [hm, bindE_some]
 simp only [Int.toNat_natCast]
 refine zi (fun h => by have := of_decide_eq_true h; omega) (fun _ => zi (fun h => by have := of_decide_eq_true h; omega) (fun _ => ze (by omega) (ze (by omega) (ze (by rw [List.length_replicate]; omega) (zaw (fun j => j = List.replicate N e) ?_ (fun j hj => zd hj))))))
 have hmin : Nat.min (List.length [e]) N = 1 := Nat.min_eq_left h1
 rw [hmin]
 refine zay (fun (s : Int × List En) => ∃ k : Nat, s.1 = (k : Int) ∧ 1 ≤ k ∧ k ≤ N ∧ s.2 = List.replicate k e ++ List.replicate (N - k) (En.mk 0 0 0 [])) (fun s => N - s.1.toNat) (fun s hT => ?_) _ _ (by simp only; omega) ⟨1, rfl, Nat.le_refl _, h1, ?_⟩
 ·obtain ⟨s1, s2⟩ := s
  obtain ⟨k, g1, g2, g3, g4⟩ := hT
  simp only at g1 g4
  subst g1
  have hlen : s2.length = N := by rw [g4]; simp; omega
  simp only [Int.toNat_natCast]
  refine ze hlen (zi (fun hc => ?_) (fun hc => zd ?_))
  ·have hc := of_decide_eq_true hc
   have hmk : Nat.min k (N - k) ≤ k := Nat.min_le_left _ _
   have hmn : Nat.min k (N - k) ≤ N - k := Nat.min_le_right _ _
   have hm1 : 1 ≤ Nat.min k (N - k) := Nat.le_min.2 ⟨g2, by omega⟩
   refine ze (by omega) (ze (by omega) (ze (by omega) (ze (by omega) (zd ⟨⟨k + Nat.min k (N - k), by simp, by omega, by omega, ?_⟩, by first | omega | (simp only; omega)⟩))))
   simp only
   rw [g4, cpy_rep _ _ _ _ _ hmk hmn, Nat.sub_sub]
  ·have hc := of_decide_eq_false hc
   have : k = N := by omega
   subst this
   show s2 = _
   rw [g4, Nat.sub_self]; simp
 ·unfold cpy
  simp
theorem zyy (fuel : Nat) (e : En) (hf : 65537 < fuel) : zf1 fuel [e] 65537 = some (List.replicate 65537 e) := by
 have hm : zr6 (IntKind.u64.wrap 1) (IntKind.u64.wrap 65537) = some (0, 65537) := by decide +kernel
 exact zvr fuel e 65537 (by omega) (by omega) hf hm
theorem zth (s : List UInt8) (hs : s.length ≤ 2000) : zfu 200000 s = some true := by
 unfold zfu
 have h1 := read_S 200000 s (by omega) (by omega) (by omega)
 have h2 := rread_S 200000 s (by omega) (by omega) (by omega)
 have h3 := zrg (s.length + 1) 0 1 [] s (by simp)
 rw [h1, bindE_some, h2, bindE_some, zsf _ _ _ (by omega) (by omega) (by decide), bindE_some]
 simp
theorem zns : ∀ (l : List En) (n : Nat), zcl (l.take n) ≤ zcl l
 | [], n => by simp [zcl]
 | e :: l, 0 => by simp [zcl]
 | e :: l, n + 1 => by
  rw [List.take_succ_cons, zcl, zcl]
  have := zns l n
  omega
theorem zxg (a : Int) (h : 0 ≤ a ∧ a = 0) : ∀ n : Nat, okL a (List.replicate n (En.mk 2 0 0 []))
 | 0 => trivial
 | n + 1 => by
  obtain ⟨_, rfl⟩ := h
  rw [List.replicate_succ, okL]
  exact ⟨.inr ⟨.inl rfl, rfl, rfl, by decide, by decide, .inl rfl⟩, zxg 0 ⟨by omega, rfl⟩ n⟩
theorem zxc : ∀ n : Nat, atL 0 (List.replicate n (En.mk 2 0 0 [])) = 0
 | 0 => rfl
 | n + 1 => by rw [List.replicate_succ, atL]; exact zxc n
theorem mod8 (a : Int) (h : 0 ≤ a) : 0 ≤ Int.tmod a 8 ∧ Int.tmod a 8 < 8 := ⟨Int.tmod_nonneg _ h, Int.tmod_lt_of_pos _ (by decide)⟩
theorem div_n (a k : Int) (h : 0 ≤ a ∧ a < 512) (hk : k = 8 ∨ k = 64) : IntKind.i64.wrap (Int.tdiv a k) = a / k ∧ 0 ≤ a / k ∧ (k = 64 → a / k < 8) := by
 rw [Int.tdiv_eq_ediv_of_nonneg h.1]
 rcases hk with rfl | rfl
 ·rw [zf6 (by omega) (by omega)]; omega
 ·rw [zf6 (by omega) (by omega)]; omega
theorem zzg (k : Int) (h : 0 ≤ k ∧ k < 5) : IntKind.u8.wrap (k + 1) = k + 1 := by
 have : k = 0 ∨ k = 1 ∨ k = 2 ∨ k = 3 ∨ k = 4 := by omega
 rcases this with rfl | rfl | rfl | rfl | rfl <;> rfl
theorem zp6 : zfl 200000 = some true := by
 unfold zfl
 obtain ⟨E8, hE8⟩ : ∃ l, l = (zbo : List En) := ⟨_, rfl⟩
 obtain ⟨EN, hEN⟩ : ∃ l, l = (za8 : List Ed) := ⟨_, rfl⟩
 obtain ⟨L, hL⟩ : ∃ l, l = (zw : List (List UInt8)) := ⟨_, rfl⟩
 have e1 : E8.length = 8 := by rw [hE8]; rfl
 have e2 : ∀ e ∈ E8, e.b.length ≤ 2 := by rw [hE8]; decide
 have e3 : EN.length = 8 := by rw [hEN]; rfl
 have e4 : ∀ e ∈ EN, 0 ≤ e.k ∧ e.k < 256 := by rw [hEN]; decide
 have e5 : L.length = 34 := by rw [hL]; rfl
 have e6 : ∀ s ∈ L, s.length ≤ 40 := by rw [hL]; decide
 rw [← hE8, ← hEN, ← hL]
 clear hE8 hEN hL
 refine Ok.eq (zaw (fun _ => True) ?_ (fun _ _ => zaw (fun _ => True) ?_ (fun _ _ => zaw (fun _ => True) ?_ (fun _ _ => ?_))))
 ·refine zay (fun (s : Int × Trc) => ∃ i : Nat, s.1 = (i : Int) ∧ i ≤ 512 ∧ s.2.l.length ≤ 3) (fun s => 512 - s.1.toNat) (fun s hT => ?_) _ _ (by decide) ⟨0, rfl, by omega, by simp⟩
  obtain ⟨s1, last0⟩ := s
  obtain ⟨i, g1, g2, g3⟩ := hT
  simp only at g1 g3
  subst g1
  refine zi (fun hc => ?_) (fun _ => zd trivial)
  have hc : i < 512 := by have := of_decide_eq_true hc; simp only at this; omega
  have m1 := mod8 (i : Int) (by omega)
  obtain ⟨d1, d2, _⟩ := div_n (i : Int) 8 (by omega) (.inl rfl)
  obtain ⟨d3, d4, d5⟩ := div_n (i : Int) 64 (by omega) (.inr rfl)
  have d5 := d5 rfl
  simp only [d1, d3]
  have m2 := mod8 ((i : Int) / 8) d2
  refine zaw (fun (t : Trc) => t.l.length ≤ 3) ?_ (fun t ht => ze (by omega) (zd ⟨⟨i + 1, by simp, by omega, ht⟩, by first | omega | (simp only; omega)⟩))
  refine ze (by omega) (zn fun x1 hx1 => ze (by omega) (zn fun x2 hx2 => ze (by omega) (zn fun x3 hx3 => ?_)))
  have b1 : x1.b.length ≤ 2 := e2 _ (hx1 ▸ zky (by omega))
  have b2 : x2.b.length ≤ 2 := e2 _ (hx2 ▸ zky (by omega))
  have b3 : x3.b.length ≤ 2 := e2 _ (hx3 ▸ zky (by omega))
  have bb : zcl [x1, x2, x3] ≤ 6 := by simp only [zcl]; omega
  have hl3 : ([x1, x2, x3] : List En).length = 3 := rfl
  generalize hX : ([x1, x2, x3] : List En) = X at *
  refine zay (fun (s : Int × Trc) => ∃ n : Nat, s.1 = (n : Int) ∧ n ≤ 4 ∧ s.2.l.length ≤ 3) (fun s => 4 - s.1.toNat) (fun s hT => ?_) _ _ (by simp only; omega) ⟨0, rfl, by omega, g3⟩
  obtain ⟨s1, last⟩ := s
  obtain ⟨n, k1, k2, k3⟩ := hT
  simp only at k1 k3
  subst k1
  refine zi (fun hc => ?_) (fun _ => zd k3)
  have hc : n < 4 := by have := of_decide_eq_true hc; simp only at this; omega
  have m3 := mod8 ((i : Int) + n) (by omega)
  have hsub : sub X 0 (n : Int) = X.take n := by rw [zfn]; rfl
  simp only [hsub]
  have hT : (X.take n).length ≤ 3 := by rw [List.length_take]; omega
  have hTb : zcl (X.take n) ≤ 6 := Nat.le_trans (zns X n) bb
  have m4 : (0 : Int) ≤ 0 := Int.le_refl _
  refine ze (by omega) (ze (by omega) (ze (by omega) (zn fun x4 hx4 => ?_)))
  have c4 := e4 x4 (hx4 ▸ zky (by omega))
  rw [zp5 (Trc.mk (X.take n) x4) (by simp only; omega) (by simp only; omega) c4, bindE_some]
  refine zi (fun h => by simp at h) (fun _ => ?_)
  rw [zqf 200000 _ _ (by simp only; omega) (by omega) (by decide), bindE_some]
  refine zi (fun h => by simp at h) (fun _ => ?_)
  rw [zqf 200000 _ _ (by omega) (by simp only; omega) (by decide), bindE_some]
  refine zi (fun h => by simp at h) (fun _ => ?_)
  rw [zqf 200000 _ _ (by simp only; omega) (by simp only; omega) (by decide), bindE_some]
  refine zi (fun h => by simp at h) (fun _ => ze (by omega) (ze (by omega) (zn fun x9 hx9 => ze (by omega) (zn fun x10 hx10 => ?_))))
  rw [zqf 200000 _ _ (by simp only; omega) (by simp only; omega) (by decide), bindE_some]
  refine zi (fun h => by simp at h) (fun _ => ze (by omega) (ze (by omega) (zn fun x12 hx12 => ze (by omega) (zd ⟨⟨n + 1, by simp, by omega, ?_⟩, by first | omega | (simp only; omega)⟩))))
  simp only
  rw [← hx12]
  exact hT
 ·refine zay (fun (s : Int) => ∃ i : Nat, s = (i : Int) ∧ i ≤ 34) (fun s => 34 - s.toNat) (fun s hT => ?_) _ _ (by decide) ⟨0, rfl, by omega⟩
  obtain ⟨i, rfl, g2⟩ := hT
  refine zi (fun hc => ?_) (fun _ => zd trivial)
  have hc : i < 34 := by have := of_decide_eq_true hc; omega
  refine zaw (fun _ => True) ?_ (fun _ _ => ze (by omega) (zd ⟨⟨i + 1, by simp, by omega⟩, by first | omega | (simp only; omega)⟩))
  refine zay (fun (s : Int) => ∃ i : Nat, s = (i : Int) ∧ i ≤ 34) (fun s => 34 - s.toNat) (fun s hT => ?_) _ _ (by decide) ⟨0, rfl, by omega⟩
  obtain ⟨k, rfl, k2⟩ := hT
  refine zi (fun hc => ?_) (fun _ => zd trivial)
  have hk : k < 34 := by have := of_decide_eq_true hc; omega
  refine zaw (fun _ => True) ?_ (fun _ _ => ze (by omega) (zd ⟨⟨k + 1, by simp, by omega⟩, by first | omega | (simp only; omega)⟩))
  have bi := e6 _ (zky (l := L) (i := (i : Int)) (by omega))
  have bk := e6 _ (zky (l := L) (i := (k : Int)) (by omega))
  have n1 : ([10] : List UInt8).length = 1 := rfl
  have n2 : ([10, 101, 111, 102, 10] : List UInt8).length = 5 := rfl
  refine ze (by omega) (zn fun x13 h13 => ?_)
  subst h13
  refine ze (by omega) (ze (by omega) (zn fun x14 h14 => ?_))
  subst h14
  refine ze (by omega) (ze (by omega) (zn fun x15 h15 => ?_))
  subst h15
  refine ze (by simp only [List.length_append]; omega) (ze (by simp only [List.length_append]; omega) (ze (by omega) (zn fun x16 h16 => ?_)))
  subst h16
  refine ze (by omega) (ze (by omega) (zn fun x17 h17 => ?_))
  subst h17
  refine ze (by simp only [List.length_append]; omega) (ze (by simp only [List.length_append, n2, n1]; omega) (ze (by omega) (zn fun x18 h18 => ?_)))
  subst h18
  refine ze (by omega) (ze (by omega) (zn fun x19 h19 => ?_))
  subst h19
  refine ze (by simp only [List.length_append]; omega) ?_
  generalize hQ : ([_, _, _, _] : List (List UInt8)) = M
  have q1 : M.length = 4 := by rw [← hQ]; rfl
  have q2 : ∀ s ∈ M, s.length ≤ 200 := by
   rw [← hQ]
   intro s hs
   simp only [List.mem_cons, List.not_mem_nil, or_false] at hs
   rcases hs with rfl | rfl | rfl | rfl <;> simp only [List.length_append, n1, n2] <;> omega
  refine zay (fun (s : Int) => ∃ i : Nat, s = (i : Int) ∧ i ≤ 4) (fun s => 4 - s.toNat) (fun s hT => ?_) _ _ (by decide) ⟨0, rfl, by omega⟩
  obtain ⟨j, rfl, j2⟩ := hT
  refine zi (fun hc => ?_) (fun _ => zd trivial)
  have hj : j < 4 := by have := of_decide_eq_true hc; omega
  refine ze (by omega) (zn fun x20 h20 => ?_)
  have b20 := q2 x20 (h20 ▸ zky (by omega))
  rw [zth x20 (by omega), bindE_some]
  exact zi (fun h => by simp at h) (fun _ => ze (by omega) (zd ⟨⟨j + 1, by simp, by omega⟩, by first | omega | (simp only; omega)⟩))
 ·generalize hQ : zbd = M
  have q1 : M.length = 6 := by rw [← hQ]; rfl
  refine zay (fun (s : Int) => ∃ i : Nat, s = (i : Int) ∧ i ≤ 6) (fun s => 6 - s.toNat) (fun s hT => ?_) _ _ (by decide) ⟨0, rfl, by omega⟩
  obtain ⟨i, rfl, g2⟩ := hT
  refine zi (fun hc => ?_) (fun _ => zd trivial)
  have hc : i < 6 := by have := of_decide_eq_true hc; omega
  refine zaw (fun _ => True) ?_ (fun _ _ => ze (by omega) (zd ⟨⟨i + 1, by simp, by omega⟩, by first | omega | (simp only; omega)⟩))
  refine ze (by omega) (zn fun x22 h22 => ?_)
  refine zay (fun (s : Int) => ∃ i : Nat, s = (i : Int) ∧ i ≤ 5) (fun s => 5 - s.toNat) (fun s hT => ?_) _ _ (by decide) ⟨0, rfl, by omega⟩
  obtain ⟨k, rfl, k2⟩ := hT
  refine zi (fun hc => ?_) (fun _ => zd trivial)
  have hk : k < 5 := by have := of_decide_eq_true hc; omega
  refine zaw (fun _ => True) ?_ (fun _ _ => zd ⟨⟨k + 1, by rw [zzg _ (by omega)]; simp, by omega⟩, by rw [zzg _ (by omega)]; first | omega | (simp only; omega)⟩)
  refine ze (by omega) (ze (by omega) ?_)
  generalize hQ2 : ([_, _, _, _] : List (List UInt8)) = N
  have q3 : N.length = 4 := by rw [← hQ2]; rfl
  have q4 : ∀ s ∈ N, s.length ≤ 513 := by
   rw [← hQ2]
   intro s hs
   simp only [List.mem_cons, List.not_mem_nil, or_false] at hs
   rcases hs with rfl | rfl | rfl | rfl
   ·decide
   ·decide
   ·rw [List.length_replicate]; decide
   ·rw [List.length_replicate]; decide
  refine zay (fun (s : Int) => ∃ i : Nat, s = (i : Int) ∧ i ≤ 4) (fun s => 4 - s.toNat) (fun s hT => ?_) _ _ (by decide) ⟨0, rfl, by omega⟩
  obtain ⟨j, rfl, j2⟩ := hT
  refine zi (fun hc => ?_) (fun _ => zd trivial)
  have hj : j < 4 := by have := of_decide_eq_true hc; omega
  refine ze (by omega) (zn fun x23 h23 => ?_)
  have b23 := q4 x23 (h23 ▸ zky (by omega))
  rw [zp5 _ (by simp) (by simp only [zcl]; omega) (by simp only; omega), bindE_some]
  refine zi (fun h => by simp at h) (fun _ => ?_)
  rw [zp5 _ (by simp) (by simp [zcl]) (by simp only; omega), bindE_some]
  exact zi (fun h => by simp at h) (fun _ => ze (by omega) (zd ⟨⟨j + 1, by simp, by omega⟩, by first | omega | (simp only; omega)⟩))
 ·rw [zyy 200000 _ (by decide), bindE_some]
  have hlen : ∀ n : Nat, (List.replicate n (En.mk 2 0 0 [])).length = n := fun n => List.length_replicate ..
  generalize hN : (65537 : Nat) = N
  have hk : ∀ l, (Trc.mk l (Ed.mk 1 0)).e.k = 1 := fun _ => rfl
  rw [zhs 200000 _ (by simp only [hlen]; omega) (by simp only; omega), bindE_some]
  have c1 : (zct (Trc.mk (List.replicate N (En.mk 2 0 0 [])) (Ed.mk 1 0))).2 = 5 := by
   unfold zct
   rw [if_pos (by simp only [hlen]; omega)]
  simp only [c1, hlen]
  have hs : sub (List.replicate N (En.mk 2 0 0 [])) 1 (N : Int) = List.replicate (N - 1) (En.mk 2 0 0 []) := by
   unfold sub
   rw [List.drop_replicate, List.take_replicate]
   congr 1
   simp only [Int.toNat_natCast, Int.toNat_one]
   omega
  simp only [hs]
  have ok : okT (Trc.mk (List.replicate (N - 1) (En.mk 2 0 0 [])) (Ed.mk 1 0)) := ⟨by simp only [hlen]; omega, zxg 0 ⟨by omega, rfl⟩ _, rfl⟩
  have c2 := zgu.2 ok
  refine ze (by omega) ?_
  rw [zhs 200000 _ (by simp only [hlen]; omega) (by simp only; omega), bindE_some]
  simp only [c2]
  refine zi (fun _ => zi (fun _ => ?_) (fun h => by simp at h)) (fun h => by simp at h)
  rw [at_eq 200000 _ (by simp only [hlen]; omega) (by simp only; omega), bindE_some, if_pos c2, zzr 0 _ (by omega) ok.2.1, zxc]
  exact zi (fun _ => zd rfl) (fun h => by simp at h)
end Go.Ab
set_option linter.unusedSimpArgs false
set_option linter.unusedVariables false
namespace Go.Ab
open Go Go.RowKit Go.Fwd Go.Proofs Go.ChangeShapes Go.WideShapes Go.Deep
def zzq (W : World) : Cx := ⟨fun b o => ∃ v, W.cell? ⟨b, o, none⟩ = some v, [], [], [], W, fun _ => False, fun _ _ => False⟩
theorem inv_top (P : Program) (W : World) (hg : gvBase P W) : Inv (ITP P) St.empty (zzq W) where
 lens := rfl
 elems := rfl
 κlen := rfl
 κnd := fun s s' b h => by simp [zzq] at h
 box := fun s b t cs h => by simp [zzq] at h
 κF := fun s b t cs h => by simp [zzq] at h
 βlen := rfl
 βnd := by simp [zzq]
 βκ := fun r h => by simp [zzq] at h
 row := fun s r L h => by simp [zzq] at h
 Ok := fun b h => h.elim
 Fcell := fun b o h => h
 gv := ⟨W, hg, Szs.refl _, fun b o v _ hv => ⟨⟨v, hv⟩, hv⟩⟩
theorem z0d {P : Program} {f : FuncId} {args : List AV} {u : Value} (h : Pure (ITP P) P f args (.raw u)) (W : World) (hg : gvBase P W) {vs : List Value} (hr : za9 (ITP P) (zzq W) args vs) :
 Calls P f vs.toArray W fun e W' => e = .returned u ∧ Below W.heap.size W W' := by
 refine (h.2 (zzq W) vs (inv_top P W hg) hr).mono ?_
 rintro e w' ⟨v, Y, rfl, rfl, hE, hIY, hv⟩
 rw [Rep] at hv; subst hv
 exact ⟨rfl, hE.os, hE.tape, hE.output, hE.size, fun b hb => hE.frame b hb (by simp [zzq]) (by simp [zzq])⟩
section
variable {H : Type} {enc : TypeId × Value → H} {P : Program} {α : Type} [Enc α]
end
end Go.Ab
set_option linter.unusedSimpArgs false
set_option linter.unusedVariables false
namespace Go.Ab
open Go Go.RowKit Go.Fwd Go.Proofs Go.ChangeShapes Go.WideShapes Go.Deep
end Go.Ab
set_option linter.unusedSimpArgs false
set_option linter.unusedVariables false
set_option linter.constructorNameAsVariable false
set_option maxRecDepth 100000
namespace Go.Ab
open Go Go.RowKit Go.Fwd Go.Proofs Go.ChangeShapes Go.WideShapes Go.Deep
section
variable {H : Type} {enc : TypeId × Value → H}
end
end Go.Ab
set_option linter.unusedSimpArgs false
set_option linter.unusedVariables false
set_option maxRecDepth 100000
namespace Go.Ab
open Go Go.RowKit Go.Fwd Go.Proofs Go.Proofs.YtcdmdnadilafhaaGreatDoor
theorem zvb : "*" ++ "errors.errorString" = "*errors.errorString" := by decide
theorem z2o (u : TypeId) (h : Tryz.prog.typeName? 3 u = some "*errors.errorString") : u = 166 :=
 typeName_ptr_named (nm := "errors.errorString") (by rw [zvb]; kernel_rfl) (by kernel_rfl) (by decide) u (by rw [zvb]; exact h)
theorem und73 : ∃ ms, Tryz.prog.underlying 89 = some (.interface ms) := ⟨_, rfl⟩
theorem und149 : ∃ f : Field, Tryz.prog.underlying 168 = some (.struct #[f]) ∧ f.type = 9 ∧ f.offset = 0 := ⟨_, rfl, rfl, rfl⟩
theorem hg0 : Tryz.prog.globalNamed "internal/strconv.uint64pow10" = some 3 := by kernel_rfl
theorem hty3 : (Tryz.prog.globals[3]?).map (·.type) = some 171 := by kernel_rfl
theorem und142 : Tryz.prog.underlying 171 = some (.array 20 113) := by kernel_rfl
theorem gv_of {W : World} (hL : laidMet Tryz.prog Rows.traceReadsRow.laid W) (hS : W.ShapedOpen Tryz.prog) : gvBase Tryz.prog W := by
 have h3 := laidMet.tail (laidMet.tail (laidMet.tail hL))
 obtain ⟨ms, hms⟩ := und73
 obtain ⟨f, hf, hft, hfo⟩ := und149
 refine ⟨fun n g hn hg => ?_, fun g hg => ?_, fun g hg => ?_⟩
 rotate_left
 ·exact Lib.tabIs_of_head (rest := _) (g := 3) hg0 hty3 und142 (by kernel_rfl) (by kernel_rfl) (by kernel_rfl) (by have h := laidMet.tail (laidMet.tail hL); exact h)
 ·have h0 : g = 0 := by
   have h1 : Tryz.prog.globalNamed "internal/bytealg.MaxLen" = some 0 := by kernel_rfl
   rw [h1] at hg; cases hg; rfl
  subst h0
  exact Tryz.laysM145.s1_3 W hS
 rcases hn with rfl | rfl
 ·obtain ⟨a, s, hv, _⟩ := laid_sentinel (laidMet.tail h3) (by kernel_rfl : Tryz.prog.globalNamed "strconv.ErrSyntax" = some 1) (by kernel_rfl : (Tryz.prog.globals[1]?).map (·.type) = some 89) hms z2o (by kernel_rfl : Tryz.prog.underlying 166 = some (.pointer 168)) hf hft hfo und9 (by kernel_rfl) (by kernel_rfl)
  exact ⟨_, _, hv⟩
 ·obtain ⟨a, s, hv, _⟩ := laid_sentinel h3 (by kernel_rfl : Tryz.prog.globalNamed "strconv.ErrRange" = some 2) (by kernel_rfl : (Tryz.prog.globals[2]?).map (·.type) = some 89) hms z2o (by kernel_rfl : Tryz.prog.underlying 166 = some (.pointer 168)) hf hft hfo und9 (by kernel_rfl) (by kernel_rfl)
  exact ⟨_, _, hv⟩
end Go.Ab
set_option linter.unusedSimpArgs false
set_option linter.unusedVariables false
set_option maxRecDepth 100000
namespace Go.Ab
open Go Go.RowKit Go.Fwd Go.Proofs Go.Proofs.YtcdmdnadilafhaaGreatDoor Go.ChangeShapes Go.WideShapes Go.ChangeAt
noncomputable def zzf : DataW Unit → Array Value
 | .agg l => (l.map fun d => match d with | .lit (.int k n) => Value.int k n | _ => undef).toArray
 | _ => #[]
noncomputable def z15 : DataW Unit → ByteArray
 | .iface _ (.ptr (.agg [.lit (.string l)])) => ⟨l.toArray⟩
 | _ => ⟨#[]⟩
noncomputable def low : Nat := (World.holding Tryz.prog default ⟨#[], #[], []⟩).heap.size
noncomputable def gN (n : String) : Nat := (Tryz.prog.globalNamed n).getD 0
noncomputable def znq (os : Os) : World :=
 let w0 := World.holding Tryz.prog os ⟨#[.cells #[.string (z15 Rows.laid_strconv_ErrRange)] 168, .cells #[.string (z15 Rows.laid_strconv_ErrSyntax)] 168], #[], []⟩
 let put (h : Array Obj) (g : Nat) (cs : Array Value) : Array Obj := h.modify g fun
  | .cells _ t frozen => .cells cs t frozen
  | o => o
 let h1 := put w0.heap (gN "math/bits.deBruijn32tab") (zzf Rows.laid_math_bits_deBruijn32tab)
 let h2 := put h1 (gN "math/bits.deBruijn64tab") (zzf Rows.laid_math_bits_deBruijn64tab)
 let h3 := put h2 (gN "internal/strconv.uint64pow10") (zzf Rows.laid_internal_strconv_uint64pow10)
 let h4 := put h3 2 #[.iface 166 (.pointer (some ⟨low, 0, none⟩))]
 let h5 := put h4 1 #[.iface 166 (.pointer (some ⟨low + 1, 0, none⟩))]
 { w0 with heap := h5 }
theorem z0p (os : Os) (args : Array Value) : laidMet Tryz.prog Rows.traceReadsRow.laid ((znq os).forCall (fun _ _ => 0) ⟨#[], args, []⟩).memory :=
 laidMet_of_run (ps := MemPlace.row ⟨gN "math/bits.deBruijn32tab", 0, none⟩ 32 ++ MemPlace.row ⟨gN "math/bits.deBruijn64tab", 0, none⟩ 64 ++ MemPlace.row ⟨gN "internal/strconv.uint64pow10", 0, none⟩ 20 ++ [.cell 2 0, .cell low 0, .cell 1 0, .cell (low + 1) 0]) 8 (by kernel_rfl) (by kernel_rfl) (by kernel_rfl)
end Go.Ab
set_option linter.unusedSimpArgs false
set_option linter.unusedVariables false
set_option maxRecDepth 100000
namespace Go.Proofs.YtcdmdnadilafhaaGreatDoor
open Go Go.Ab Go.ChangeShapes Go.WideShapes Go.ChangeAt Go.RowKit Go.Fwd
theorem zjd {H : Type} {enc : TypeId × Value → H} {P : Program} (hl : laidOutB P = true) {W W' : World} (hb : Below W.heap.size W W') : ∀ {ts : List TypeId} {vs : List Value} {ds : List (DataW H)} {ps : List MemPlace},
 (ts.all fun t => P.readableRec t && decide (t < P.types.size)) = true → DataW.TrodAll enc P W 0 (fun _ => true) true ts vs ds ps → (∀ x ∈ ps, x.block < W.heap.size) → DataW.TrodAll enc P W' 0 (fun b => decide (b < W.heap.size)) true ts vs ds ps
 | [], vs, ds, ps, _, h, _ => by
  cases vs with
  | nil =>
   cases ds with
   | nil => exact h
   | cons => exact h.elim
  | cons => exact h.elim
 | t :: ts, vs, ds, ps, ht, h, hlt => by
  obtain ⟨v, vs', d, ds', p, q, rfl, rfl, rfl, hd, hr⟩ := trodAll_cons h
  simp only [List.all_cons, Bool.and_eq_true, decide_eq_true_eq] at ht
  exact ⟨p, q, Below.trod hl ht.1.1 ht.1.2 hd hb fun x hx => hlt x (by simp [hx]), zjd hl hb ht.2 hr fun x hx => hlt x (by simp [hx]), rfl⟩
theorem own' : ownKnob Tryz.prog.godebug = none := by kernel_rfl
theorem z0x : laidOutB Tryz.prog = true := by kernel_rfl
end Go.Proofs.YtcdmdnadilafhaaGreatDoor
set_option linter.unusedSimpArgs false
set_option linter.unusedVariables false
set_option maxRecDepth 100000
namespace Go.Proofs.YtcdmdnadilafhaaGreatDoor
open Go Go.Ab Go.ChangeShapes Go.WideShapes Go.ChangeAt Go.RowKit Go.Fwd
theorem witness_traceSmall (os : Os) {H : Type} (enc : TypeId × Value → H) :
 (OpenSpec.ofChange Rows.traceSmallSpec).preRow enc Tryz.prog Tryz.f5 Rows.traceSmallRow.domain false Rows.traceSmallRow.laid ((znq os).forCall (fun _ _ => 0) ⟨#[], #[], []⟩).memory #[] :=
 OpenSpec.preRow_of_B rfl 8 (by kernel_rfl) (by kernel_rfl) (z0p os _)
theorem traceSmall_lifted (os : Os) (started : os.Started) (H : Type) (enc : TypeId × Value → H) (F : Stop.Interp) :
 ReturnsInHanded {} Tryz.checked os 5 .any ((OpenSpec.ofChange Rows.traceSmallSpec).preRow enc Tryz.prog Tryz.f5 Rows.traceSmallRow.domain false Rows.traceSmallRow.laid) (((OpenSpec.ofChange Rows.traceSmallSpec).at F).post enc Tryz.prog Tryz.f5 false true false false) := by
 refine returnsInHanded_of_row (C := Tryz.checked) (s := OpenSpec.ofChange Rows.traceSmallSpec) own' started (by kernel_rfl) Tryz.func5
  (witness_row_atRef (enc := enc) (C := Tryz.checked) false (znq os) #[] rfl (by kernel_rfl) (by kernel_rfl) (by kernel_rfl) (witness_traceSmall os enc)) ?_
 intro W base args ds gs before hval0 hW hcnd0 _ hsz0 hL hS _
 have hval : ∀ (j : Nat) t v, Tryz.f5.params[j]? = some t → args[j]? = some v → Value.okWide Tryz.prog W .any base t v := hval0
 have hW' := hW
 obtain ⟨p, q, hA0, hV, rfl, _, _⟩ := hW
 have hA : DataW.TrodAll enc Tryz.prog W 0 (fun _ => true) true Tryz.f5.params.toList args.toList ds p := hA0
 rw [show Tryz.f5.params.toList = [] from by kernel_rfl] at hA
 have hA1 := hA
 obtain ⟨h0, rfl, rfl⟩ := trodAll_nil hA
 obtain rfl : args = #[] := by cases args; simp_all
 obtain ⟨rfl, rfl⟩ := trodVars_none hV
 clear hA0 hval0
 simp only [List.append_nil, List.nil_append] at hW' hA1
 have hlt := hW'.lt
 refine (z0d (zqe 200000 true zp6) W (gv_of hL hS) (vs := []) rfl).mono fun e W' ⟨he, hw⟩ => ?_
 subst he
 refine ⟨_, rfl, ?_⟩
 refine ⟨_, _, _, [] ++ [], [], [], hW', ?_, ?_, rfl, hw.frame _, fun h => by cases h⟩
 ·exact trodAll_mk1 (shut_bool (show Tryz.prog.underlying 4 = some .bool from by kernel_rfl) true)
 ·exact zjd z0x hw (by kernel_rfl) hA1 hlt
theorem traceSmall_holds : Rows.TraceSmallSaid :=
 OpenClaim.holds_of_cond 5 Tryz.f5 rfl rfl rfl rfl rfl rfl rfl ⟨rfl, rfl, rfl, rfl, rfl⟩ rfl rfl rfl rfl rfl (by kernel_rfl) Tryz.func5 (by kernel_rfl)
  (of_decide_eq_true (by kernel_rfl)) (by unfold Func.isWrapper; rw [if_neg (of_decide_eq_false (by kernel_rfl))]; exact ⟨rfl, rfl⟩)
  (fun os started H enc _ F0 => by rw [OpenClaim.pre_eq_preRow]; exact traceSmall_lifted os started H enc F0)
theorem traceSmall_card : Rows.TraceSmallCardSaid :=
 Claim7.holds_tied_plain_at .later [] [.data, .data, .data, .sentinel, .sentinel] true (true, "09a7a2e189519c1c10b76128013ef82c656e5a431cec99457419d365fd06d6a8") true
  traceSmall_holds (fun _ h => by cases h) (by kernel_rfl) (fun _ h => by cases h) traceSmall_row_tie rfl ⟨rfl, rfl⟩ (by kernel_rfl) rfl
  (fun f fn hf hfn => by
   obtain rfl : f = 5 := Option.some.inj ((show Tryz.prog.funcNamed "repartee/reparteelaw33.TraceSmall" = some 5 by kernel_rfl).symm.trans hf) |>.symm
   obtain rfl : fn = Tryz.f5 := (Option.some.inj (Tryz.func5.symm.trans hfn)).symm
   exact ⟨by kernel_rfl, fun j t ht => by rw [show Tryz.f5.params = #[] from by kernel_rfl] at ht; simp at ht⟩)
  (by kernel_rfl)
#print axioms traceSmall_card
end Go.Proofs.YtcdmdnadilafhaaGreatDoor
