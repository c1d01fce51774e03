/-
  DeriveArcs: its walk.
-/
import Derived.Test.YtfkkellnlmjenaaGreatZeWe
import Derived.Test.YtfkkellnlmjenaaGreatZeAw
set_option linter.unusedSimpArgs false
set_option linter.unusedVariables false
namespace Go.Ab
open Go Go.RowKit Go.Fwd Go.Proofs
theorem z9q {fuel : Nat} (k : Nat) (a b : Tr) (hk : k = 3 ∨ k = 4) (hf : 2 < fuel) (h : (pre a).length ≤ 2 ^ 30 ∧ (pre b).length ≤ 2 ^ 30) : zid fuel (k : Int) a b = some (zfn k a b) := by
 have la := zlg a; have lb := zlg b
 have l1 := zao a.l; have l2 := zao b.l
 have hlen : ∀ i, (zbs k ([a, b].take i)).length ≤ 2 ^ 31 := fun i => by
  have := zux k [a, b] i
  simp only [zan, List.length_append, List.length_nil] at this; omega
 unfold zid zfn
 refine zbn (zbs k [a, b]) ?_ ?_
 ·refine zdm 2 (fun i => (zbs k ([a, b].take i), (i : Int))) (by simp [zbs]) (fun i hi => ?_) ?_ hf
  ·have hi2 : i < [a, b].length := hi
   refine zbk (by simp only [List.length_cons, List.length_nil]; simp; omega) ?_
   refine zbn (zbs k ([a, b].take (i + 1))) ?_ (zm (by simp only; omega) (by simp))
   have hs := hlen i
   rw [qbu k [a, b] i hi2]
   refine zm (by simp only [List.length_cons, List.length_nil]; omega) (zad fun x1 e1 => ?_)
   simp only at e1
   rw [zdh hi2] at e1
   subst e1
   have hx : (pre [a, b][i]).length ≤ 2 ^ 30 := by
    have : [a, b][i] ∈ [a, b] := List.getElem_mem hi2
    simp only [List.mem_cons, List.not_mem_nil, or_false] at this
    rcases this with e | e <;> rw [e] <;> omega
   have hxl := zlg [a, b][i]; have hxl2 := zao [a, b][i].l
   cases h1 : ([a, b][i].k : Int) == k with
   | true => exact zbk rfl (zm (by simp only; omega) rfl)
   | false =>
    refine zas rfl ?_
    rcases hk with rfl | rfl
    ·refine zbk rfl ?_
     cases h2 : ([a, b][i].k : Int) == 1 with
     | true => exact zbk rfl (by simp [h2])
     | false => exact zas rfl (zm (by simp only [List.length_cons, List.length_nil]; omega) (by simp [h2]))
    ·refine zas rfl (zm (by simp only [List.length_cons, List.length_nil]; omega) (by simp))
  ·exact zas rfl rfl
 ·have hs := hlen 2
  have hs : (zbs k [a, b]).length ≤ 2 ^ 31 := hs
  unfold zrf
  refine z5k (fun h0 => by rw [h0]; rfl) fun h0 => ?_
  rw [h0, cond_false]
  refine z5k (fun h1 => ?_) fun h1 => ?_
  ·rw [h1, cond_true]
   refine zm (by have := eq_of_beq h1; omega) (zad fun x2 e2 => ?_)
   subst e2
   have h1' : (zbs k [a, b]).length = 1 := by have := eq_of_beq h1; omega
   match hj : zbs k [a, b], h1' with
   | [z], _ => rfl
  ·rw [h1, cond_false]
   exact zm (by omega) (by rw [Int.toNat_natCast])
theorem tm3 (n : Nat) : Int.tmod ((n : Nat) : Int) 3 = ((n % 3 : Nat) : Int) := rfl
theorem tm4 (n : Nat) : Int.tmod ((n : Nat) : Int) 4 = ((n % 4 : Nat) : Int) := rfl
theorem zyi {p : List Tr} {k : Nat} (h0 : 0 < k) (h : k ≤ p.length) : ix p ((p.length : Int) - (k : Int)) = zfh p k := by
 rw [show (p.length : Int) - (k : Int) = ((p.length - k : Nat) : Int) by omega, zdh (by omega), zis h0 h]
theorem z8z {p : List Tr} {k : Nat} (h0 : 0 < k) (h : k ≤ p.length) : zfh p k ∈ p := by rw [zis h0 h]; exact List.getElem_mem _
set_option maxRecDepth 10000 in
theorem made_eq {fuel : Nat} (l : List Sm) (hl : l.length < 2 ^ 63) (hu : ∀ x ∈ l, x.2.1 < 256) (hf : 60 < fuel) : z9x fuel l = some (zsl l) := by
 obtain ⟨m, hm⟩ : ∃ m, l.take 25 = m := ⟨_, rfl⟩
 have hlen : m.length ≤ 25 := by rw [← hm, List.length_take]; omega
 have hmu : ∀ x ∈ m, x.2.1 < 256 := fun x hx => hu x (List.mem_of_mem_take (hm ▸ hx))
 have hsub : sub l 0 (min (l.length : Int) 25) = m := by
  rw [← hm, sub, Int.toNat_zero, List.drop_zero]
  by_cases h : l.length ≤ 25
  ·rw [List.take_of_length_le (by omega), List.take_of_length_le h]
  ·rw [show (min (l.length : Int) 25).toNat - 0 = 25 by omega]
 have e25 : MM m 25 = MM m m.length := by rw [MM, MM, List.take_of_length_le hlen, List.take_length]
 unfold z9x
 simp only [hsub]
 rw [zsl, hm, e25]
 have hI := invM m
 refine zbn (MM m m.length).1 ?_ ?_
 ·refine zm (by omega) ?_
  refine zdm m.length (fun i => ((MM m i).2.1, (MM m i).2.2, (i : Int), (MM m i).1)) (by simp [MM]) (fun i hi => ?_) ?_ (by omega)
  ·refine zbk (by simpa using hi) ?_
   refine zbn ((MM m (i + 1)).2.1, (MM m (i + 1)).2.2, (MM m (i + 1)).1) ?_ (zm (by simp only; omega) (by simp))
   obtain ⟨i1, i2, i3, i4, i5⟩ := hI i (by omega)
   rw [z5e m i hi]
   obtain ⟨x, hx⟩ : ∃ x, x = m[i] := ⟨_, rfl⟩
   rw [← hx]
   have hxu := hmu x (hx ▸ List.getElem_mem hi)
   generalize hst : MM m i = st at i1 i2 i3 i4 i5 ⊢
   obtain ⟨p, u, g⟩ := st
   dsimp only at i1 i2 i3 i4 i5 ⊢
   obtain ⟨T, hT⟩ : ∃ T, T = zqz (p, u, g) x := ⟨_, rfl⟩
   rw [← hT]
   have hp := zao p
   have hsz : ∀ y ∈ p, (pre y).length ≤ 2 ^ 30 := fun y hy => by have := zcc hy; omega
   refine zm (by omega) (zad fun x1 e1 => ?_)
   rw [zdh hi, ← hx] at e1
   subst e1
   have hu8 : u ≤ 16 := i5
   unfold zqz at hT
   dsimp only at hT
   have happ : ∀ {ρ : Type} (z : Tr) {q : Prop} {iq : Decidable q}, (0 < p.length → q) → (bif p.isEmpty then (chk (0 < [z].length ∧ [z].length * 80 ≤ 140737488355328) (some (Sum.inl (u, g, [z])))) else (@chk _ q iq (some (Sum.inl (u, g, p ++ [z]))))) = (some (Sum.inl (u, g, p ++ [z])) : Option ((Int × Int × List Tr) ⊕ ρ)) := fun {ρ} z {q} {iq} hq =>
    z5k (fun he => zm (by simp) (by rw [List.isEmpty_iff.1 he]; rfl)) fun he => zm (hq (zfs he)) rfl
   have hq1 : ∀ z : Tr, 0 < p.length → (True ∧ 0 < p.length ∧ 0 < [z].length ∧ (p.length + [z].length) * 80 ≤ 140737488355328) := fun z hz => by simp only [List.length_cons, List.length_nil]; exact ⟨trivial, hz, by omega, by omega⟩
   cases c1 : decide (kI x < 4) with
   | true =>
    rw [c1, cond_true] at hT
    subst hT
    refine zbk c1 (zm (by omega) (zad fun x2 e2 => ?_))
    rw [Int.toNat_natCast] at e2
    subst e2
    refine zm (qcd x.2.1 hxu).1 (zad fun x3 e3 => ?_)
    rw [clsU_lb x.2.1 hxu] at e3
    subst e3
    exact happ _ (hq1 _)
   | false =>
    refine zas c1 ?_
    rw [c1, cond_false] at hT
    cases c2 : kI x == 4 with
    | true =>
     rw [c2, cond_true] at hT
     subst hT
     exact zbk c2 (happ _ (hq1 _))
    | false =>
     refine zas c2 ?_
     rw [c2, cond_false] at hT
     have hjoin : ∀ {ρ : Type} (k : Nat), k = 3 ∨ k = 4 → (p.length : Int) > 1 → (bif p.isEmpty then (chk (-9223372036854775808 ≤ ((p.length : Int) - 2) ∧ ((p.length : Int) - 2) < 9223372036854775808) (chk (-9223372036854775808 ≤ ((p.length : Int) - 2) ∧ ((p.length : Int) - 2) < 9223372036854775808) none)) else (chk (-9223372036854775808 ≤ ((p.length : Int) - 2) ∧ ((p.length : Int) - 2) < 9223372036854775808) (chk (-9223372036854775808 ≤ ((p.length : Int) - 2) ∧ ((p.length : Int) - 2) < 9223372036854775808) (bif (((p.length : Int) - 2) == 0) then (chk (-9223372036854775808 ≤ ((p.length : Int) - 2) ∧ ((p.length : Int) - 2) < 9223372036854775808) (chk (0 ≤ ((p.length : Int) - 2) ∧ ((p.length : Int) - 2) < ((p.length : Nat) : Int)) (chk (0 ≤ ((p.length : Int) - 2) ∧ ((p.length : Int) - 2) < (p.length : Int)) (zbb (ix p ((p.length : Int) - 2)) (fun x4 => (chk (-9223372036854775808 ≤ ((p.length : Int) - 1) ∧ ((p.length : Int) - 1) < 9223372036854775808) (chk (0 ≤ ((p.length : Int) - 1) ∧ ((p.length : Int) - 1) < ((p.length : Nat) : Int)) (chk (0 ≤ ((p.length : Int) - 1) ∧ ((p.length : Int) - 1) < (p.length : Int)) (zbb (ix p ((p.length : Int) - 1)) (fun x5 => (zay (zid fuel (k : Int) x4 x5) (fun x6 => (chk (0 < [x6].length ∧ [x6].length * 80 ≤ 140737488355328) (some (Sum.inl (u, g, [x6])))))))))))))))) else (chk (0 < ((p.length : Int) - 2) ∧ ((p.length : Int) - 2) ≤ ((p.length : Nat) : Int)) (chk (-9223372036854775808 ≤ ((p.length : Int) - 2) ∧ ((p.length : Int) - 2) < 9223372036854775808) (chk (0 ≤ ((p.length : Int) - 2) ∧ ((p.length : Int) - 2) < ((p.length : Nat) : Int)) (chk (0 ≤ ((p.length : Int) - 2) ∧ ((p.length : Int) - 2) < (p.length : Int)) (zbb (ix p ((p.length : Int) - 2)) (fun x7 => (chk (-9223372036854775808 ≤ ((p.length : Int) - 1) ∧ ((p.length : Int) - 1) < 9223372036854775808) (chk (0 ≤ ((p.length : Int) - 1) ∧ ((p.length : Int) - 1) < ((p.length : Nat) : Int)) (chk (0 ≤ ((p.length : Int) - 1) ∧ ((p.length : Int) - 1) < (p.length : Int)) (zbb (ix p ((p.length : Int) - 1)) (fun x8 => (zay (zid fuel (k : Int) x7 x8) (fun x9 => (chk ((Int.toNat ((p.length : Int) - 2)) ≤ p.length ∧ 0 < [x9].length ∧ ((Int.toNat ((p.length : Int) - 2)) + [x9].length) * 80 ≤ 140737488355328) (some (Sum.inl (u, g, (List.take (Int.toNat ((p.length : Int) - 2)) p ++ [x9])))))))))))))))))))))) = (some (Sum.inl (u, g, p.take (p.length - 2) ++ [zfn k (zfh p 2) (zfh p 1)])) : Option ((Int × Int × List Tr) ⊕ ρ)) := by
      intro ρ k hk hp2
      have s2 := hsz _ (z8z (k := 2) (p := p) (by omega) (by omega)); have s1 := hsz _ (z8z (k := 1) (p := p) (by omega) (by omega))
      have q2 := zyi (k := 2) (p := p) (by omega) (by omega); have q1 := zyi (k := 1) (p := p) (by omega) (by omega)
      have hj := z9q (fuel := fuel) k (zfh p 2) (zfh p 1) hk (by omega) ⟨s2, s1⟩
      have hne : p.isEmpty = false := by cases p with | nil => simp at hp2 | cons _ _ => rfl
      refine zas hne (zm (by omega) (zm (by omega) (z5k (fun h0 => ?_) fun h0 => ?_)))
      ·refine zm (by omega) (zm (by omega) (zm (by omega) (zad fun x4 e4 => zm (by omega) (zm (by omega) (zm (by omega) (zad fun x5 e5 => ?_))))))
       rw [show ((p.length : Int) - 2) = (p.length : Int) - ((2 : Nat) : Int) from rfl, q2] at e4
       rw [show ((p.length : Int) - 1) = (p.length : Int) - ((1 : Nat) : Int) from rfl, q1] at e5
       subst e4 e5
       refine zbt _ hj (zm (by simp) ?_)
       have := eq_of_beq h0
       rw [show p.length - 2 = 0 by omega]; rfl
      ·have h0 : ¬ ((p.length : Int) - 2 = 0) := by simpa using h0
       refine zm (by omega) (zm (by omega) (zm (by omega) (zm (by omega) (zad fun x4 e4 => zm (by omega) (zm (by omega) (zm (by omega) (zad fun x5 e5 => ?_)))))))
       rw [show ((p.length : Int) - 2) = (p.length : Int) - ((2 : Nat) : Int) from rfl, q2] at e4
       rw [show ((p.length : Int) - 1) = (p.length : Int) - ((1 : Nat) : Int) from rfl, q1] at e5
       subst e4 e5
       refine zbt _ hj (zm (by simp only [List.length_cons, List.length_nil]; omega) ?_)
       rw [show ((p.length : Int) - 2).toNat = p.length - 2 by omega]
     have hA : cA p x = (bif decide (kI x < 7) then decide ((p.length : Int) > 1) else false) := by unfold cA; cases decide (kI x < 7) <;> rfl
     refine zbn (cA p x) (by rw [hA]; show (bif decide (kI x < 7) then _ else _) = _; cases decide (kI x < 7) <;> rfl) ?_
     cases c3 : cA p x with
     | true =>
      rw [c3, cond_true] at hT
      subst hT
      have h2 : (p.length : Int) > 1 := by rw [cA, Bool.and_eq_true] at c3; exact of_decide_eq_true c3.2
      exact zbk rfl (hjoin 3 (.inl rfl) h2)
     | false =>
      refine zas rfl ?_
      rw [c3, cond_false] at hT
      have hB : cB p x = (bif decide (kI x < 9) then decide ((p.length : Int) > 1) else false) := by unfold cB; cases decide (kI x < 9) <;> rfl
      refine zbn (cB p x) (by rw [hB]; show (bif decide (kI x < 9) then _ else _) = _; cases decide (kI x < 9) <;> rfl) ?_
      cases c4 : cB p x with
      | true =>
       rw [c4, cond_true] at hT
       subst hT
       have h2 : (p.length : Int) > 1 := by rw [cB, Bool.and_eq_true] at c4; exact of_decide_eq_true c4.2
       exact zbk rfl (hjoin 4 (.inr rfl) h2)
      | false =>
       refine zas rfl ?_
       rw [c4, cond_false] at hT
       have hC : cC p g x = (bif kI x == 9 then (bif decide ((p.length : Int) > 0) then decide (g < 9) else false) else false) := by unfold cC; cases kI x == 9 <;> cases decide ((p.length : Int) > 0) <;> rfl
       refine zbn (cC p g x) (by rw [hC]; show (bif kI x == 9 then _ else _) = _; cases kI x == 9 <;> cases decide ((p.length : Int) > 0) <;> rfl) ?_
       cases c5 : cC p g x with
       | true =>
        rw [c5, cond_true] at hT
        subst hT
        have h3 : (p.length : Int) > 0 ∧ g < 9 := by
         simp only [cC, Bool.and_eq_true, decide_eq_true_eq] at c5; exact ⟨c5.1.2, c5.2⟩
        have hne : p.isEmpty = false := by cases p with | nil => simp at h3 | cons _ _ => rfl
        have q1 := zyi (k := 1) (p := p) (by omega) (by omega)
        refine zbk rfl (zas hne (zm (by omega) (zm (by omega) (zm (by omega) (zm (by omega) (zad fun x4 e4 => ?_))))))
        rw [show ((p.length : Int) - 1) = (p.length : Int) - ((1 : Nat) : Int) from rfl, q1] at e4
        subst e4
        refine zbt _ rfl (zm (by omega) (zm (by omega) (zad fun x5 e5 => zm (by omega) ?_)))
        rw [show ((p.length : Int) - 1).toNat = p.length - 1 by omega]
       | false =>
        refine zas rfl ?_
        rw [c5, cond_false] at hT
        cases hpe : p.isEmpty with
        | true =>
         have hp0 : p = [] := List.isEmpty_iff.1 hpe
         have hD : cD p x = false := by rw [hp0]; simp [cD]
         rw [hD, cond_false] at hT
         subst hT
         refine zbk rfl (zbn () ?_ rfl)
         subst hp0
         show (bif decide (kI x > 9) then _ else _) = _
         cases decide (kI x > 9) <;> rfl
        | false =>
         have hpos := zfs hpe
         have q1 := zyi (k := 1) (p := p) (by omega) (by omega)
         have hD : cD p x = (bif decide (kI x > 9) then (bif decide ((p.length : Int) > 0) then (((zfh p 1).k : Int) != 1) else false) else false) := by unfold cD; cases decide (kI x > 9) <;> cases decide ((p.length : Int) > 0) <;> rfl
         refine zas rfl (zbn (cD p x) ?_ ?_)
         ·rw [hD]
          show (bif decide (kI x > 9) then _ else _) = _
          cases decide (kI x > 9) with
          | false => rfl
          | true =>
           cases decide ((p.length : Int) > 0) with
           | false => rfl
           | true =>
            refine zm (by omega) (zm (by omega) (zm (by omega) (zad fun x4 e4 => ?_)))
            rw [show ((p.length : Int) - 1) = (p.length : Int) - ((1 : Nat) : Int) from rfl, q1] at e4
            subst e4; rfl
         ·cases c6 : cD p x with
          | false => rw [c6, cond_false] at hT; subst hT; rfl
          | true =>
           rw [c6, cond_true] at hT
           refine zbk rfl (zm (by rw [tm3]; omega) (zm (by rw [tm4]; omega) (zbn (moM x) ?_ ?_)))
           ·refine zbn (badM x) ?_ ?_
            ·unfold badM m4 loM
             show (bif decide (((x.2.2 % 4 : Nat) : Int) < ((x.2.1 % 3 : Nat) : Int)) then _ else bif ((x.2.2 % 4 : Nat) : Int) == 0 then _ else bif ((x.2.1 % 3 : Nat) : Int) == 1 then some (Sum.inl (((x.2.2 % 4 : Nat) : Int) == 1)) else _) = _
             cases decide (((x.2.2 % 4 : Nat) : Int) < ((x.2.1 % 3 : Nat) : Int)) <;> cases ((x.2.2 % 4 : Nat) : Int) == 0 <;> cases ((x.2.1 % 3 : Nat) : Int) == 1 <;> rfl
            ·unfold moM; cases badM x <;> rfl
           ·have ht := qfp x
            have htm : max (max (Int.tmod ((x.2.1 : Nat) : Int) 3) (moM x)) 1 = tmM x := rfl
            have hmul : 0 ≤ u * tmM x ∧ u * tmM x ≤ 48 := by
             have h1 := Int.mul_le_mul (a := u) (b := tmM x) (c := 16) (d := 3) (by omega) (by omega) (by omega) (by omega)
             have h2 := Int.mul_nonneg (a := u) (b := tmM x) (by omega) (by omega)
             omega
            refine zm (by rw [htm]; omega) ?_
            cases c7 : decide (u * tmM x ≤ 16) with
            | false => rw [c7, cond_false] at hT; subst hT; exact zas c7 rfl
            | true =>
             rw [c7, cond_true] at hT
             subst hT
             refine zbk c7 (zm (by rw [htm]; omega) (zm (by omega) (zm (by omega) (zm (by omega) (zm (by omega) (zad fun x4 e4 => ?_))))))
             rw [show ((p.length : Int) - 1) = (p.length : Int) - ((1 : Nat) : Int) from rfl, q1] at e4
             subst e4
             refine zbt _ rfl (zm (by omega) (zm (by omega) (zad fun x5 e5 => ?_)))
             rw [show ((p.length : Int) - 1).toNat = p.length - 1 by omega]; rfl
  ·exact zas (by simp) rfl
 ·obtain ⟨i1, i2, i3, i4, i5⟩ := hI m.length (Nat.le_refl _)
  generalize (MM m m.length).1 = p at i1 ⊢
  have hp := zao p
  have hsz : ∀ y ∈ p, (pre y).length ≤ 25 := fun y hy => by have := zcc hy; omega
  match p, hp, hsz, i1 with
  | [], _, _, _ =>
   refine qoc (z8e [97]) ?_ rfl
   refine zbk rfl (zbk rfl (zm (by decide) (zad fun x2 e2 => ?_)))
   subst e2; rfl
  | y :: q, hp, hsz, i1 =>
   refine zbn () ?_ ?_
   ·refine zas rfl (zas (by simp; omega) rfl)
   ·refine zas rfl (zm (by simp) (zm (by simp) (zad fun x25 e25 => ?_)))
    have e25 : y = x25 := e25
    subst e25
    refine zbn (qnd (y :: q)) ?_ rfl
    by_cases hq : q = []
    ·subst hq
     refine zbk rfl (zm (by omega) ?_)
     match fuel, hf with
     | f + 1, _ => rfl
    ·have hq1 : 0 < q.length := List.length_pos_iff.2 hq
     refine zas (by simp; omega) (zm (by simp; omega) ?_)
     have hend := qmk (p := y :: q) (by simp)
     simp only [List.length_cons] at hp i1 hend ⊢
     refine zdm q.length (fun i => ((i : Int), qiq (y :: q) i)) rfl (fun i hi => ?_) ?_ (by omega)
     ·refine zbk (by simp; omega) (zm (by simp only; omega) (zm (by simp only; omega) (zad fun x26 e26 => ?_)))
      simp only at e26
      have e26' : (y :: q)[i + 1]'(by simp; omega) = x26 := by
       rw [← e26, show (((Int.toNat 1 : Nat) : Int) + (i : Int)) = ((i + 1 : Nat) : Int) by simp; omega, zdh (by simp; omega)]
      have hacc := qcs (p := y :: q) (by simp) i (by simp; omega)
      have htk := zqg (y :: q) (i + 1)
      have hj := z9q (fuel := fuel) 4 (qiq (y :: q) i) x26 (.inr rfl) (by omega) ⟨by omega, by rw [← e26']; have := hsz _ (List.getElem_mem (l := y :: q) (n := i + 1) (by simp; omega)); omega⟩
      refine zbt _ hj (zm (by simp only; omega) ?_)
      rw [z2k (p := y :: q) (i := i) (by simp; omega), e26']; rfl
     ·refine zas (by simp) ?_
      simp only [Nat.add_sub_cancel] at hend
      rw [hend]
theorem k_made (l : List Sm) (h : l.length < 2 ^ 63 ∧ ∀ x ∈ l, x.2.1 < 256) : Pure (ITP Tryz.prog) Tryz.prog 9 [.list l.length (Enc.cellsL l) .none] (.agg (Enc.cells (zsl l))) := made_sh 61 l _ (made_eq l h.1 h.2 (by decide))
end Go.Ab
set_option maxRecDepth 100000
set_option maxHeartbeats 4000000
namespace Go.Ab
open Go Go.RowKit Go.Fwd Go.Proofs
def samQ (x y : Tr) : Option Bool := if (pre x).length < 2 ^ 61 ∧ (pre y).length < 2 ^ 61 then some (zrb x y) else none
theorem samQ_ok {x y : Tr} {z : Bool} (h : samQ x y = some z) : Pure (ITP Tryz.prog) Tryz.prog 23 [.agg (Enc.cells x), .agg (Enc.cells y)] (.raw (.bool z)) := by
 unfold samQ at h
 split at h
 ·rename_i h1; cases h; exact z1s x y h1
 ·cases h
def zsq (a : BS) (b : BS) : Option Bool :=
 (zbb (a &&& b) (fun x1 => (some (decide (x1 ≠ (0#256))))))
theorem ent12 : Ent Tryz.prog 12 := enters_of Tryz.func12 (by kernel_rfl) rfl
theorem qmd (a : BS) (b : BS) (r : Bool) (h : zsq a b = some r) : Pure (ITP Tryz.prog) Tryz.prog 12 [.A (a : BS), .A (b : BS)] (.raw (.bool r)) := by
 unfold zsq at h
 refine zaw 8 mix Tryz.func12 ent12 ?_
 refine zf (zb ?_)
 refine zbp (a := .ptr 0 0) (σ'' := (.B [(26, (Enc.cells (a : BS)))])) ?_
 refine zbp (a := .ptr 1 0) (σ'' := (.B [(26, (Enc.cells (a : BS))), (26, (Enc.cells (b : BS)))])) ?_
 refine w_o (a := .b false) ?_
 refine zo [.v (.A (a : BS)), .v (.A (b : BS))] ?_
 obtain ⟨x1, hx1, h⟩ := zl h
 refine zcf (args' := [.A (a : BS), .A (b : BS)]) (r := .A (x1 : BS)) (by rw [← hx1]; exact (k_and a b)) ?_
 refine w_o (a := .A (0#256 : BS)) ?_
 refine z4w (.b (decide (x1 ≠ (0#256)))) rfl rfl rfl (zog x1 (0#256) rfl rfl rfl) (by dsimp only [zab, List.set]) ?_
 refine zaj ?_
 exact zba h
def z3b (fuel : Nat) (a : (List Tr)) (b : (List Tr)) : Option Bool :=
 (zay (zxv fuel samQ a b) (fun x1 => (some x1)))
theorem ent15 : Ent Tryz.prog 15 := enters_of Tryz.func15 (by kernel_rfl) rfl
theorem qnr (fuel : Nat) (a : (List Tr)) (b : (List Tr)) (r : Bool) (h : z3b fuel a b = some r) : Pure (ITP Tryz.prog) Tryz.prog 15 [.L (a : List Tr), .L (b : List Tr)] (.raw (.bool r)) := by
 unfold z3b at h
 refine zaw 6 mix Tryz.func15 ent15 ?_
 refine zo [.v (.b false)] ?_
 refine zo [.m _, .m _] ?_
 obtain ⟨x1, hx1, h⟩ := zv h
 refine zdd (args' := [.L (a : List Tr), .L (b : List Tr), .clos 23 []]) (r := .b x1) (qmr fuel samQ a b x1 23 (fun x y z h => samQ_ok h) hx1) rfl rfl (ze (zfq (Enc.cloL _)) (ze (zfq (Enc.cloL _)) (ze (show AV.clos _ (stripL _) = _ from congrArg (AV.clos _) rfl) rfl))) (za (zai (Enc.cloL _)) (za (zai (Enc.cloL _)) (za (show zw _ _ = true from rfl) rfl))) (by dsimp only [zab, List.set]) ?_
 refine zaj ?_
 exact zba h
def zwx (fuel : Nat) (x : (List Sm)) (c : Int) : Option Bool :=
 (chk (List.length x < 2 ^ 63 ∧ ∀ y ∈ x, y.2.1 < 256) (zbb (zsl x) (fun x1 => (zay (zmq fuel x1) (fun x2 => (bif (x2.2 != 0) then (some false) else (zdr (τ := BS) (zbx (β := Int × Int × BS) (fun s1 => (bif (decide (s1.2.1 < (List.length x2.1 : Int))) then (chk (0 ≤ s1.2.1 ∧ s1.2.1 < (List.length x2.1 : Int)) (zbb (ix x2.1 s1.2.1) (fun x3 => (zay (zkk x3.s) (fun x4 => (bif (!x4.2) then (some (Sum.inr (Sum.inr false))) else (zay (zsq s1.2.2 x3.s) (fun x5 => (bif x5 then (some (Sum.inr (Sum.inr false))) else (chk (-9223372036854775808 ≤ x4.1 ∧ x4.1 < 9223372036854775808) (bif (decide (x4.1 ≤ s1.1)) then (some (Sum.inr (Sum.inr false))) else (bif ((List.length x3.l : Int) == 0) then (some (Sum.inr (Sum.inr false))) else (zbb (s1.2.2 ||| x3.s) (fun x6 => (chk (-9223372036854775808 ≤ x4.1 ∧ x4.1 < 9223372036854775808) (zay (zra x1 x4.1) (fun x7 => (bif (x7.2 != 0) then (some (Sum.inr (Sum.inr false))) else (zay (z3b fuel x7.1 x3.l) (fun x8 => (bif (!x8) then (some (Sum.inr (Sum.inr false))) else (chk (-9223372036854775808 ≤ (s1.2.1 + 1) ∧ (s1.2.1 + 1) < 9223372036854775808) (some (Sum.inl (x4.1, (s1.2.1 + 1), x6))))))))))))))))))))))))) else (some (Sum.inr (Sum.inl (s1.2.2)))))) fuel ((-1), 0, 0#256)) (fun j1 => (zay (zra x1 c) (fun x9 => (bif (x9.2 != 0) then (some false) else (zay (znn j1 c) (fun x10 => (bif (!(x10 == (decide ((List.length x9.1 : Int) > 0)))) then (some false) else (zdr (τ := Unit) (zbx (β := Int) (fun s2 => (bif (decide (s2 < (List.length x2.1 : Int))) then (zdr (τ := Unit) (chk (0 ≤ s2 ∧ s2 < (List.length x2.1 : Int)) (zbb (ix x2.1 s2) (fun x11 => (zay (znn x11.s c) (fun x12 => (bif x12 then (zay (z3b fuel x9.1 x11.l) (fun x13 => (bif (!x13) then (some (Sum.inr (Sum.inr (Sum.inr false)))) else (some (Sum.inl ()))))) else (some (Sum.inl ())))))))) (fun j3 => (chk (-9223372036854775808 ≤ (s2 + 1) ∧ (s2 + 1) < 9223372036854775808) (some (Sum.inl ((s2 + 1))))))) else (some (Sum.inr (Sum.inl ()))))) fuel (0)) (fun j2 => (some true)))))))))))))))))
theorem ent3 : Ent Tryz.prog 3 := enters_of Tryz.func3 (by kernel_rfl) rfl
theorem qji (fuel : Nat) (x : (List Sm)) (c : Int) (r : Bool) (h : zwx fuel x c = some r) : Pure (ITP Tryz.prog) Tryz.prog 3 [.L (x : List Sm), .raw (.int .u8 c)] (.raw (.bool r)) := by
 unfold zwx at h
 refine zaw 117 mix Tryz.func3 ent3 ?_
 refine zo [.v (.b false)] ?_
 refine zf ?_
 refine zf (zb ?_)
 refine zcf (r := .b true) qav ?_
 refine w_o (a := .b false) ?_
 refine zcb rfl ?_
 refine zo [.m _] ?_
 obtain ⟨g1, h⟩ := zh h
 obtain ⟨x1, hx1, h⟩ := zl h
 refine zcf (args' := [.L (x : List Sm)]) (r := .A (x1 : Tr)) (by rw [← hx1]; exact (k_made x g1)) ?_
 refine zbp (a := .ptr 0 0) (σ'' := (.B [(29, [.u 0, .raw (.int .u64 0), .raw (.int .u64 0), .raw (.int .u64 0), .raw (.int .u64 0), .i 0, .i 0, .list 0 [] .full])])) ?_
 refine zcp 8 (.B [(29, (Enc.cells (x1 : Tr)))]) ?_
 refine zo [.v (.A (x1 : Tr))] ?_
 obtain ⟨x2, hx2, h⟩ := zv h
 refine zcf (z9f fuel x1 x2 hx2) ?_
 refine w_r [.m _, .x _, .x _, .m _, .m _] ?_
 refine zf ?_
 refine zo [.m _, .v (.b (x2.2 != 0))] ?_
 refine zbu h (fun hc1 h => ?_) (fun hc1 h => ?_)
 refine zo [.v (.b false)] ?_
 exact zba h
 refine zf (zb ?_)
 refine zbp (a := .ptr 1 0) (σ'' := (.B [(29, (Enc.cells (x1 : Tr))), (26, (Enc.cells (0#256 : BS)))])) ?_
 refine zo [.v (.i (-1))] ?_
 refine zar h (bz 0 119 664613997892457936451903530140171933) (fun j1 => []) (fun j1 => (.B [(29, (Enc.cells (x1 : Tr))), (26, (Enc.cells (j1 : BS)))])) ?_ ?_
 intro or1 h hr1
 refine zo [.m _, .v (.i (List.length x2.1 : Int)), .v (.i 0)] ?_
 refine zn ?_
 refine zbr h (bz 0 119 664613997892457936451903526918946461) (fun s1 => [(9, .i s1.1), (32, .i s1.2.1)]) (fun s1 => (.B [(29, (Enc.cells (x1 : Tr))), (26, (Enc.cells (s1.2.2 : BS)))])) ?_ ?_
 exact zde (bl 119 7516193634)
 intro s1 p1 h
 refine zff ?_
 refine zo [.v (.b (decide (s1.2.1 < (List.length x2.1 : Int))))] ?_
 refine zf ?_
 refine zbu h (fun hc2 h => ?_) (fun hc2 h => ?_)
 refine zf ?_
 refine zn ?_
 refine zf (zb ?_)
 obtain ⟨g2, h⟩ := zh h
 obtain ⟨x3, hx3, h⟩ := zl h
 refine zsm hx3 g2 ?_
 refine w_o (a := .A (x3 : Arc)) ?_
 refine zbp (a := .ptr 2 0) (σ'' := (.B [(29, (Enc.cells (x1 : Tr))), (26, (Enc.cells (s1.2.2 : BS))), (36, [.raw (.int .u64 0), .raw (.int .u64 0), .raw (.int .u64 0), .raw (.int .u64 0), .list 0 [] .full])])) ?_
 refine zcp 5 (.B [(29, (Enc.cells (x1 : Tr))), (26, (Enc.cells (s1.2.2 : BS))), (36, (Enc.cells (x3 : Arc)))]) ?_
 refine zo [.v (.ptr 2 0), .v (.A (x3.s : BS))] ?_
 obtain ⟨x4, hx4, h⟩ := zv h
 refine zcf (zri x3.s x4 hx4) ?_
 refine w_r [.m _, .x _, .x _, .m _, .m _] ?_
 refine zf ?_
 refine zo [.m _, .v (.b (!x4.2))] ?_
 refine zac h (fun hc3 h => ?_) (fun hc3 h => ?_)
 refine zaz hc3 ?_
 refine w_r [.p, .p, .p, .p, .v (.b true)] ?_
 refine w_r [.m _, .p, .p, .p, .p] ?_
 refine w_r [.v (.b true), .m _, .p, .p, .p] ?_
 refine w_r [.p, .v (.b true)] ?_
 refine zby rfl ?_
 refine zo [.v (.b false)] ?_
 refine zt h (fun h => ?_)
 replace h := zu h hr1
 exact zba h
 refine zaz hc3 ?_
 refine w_r [.v (.A (s1.2.2 : BS)), .v (.ptr 2 0), .v (.A (x3.s : BS))] ?_
 refine zak rfl rfl ?_
 obtain ⟨x5, hx5, h⟩ := zv h
 refine zcf (qmd s1.2.2 x3.s x5 hx5) ?_
 refine w_o (a := .b x5) ?_
 refine zac h (fun hc4 h => ?_) (fun hc4 h => ?_)
 refine zaz hc4 ?_
 refine w_r [.p, .p, .p, .p, .v (.b true)] ?_
 refine w_r [.m _, .p, .p, .p, .p] ?_
 refine w_r [.v (.b true)] ?_
 refine zby rfl ?_
 refine zo [.v (.b false)] ?_
 refine zt h (fun h => ?_)
 replace h := zu h hr1
 exact zba h
 refine zaz hc4 ?_
 refine zak rfl rfl ?_
 refine zaj ?_
 refine zak rfl rfl ?_
 obtain ⟨g3, h⟩ := zh h
 refine w_o (a := .i x4.1) (h := zbo (zom g3 rfl rfl rfl)) ?_
 refine w_r [.m _, .v (.b (decide (x4.1 ≤ s1.1))), .v (.b (decide (x4.1 ≤ s1.1)))] ?_
 refine zac h (fun hc5 h => ?_) (fun hc5 h => ?_)
 refine zaz hc5 ?_
 refine w_r [.p, .p, .p, .p, .v (.b true)] ?_
 refine zby rfl ?_
 refine zo [.v (.b false)] ?_
 refine zt h (fun h => ?_)
 replace h := zu h hr1
 exact zba h
 refine zaz hc5 ?_
 refine w_r [.v (.ptr 2 4), .v (.L (x3.l : List Tr)), .v (.i (List.length x3.l : Int)), .v (.b ((List.length x3.l : Int) == 0)), .v (.b ((List.length x3.l : Int) == 0))] ?_
 refine zbu h (fun hc6 h => ?_) (fun hc6 h => ?_)
 refine zo [.v (.b false)] ?_
 refine zt h (fun h => ?_)
 replace h := zu h hr1
 exact zba h
 refine zo [.v (.A (s1.2.2 : BS)), .v (.ptr 2 0), .v (.A (x3.s : BS))] ?_
 obtain ⟨x6, hx6, h⟩ := zl h
 refine zcf (args' := [.A (s1.2.2 : BS), .A (x3.s : BS)]) (r := .A (x6 : BS)) (by rw [← hx6]; exact (k_or2 s1.2.2 x3.s)) ?_
 refine zaj ?_
 obtain ⟨g4, h⟩ := zh h
 refine w_o (a := .i x4.1) (h := zbo (zom g4 rfl rfl rfl)) ?_
 refine zcp 4 (.B [(29, (Enc.cells (x1 : Tr))), (26, (Enc.cells (x6 : BS))), (36, (Enc.cells (x3 : Arc)))]) ?_
 refine zaj ?_
 refine zo [.v (.A (x1 : Tr)), .m _] ?_
 obtain ⟨x7, hx7, h⟩ := zv h
 refine zcf (zuk x1 x4.1 x7 hx7) ?_
 refine w_r [.m _, .x _, .x _, .m _, .m _] ?_
 refine zo [.m _, .v (.b (x7.2 != 0))] ?_
 refine zac h (fun hc7 h => ?_) (fun hc7 h => ?_)
 refine zaz hc7 ?_
 refine w_r [.p, .p, .p, .p, .p] ?_
 refine w_r [.v (.b true)] ?_
 refine zby rfl ?_
 refine zo [.v (.b false)] ?_
 refine zt h (fun h => ?_)
 replace h := zu h hr1
 exact zba h
 refine zaz hc7 ?_
 refine w_r [.m _, .v (.ptr 2 4), .v (.L (x3.l : List Tr))] ?_
 refine zak rfl rfl ?_
 obtain ⟨x8, hx8, h⟩ := zv h
 refine zcf (qnr fuel x7.1 x3.l x8 hx8) ?_
 refine w_r [.v (.b (!x8)), .v (.b (!x8))] ?_
 refine zbu h (fun hc8 h => ?_) (fun hc8 h => ?_)
 refine zo [.v (.b false)] ?_
 refine zt h (fun h => ?_)
 replace h := zu h hr1
 exact zba h
 refine zb (k0 := 0) (id := 19) ?_
 obtain ⟨g5, h⟩ := zh h
 refine zov g5 ?_
 refine zaj ?_
 refine zaq (p := p1) (x4.1, (s1.2.1 + 1), x6) h ?_
 exact zcy (bl 119 7516193634) 2 (by kernel_rfl) (Nat.le_of_ble_eq_true rfl) (zbf (zq (zk _ _ (Enc.clo _)) (zq (zk _ _ (Enc.clo _)) rfl))) (by dsimp only [zaa, zag, List.foldl, List.set, bz, bzc, Nat.reduceMod, Nat.reduceDiv, Nat.reduceBEq, Nat.reduceAdd]; exact (za rfl (za rfl (za rfl (za rfl (za rfl (za (by decide) (za (zai (Enc.cloL _)) (za rfl (za (by decide) (za rfl (za rfl (za rfl (za rfl (za rfl (za rfl (za rfl (za rfl (za rfl (za rfl (za rfl (za rfl (za rfl (za rfl (za rfl (za rfl (za rfl (za rfl (za rfl (za rfl (za rfl (za (zai (Enc.cloL _)) (by kernel_rfl))))))))))))))))))))))))))))))))) (by kernel_rfl)
 refine zt h (fun h => ?_)
 refine zg (o := or1) (s1.2.2) h ?_
 exact zde (bl 119 354)
 intro j1 h
 refine zff ?_
 refine zo [.v (.A (x1 : Tr)), .m _] ?_
 obtain ⟨x9, hx9, h⟩ := zv h
 refine zcf (zuk x1 c x9 hx9) ?_
 refine w_r [.m _, .x _, .x _, .m _, .m _] ?_
 refine zf ?_
 refine zo [.m _, .v (.b (x9.2 != 0))] ?_
 refine zac h (fun hc9 h => ?_) (fun hc9 h => ?_)
 refine zaz hc9 ?_
 refine w_r [.p, .p, .p, .p, .p] ?_
 refine w_r [.p, .p, .v (.b true)] ?_
 refine zby rfl ?_
 refine zo [.v (.b false)] ?_
 exact zba h
 refine zaz hc9 ?_
 refine w_r [.v (.A (j1 : BS)), .m _] ?_
 refine zak rfl rfl ?_
 obtain ⟨x10, hx10, h⟩ := zv h
 refine zcf (zut j1 c x10 hx10) ?_
 refine w_r [.m _, .v (.i (List.length x9.1 : Int)), .v (.b (decide ((List.length x9.1 : Int) > 0)))] ?_
 refine zak rfl rfl ?_
 refine w_o (a := .b (!(x10 == (decide ((List.length x9.1 : Int) > 0))))) (h := zbo (by kernel_rfl)) ?_
 refine w_o (a := .b (!(x10 == (decide ((List.length x9.1 : Int) > 0))))) ?_
 refine zbu h (fun hc10 h => ?_) (fun hc10 h => ?_)
 refine zo [.v (.b false)] ?_
 exact zba h
 refine zar h (bz 0 119 664613997873115123338069463345201650) (fun j2 => []) (fun j2 => (.B [(29, (Enc.cells (x1 : Tr))), (26, (Enc.cells (j1 : BS)))])) ?_ ?_
 intro or2 h hr2
 refine zo [.m _, .v (.i (List.length x2.1 : Int)), .v (.i 0)] ?_
 refine zn ?_
 refine zbr h (bz 0 119 664606391969513753961660483125903856) (fun s2 => [(103, .i s2)]) (fun s2 => (.B [(29, (Enc.cells (x1 : Tr))), (26, (Enc.cells (j1 : BS)))])) ?_ ?_
 exact zde (bl 119 17747127746008325455020639911439)
 intro s2 p2 h
 refine zff ?_
 refine zo [.v (.b (decide (s2 < (List.length x2.1 : Int))))] ?_
 refine zf ?_
 refine zbu h (fun hc11 h => ?_) (fun hc11 h => ?_)
 refine zar h (bz 0 118 332286716536625316555527817819062288) (fun j3 => []) (fun j3 => (.B [(29, (Enc.cells (x1 : Tr))), (26, (Enc.cells (j1 : BS)))])) ?_ ?_
 intro or3 h hr3
 refine zn ?_
 refine zf (zb ?_)
 obtain ⟨g6, h⟩ := zh h
 obtain ⟨x11, hx11, h⟩ := zl h
 refine zsm hx11 g6 ?_
 refine w_o (a := .A (x11 : Arc)) ?_
 refine zbp (a := .ptr 2 0) (σ'' := (.B [(29, (Enc.cells (x1 : Tr))), (26, (Enc.cells (j1 : BS))), (36, [.raw (.int .u64 0), .raw (.int .u64 0), .raw (.int .u64 0), .raw (.int .u64 0), .list 0 [] .full])])) ?_
 refine zcp 5 (.B [(29, (Enc.cells (x1 : Tr))), (26, (Enc.cells (j1 : BS))), (36, (Enc.cells (x11 : Arc)))]) ?_
 refine zo [.v (.ptr 2 0), .v (.A (x11.s : BS)), .m _] ?_
 obtain ⟨x12, hx12, h⟩ := zv h
 refine zcf (zut x11.s c x12 hx12) ?_
 refine zac h (fun hc12 h => ?_) (fun hc12 h => ?_)
 refine zaz hc12 ?_
 refine w_r [.m _, .v (.ptr 2 4), .v (.L (x11.l : List Tr))] ?_
 refine zak rfl rfl ?_
 obtain ⟨x13, hx13, h⟩ := zv h
 refine zcf (qnr fuel x9.1 x11.l x13 hx13) ?_
 refine w_r [.v (.b (!x13)), .v (.b (!x13))] ?_
 refine zbu h (fun hc13 h => ?_) (fun hc13 h => ?_)
 refine zo [.v (.b false)] ?_
 replace h := zu h hr3
 refine zt h (fun h => ?_)
 replace h := zu h hr2
 exact zba h
 refine zg (o := or3) () h ?_
 exact zcy (bl 119 332327281355832619896375712321109999) 2 (by kernel_rfl) (Nat.le_of_ble_eq_true rfl) (zbf (zq (zk _ _ (Enc.clo _)) (zq (zk _ _ (Enc.clo _)) rfl))) (by dsimp only [zaa, zag, List.foldl, List.set, bz, bzc, Nat.reduceMod, Nat.reduceDiv, Nat.reduceBEq, Nat.reduceAdd]; exact (za rfl (za rfl (za rfl (za rfl (za rfl (za rfl (za rfl (za rfl (za rfl (za rfl (za rfl (za rfl (za rfl (za rfl (za rfl (za rfl (za (zai (Enc.cloL _)) (za rfl (za rfl (za rfl (za rfl (za rfl (za rfl (za rfl (za rfl (za rfl (za rfl (za rfl (za rfl (za rfl (za rfl (za rfl (za rfl (za rfl (za rfl (za rfl (za rfl (za rfl (za rfl (za rfl (za rfl (za rfl (za rfl (za rfl (za rfl (za rfl (za rfl (za rfl (za rfl (za rfl (za rfl (za rfl (za rfl (za rfl (za rfl (za rfl (za rfl (za rfl (za rfl (za rfl (za rfl (za rfl (za rfl (za rfl (za rfl (za rfl (za rfl (za rfl (za rfl (za rfl (za rfl (za rfl (za rfl (za rfl (za rfl (za rfl (za rfl (za rfl (za rfl (za rfl (za rfl (za rfl (za rfl (za rfl (za rfl (za rfl (za rfl (za rfl (za rfl (za rfl (za rfl (za rfl (za rfl (za rfl (za rfl (za rfl (za rfl (za rfl (za rfl (za rfl (za rfl (za (zai (Enc.cloL _)) (by kernel_rfl)))))))))))))))))))))))))))))))))))))))))))))))))))))))))))))))))))))))))))))))))))))))))))))))))))))))) (by kernel_rfl)
 refine zaz hc12 ?_
 refine w_r [.p, .p, .p, .p, .p] ?_
 refine w_r [.v (.b false)] ?_
 refine zcb rfl ?_
 refine zg (o := or3) () h ?_
 exact zcy (bl 119 332327281355832619896375712321109999) 2 (by kernel_rfl) (Nat.le_of_ble_eq_true rfl) (zbf (zq (zk _ _ (Enc.clo _)) (zq (zk _ _ (Enc.clo _)) rfl))) (by dsimp only [zaa, zag, List.foldl, List.set, bz, bzc, Nat.reduceMod, Nat.reduceDiv, Nat.reduceBEq, Nat.reduceAdd]; exact (za rfl (za rfl (za rfl (za rfl (za rfl (za rfl (za rfl (za rfl (za rfl (za rfl (za rfl (za rfl (za rfl (za rfl (za rfl (za rfl (za (zai (Enc.cloL _)) (za rfl (za rfl (za rfl (za rfl (za rfl (za rfl (za rfl (za rfl (za rfl (za rfl (za rfl (za rfl (za rfl (za rfl (za rfl (za rfl (za rfl (za rfl (za rfl (za rfl (za rfl (za rfl (za rfl (za rfl (za rfl (za rfl (za rfl (za rfl (za rfl (za rfl (za rfl (za rfl (za rfl (za rfl (za rfl (za rfl (za rfl (za rfl (za rfl (za rfl (za rfl (za rfl (za rfl (za rfl (za rfl (za rfl (za rfl (za rfl (za rfl (za rfl (za rfl (za rfl (za rfl (za rfl (za rfl (za rfl (za rfl (za rfl (za rfl (za rfl (za rfl (za rfl (za rfl (za rfl (za rfl (za rfl (za rfl (za rfl (za rfl (za rfl (za rfl (za rfl (za rfl (za rfl (za rfl (za rfl (za rfl (za rfl (za rfl (za rfl (za rfl (za rfl (za rfl (za rfl (za (zai (Enc.cloL _)) (by kernel_rfl)))))))))))))))))))))))))))))))))))))))))))))))))))))))))))))))))))))))))))))))))))))))))))))))))))))))) (by kernel_rfl)
 intro j3 h
 refine zff ?_
 refine zb (k0 := 0) (id := 28) ?_
 obtain ⟨g7, h⟩ := zh h
 refine zov g7 ?_
 refine zaj ?_
 refine zaq (p := p2) ((s2 + 1)) h ?_
 exact zde (bl 119 17747127746008325455020639911439)
 refine zt h (fun h => ?_)
 refine zg (o := or2) () h ?_
 exact zde (bl 119 19342813113834066794970637)
 intro j2 h
 refine zff ?_
 refine zo [.v (.b true)] ?_
 exact zba h
end Go.Ab
