/-
  Plain: the order of sets and of trees.
-/
import Derived.Test.YtaocggpaiafeeaaZrxCm
set_option linter.unusedSimpArgs false
set_option linter.unusedVariables false
namespace Go.Ab
open Go Go.RowKit Go.Fwd Go.Proofs

def cmpI (x y : Int) : Int := if x < y then -1 else if x > y then 1 else 0
/-- Compare bits by bits. -/
def cmpB (p q : Nat → Bool) : List Nat → Int
  | [] => 0
  | j :: l => if p j = q j then cmpB p q l else if p j = true then -1 else 1
def cmpS (s t : BS) : Int := cmpB s.getLsbD t.getLsbD (List.range 256)
theorem cmpB_anti (p q : Nat → Bool) : ∀ l, cmpB p q l = - cmpB q p l
  | [] => rfl
  | j :: l => by
    rw [cmpB, cmpB]
    by_cases h : p j = q j
    · rw [if_pos h, if_pos h.symm, cmpB_anti p q l]
    · rw [if_neg h, if_neg (Ne.symm h)]
      cases hp : p j <;> cases hq : q j <;> simp_all
theorem cmpB_range (p q : Nat → Bool) : ∀ l, cmpB p q l = -1 ∨ cmpB p q l = 0 ∨ cmpB p q l = 1
  | [] => .inr (.inl rfl)
  | j :: l => by
    rw [cmpB]
    split
    · exact cmpB_range p q l
    · split
      · exact .inl rfl
      · exact .inr (.inr rfl)
theorem cmpB_zero (p q : Nat → Bool) : ∀ l, cmpB p q l = 0 ↔ ∀ j ∈ l, p j = q j
  | [] => by simp [cmpB]
  | j :: l => by
    rw [cmpB]
    by_cases h : p j = q j
    · rw [if_pos h, cmpB_zero p q l]; simp [h]
    · rw [if_neg h]
      constructor
      · intro e; split at e <;> simp at e
      · intro e; exact absurd (e j (by simp)) h
theorem cmpB_trans (p q r : Nat → Bool) : ∀ l, cmpB p q l ≤ 0 → cmpB q r l ≤ 0 → cmpB p r l ≤ 0
  | [], _, _ => by simp [cmpB]
  | j :: l, h1, h2 => by
    rw [cmpB] at h1 h2 ⊢
    have ih := cmpB_trans p q r l
    cases hp : p j <;> cases hq : q j <;> cases hr : r j <;> simp [hp, hq, hr] at h1 h2 ⊢ <;> first | exact ih h1 h2 | skip
theorem cmpS_zero (s t : BS) : cmpS s t = 0 ↔ s = t := by
  rw [cmpS, cmpB_zero]
  constructor
  · intro h; apply BitVec.eq_of_getLsbD_eq; intro j hj; exact h j (List.mem_range.2 hj)
  · rintro rfl j _; rfl
/-- What the program says of two sets. -/
theorem elN_nil {s : BS} {i : Nat} : elN s i = [] ↔ ∀ j, j < i → s.getLsbD j = false := by
  rw [elN, List.filter_eq_nil_iff]; simp
theorem cmpB_first (p q : Nat → Bool) (d : Nat → Bool) (l : List Nat) (hd : ∀ j ∈ l, d j = (p j != q j)) : cmpB p q l = (match l.filter d with | [] => 0 | c :: _ => if p c = true then -1 else 1) := by
  induction l with
  | nil => rfl
  | cons j l ih =>
    have h := hd j (by simp)
    rw [cmpB, List.filter_cons]
    by_cases e : p j = q j
    · rw [if_pos e, if_neg (by rw [h, e]; simp)]
      exact ih fun k hk => hd k (by simp [hk])
    · have hb : d j = true := by rw [h]; simpa using e
      rw [if_neg e, hb]; rfl
def thenC (c d : Int) : Int := if c ≠ 0 then c else d
def mostN (mx : Int) : Int := if mx = -1 then 9223372036854775807 else mx
mutual
def cmpT : Tr → Tr → Int
  | .mk k s mn mx l, .mk k' s' mn' mx' l' => if k ≠ k' then cmpI k k' else if k = 2 then cmpS s s' else if k = 5 then thenC (thenC (cmpI mn mn') (cmpI (mostN mx) (mostN mx'))) (cmpL l l') else if k = 0 ∨ k = 1 then 0 else cmpL l l'
def cmpL : List Tr → List Tr → Int
  | [], [] => 0
  | [], _ :: _ => -1
  | _ :: _, [] => 1
  | x :: a, y :: b => thenC (cmpT x y) (cmpL a b)
end
theorem cmpI_anti (x y : Int) : cmpI x y = - cmpI y x := by unfold cmpI; split <;> split <;> (try split) <;> omega
theorem cmpI_range (x y : Int) : cmpI x y = -1 ∨ cmpI x y = 0 ∨ cmpI x y = 1 := by unfold cmpI; split <;> (try split) <;> simp
theorem cmpI_zero (x y : Int) : cmpI x y = 0 ↔ x = y := by unfold cmpI; split <;> (try split) <;> omega
theorem cmpI_neg (x y : Int) : cmpI x y < 0 ↔ x < y := by unfold cmpI; split <;> (try split) <;> omega
theorem cmpI_le (x y : Int) : cmpI x y ≤ 0 ↔ x ≤ y := by unfold cmpI; split <;> (try split) <;> omega
theorem thenC_range {c d : Int} (h : c = -1 ∨ c = 0 ∨ c = 1) (k : d = -1 ∨ d = 0 ∨ d = 1) : thenC c d = -1 ∨ thenC c d = 0 ∨ thenC c d = 1 := by unfold thenC; split <;> assumption
theorem thenC_anti {c d c' d' : Int} (h : c = -c') (k : d = -d') : thenC c d = - thenC c' d' := by unfold thenC; split <;> split <;> omega
theorem thenC_zero {c d : Int} : thenC c d = 0 ↔ c = 0 ∧ d = 0 := by unfold thenC; split <;> omega
theorem thenI_trans {m m' m'' d d' d'' : Int} (h : d ≤ 0 → d' ≤ 0 → d'' ≤ 0) : thenC (cmpI m m') d ≤ 0 → thenC (cmpI m' m'') d' ≤ 0 → thenC (cmpI m m'') d'' ≤ 0 := by
  unfold thenC cmpI
  repeat' split
  all_goals first | omega | (intro h1 h2; first | omega | exact h h1 h2)
/-- Steps of a lexical order by a comparator that is one. -/
theorem thenT_trans {xy yx yz zy xz zx d d' d'' : Int} (a1 : xy = -yx) (a2 : yz = -zy) (a3 : xz = -zx) (t1 : xy ≤ 0 → yz ≤ 0 → xz ≤ 0) (t2 : yz ≤ 0 → zx ≤ 0 → yx ≤ 0) (t3 : zx ≤ 0 → xy ≤ 0 → zy ≤ 0) (h : d ≤ 0 → d' ≤ 0 → d'' ≤ 0) :
    thenC xy d ≤ 0 → thenC yz d' ≤ 0 → thenC xz d'' ≤ 0 := by
  unfold thenC
  intro h1 h2
  split at h1 <;> split at h2 <;> split <;> first | omega | exact h h1 h2
def SetG (S : Tr → Prop) : Prop := (∀ x y, S x → S y → cmpT x y = - cmpT y x) ∧ (∀ x y z, S x → S y → S z → cmpT x y ≤ 0 → cmpT y z ≤ 0 → cmpT x z ≤ 0)
theorem cmpL_anti {S : Tr → Prop} (g : SetG S) : ∀ a b, (∀ x ∈ a, S x) → (∀ x ∈ b, S x) → cmpL a b = - cmpL b a
  | [], [], _, _ => by simp [cmpL]
  | [], _ :: _, _, _ => by simp [cmpL]
  | _ :: _, [], _, _ => by simp [cmpL]
  | x :: a, y :: b, ha, hb => by
    rw [cmpL, cmpL]
    exact thenC_anti (g.1 x y (ha x (by simp)) (hb y (by simp))) (cmpL_anti g a b (fun z hz => ha z (by simp [hz])) (fun z hz => hb z (by simp [hz])))
theorem cmpL_trans {S : Tr → Prop} (g : SetG S) : ∀ a b c, (∀ x ∈ a, S x) → (∀ x ∈ b, S x) → (∀ x ∈ c, S x) → cmpL a b ≤ 0 → cmpL b c ≤ 0 → cmpL a c ≤ 0
  | [], b, [], _, _, _ => by intros; simp [cmpL]
  | [], b, _ :: _, _, _, _ => by intros; simp [cmpL]
  | x :: a, [], c, _, _, _ => by intro h; simp [cmpL] at h
  | x :: a, y :: b, [], _, _, _ => by intro _ h; simp [cmpL] at h
  | x :: a, y :: b, z :: c, ha, hb, hc => by
    rw [cmpL, cmpL, cmpL]
    have sx := ha x (by simp); have sy := hb y (by simp); have sz := hc z (by simp)
    exact thenT_trans (g.1 x y sx sy) (g.1 y z sy sz) (g.1 x z sx sz) (g.2 x y z sx sy sz) (fun h1 h2 => g.2 y z x sy sz sx h1 h2) (fun h1 h2 => g.2 z x y sz sx sy h1 h2)
      (cmpL_trans g a b c (fun w hw => ha w (by simp [hw])) (fun w hw => hb w (by simp [hw])) (fun w hw => hc w (by simp [hw])))
theorem cmp_set : ∀ n, SetG fun t => (pre t).length ≤ n
  | 0 => ⟨fun x y h => by have h : (pre x).length ≤ 0 := h; rw [pre_eq] at h; simp at h, fun x y z h => by have h : (pre x).length ≤ 0 := h; rw [pre_eq] at h; simp at h⟩
  | n + 1 => by
    have g := cmp_set n
    have sub : ∀ t : Tr, (pre t).length ≤ n + 1 → ∀ x ∈ t.l, (pre x).length ≤ n := fun t h x hx => by
      have h1 := pre_le_preL hx
      rw [pre_eq] at h; simp at h; omega
    constructor
    · rintro ⟨k, s, mn, mx, l⟩ ⟨k', s', mn', mx', l'⟩ h1 h2
      have s1 := sub _ h1
      have s2 := sub _ h2
      simp only [Tr.l] at s1 s2
      have hl := cmpL_anti g l l' s1 s2
      rw [cmpT, cmpT]
      by_cases e : k = k'
      · subst e
        simp only [ne_eq, not_true_eq_false, if_false]
        split
        · exact cmpB_anti _ _ _
        split
        · exact thenC_anti (thenC_anti (cmpI_anti _ _) (cmpI_anti _ _)) hl
        split
        · rfl
        · exact hl
      · rw [if_pos e, if_pos (Ne.symm e)]; exact cmpI_anti _ _
    · rintro ⟨k, s, mn, mx, l⟩ ⟨k', s', mn', mx', l'⟩ ⟨k'', s'', mn'', mx'', l''⟩ h1 h2 h3
      have s1 := sub _ h1
      have s2 := sub _ h2
      have s3 := sub _ h3
      simp only [Tr.l] at s1 s2 s3
      have hl := cmpL_trans g l l' l'' s1 s2 s3
      rw [cmpT, cmpT, cmpT]
      by_cases e : k = k'
      · subst e
        by_cases e2 : k = k''
        · subst e2
          simp only [ne_eq, not_true_eq_false, if_false]
          split
          · exact cmpB_trans _ _ _ _
          split
          · rename_i h5
            have key : ∀ (a b c a' b' c' : Int) (d d' d'' : Int), (d ≤ 0 → d' ≤ 0 → d'' ≤ 0) → thenC (thenC (cmpI a b) (cmpI a' b')) d ≤ 0 → thenC (thenC (cmpI b c) (cmpI b' c')) d' ≤ 0 → thenC (thenC (cmpI a c) (cmpI a' c')) d'' ≤ 0 := by
              intro a b c a' b' c' d d' d'' h
              have asc : ∀ x y z : Int, thenC (thenC x y) z = thenC x (thenC y z) := fun x y z => by
                unfold thenC
                by_cases hx : x = 0
                · simp [hx]
                · simp [hx]
              rw [asc, asc, asc]
              exact thenI_trans (thenI_trans h)
            exact key _ _ _ _ _ _ _ _ _ hl
          split
          · intros; omega
          · exact hl
        · intro _ h
          rw [if_pos (by simpa using e2)] at h ⊢
          rw [cmpI_le] at h ⊢; exact h
      · rw [if_pos (show k ≠ k' from e)]
        intro h
        rw [cmpI_le] at h
        by_cases e2 : k' = k''
        · subst e2
          intro _
          rw [if_pos (show k ≠ k' from e)]
          rw [cmpI_le]; exact h
        · rw [if_pos (show k' ≠ k'' from e2)]
          intro h'
          rw [cmpI_le] at h'
          rw [if_pos (show k ≠ k'' by omega), cmpI_le]; omega
theorem cmp_anti (x y : Tr) : cmpT x y = - cmpT y x := (cmp_set (max (pre x).length (pre y).length)).1 x y (Nat.le_max_left _ _) (Nat.le_max_right _ _)
theorem cmp_trans (x y z : Tr) : cmpT x y ≤ 0 → cmpT y z ≤ 0 → cmpT x z ≤ 0 := (cmp_set ((pre x).length + (pre y).length + (pre z).length)).2 x y z (by omega) (by omega) (by omega)
theorem cmp_self (x : Tr) : cmpT x x = 0 := by have := cmp_anti x x; omega
mutual
theorem cmpT_range : ∀ x y, cmpT x y = -1 ∨ cmpT x y = 0 ∨ cmpT x y = 1
  | .mk k s mn mx l, .mk k' s' mn' mx' l' => by
    rw [cmpT]
    have hl := cmpL_range l l'
    split
    · exact cmpI_range _ _
    split
    · exact cmpB_range _ _ _
    split
    · exact thenC_range (thenC_range (cmpI_range _ _) (cmpI_range _ _)) hl
    split
    · exact .inr (.inl rfl)
    · exact hl
theorem cmpL_range : ∀ a b, cmpL a b = -1 ∨ cmpL a b = 0 ∨ cmpL a b = 1
  | [], [] => by simp [cmpL]
  | [], _ :: _ => by simp [cmpL]
  | _ :: _, [] => by simp [cmpL]
  | x :: a, y :: b => by rw [cmpL]; exact thenC_range (cmpT_range x y) (cmpL_range a b)
end
theorem norm_of {k : Nat} {s : BS} {mn mx : Int} {l : List Tr} (h : rightT (.mk k s mn mx l) = true) : (k ≠ 2 → s = 0#256) ∧ (k ≠ 5 → mn = 0 ∧ mx = 0) ∧ (k < 3 → l = []) ∧ (k = 5 → mx = -1 ∨ (1 ≤ mx ∧ mx ≤ 16)) := by
  have hk := right_k h
  simp only [Tr.k] at hk
  rw [rightT_mk, Bool.and_eq_true, oddT_mk] at h
  obtain ⟨h1, h2⟩ := h
  simp only [Bool.not_eq_true', Bool.or_eq_false_iff, Bool.and_eq_false_iff] at h1
  obtain ⟨⟨a, b⟩, c⟩ := h1
  refine ⟨fun h => ?_, fun h => ?_, fun h => ?_, fun h => ?_⟩
  · rcases a with a | a
    · simp at a; omega
    · simpa using a
  · rcases b with b | b
    · simp at b; omega
    · simp at b; exact b
  · rcases c with c | c
    · simp at c; omega
    · cases l with
      | nil => rfl
      | cons x l => simp at c
  · subst h
    simp [boundsT] at h2
    have := h2.1.2
    omega
mutual
theorem cmpT_eq : ∀ x y, CR x → CR y → cmpT x y = 0 → x = y
  | .mk k s mn mx l, .mk k' s' mn' mx' l', hx, hy, h => by
    rw [CR_iff] at hx hy
    simp only [Tr.l] at hx hy
    obtain ⟨a1, a2, a3, a4⟩ := norm_of hx.1
    obtain ⟨b1, b2, b3, b4⟩ := norm_of hy.1
    have hk := right_k hx.1
    simp only [Tr.k] at hk
    rw [cmpT] at h
    by_cases e : k = k'
    · subst e
      simp only [ne_eq, not_true_eq_false, if_false] at h
      split at h
      · rename_i h2
        rw [(cmpS_zero s s').1 h, (a2 (by omega)).1, (a2 (by omega)).2, (b2 (by omega)).1, (b2 (by omega)).2, a3 (by omega), b3 (by omega)]
      split at h
      · rename_i h2 h5
        rw [thenC_zero, thenC_zero, cmpI_zero, cmpI_zero] at h
        have a5 := a4 h5
        have b5 := b4 h5
        have hm : mx = mx' := by
          have := h.1.2
          unfold mostN at this
          split at this <;> split at this <;> omega
        rw [a1 h2, b1 h2, h.1.1, hm, cmpL_eq l l' hx.2 hy.2 h.2]
      split at h
      · rename_i h2 h5 h0
        rw [a1 h2, b1 h2, (a2 h5).1, (a2 h5).2, (b2 h5).1, (b2 h5).2, a3 (by omega), b3 (by omega)]
      · rename_i h2 h5 h0
        rw [a1 h2, b1 h2, (a2 h5).1, (a2 h5).2, (b2 h5).1, (b2 h5).2, cmpL_eq l l' hx.2 hy.2 h]
    · rw [if_pos e, cmpI_zero] at h; omega
theorem cmpL_eq : ∀ a b, CRL a → CRL b → cmpL a b = 0 → a = b
  | [], [], _, _, _ => rfl
  | [], _ :: _, _, _, h => by simp [cmpL] at h
  | _ :: _, [], _, _, h => by simp [cmpL] at h
  | x :: a, y :: b, ha, hb, h => by
    rw [CRL_cons] at ha hb
    rw [cmpL, thenC_zero] at h
    rw [cmpT_eq x y ha.1 hb.1 h.1, cmpL_eq a b ha.2 hb.2 h.2]
end
theorem cmpL_self : ∀ a, cmpL a a = 0
  | [] => by simp [cmpL]
  | x :: a => by rw [cmpL, thenC_zero]; exact ⟨cmp_self x, cmpL_self a⟩
theorem cmpL_more : ∀ (a : List Tr) (z : Tr), cmpL a (a ++ [z]) = -1
  | [], z => by simp [cmpL]
  | x :: a, z => by rw [List.cons_append, cmpL, thenC, if_neg (by rw [cmp_self]; simp)]; exact cmpL_more a z
end Go.Ab
