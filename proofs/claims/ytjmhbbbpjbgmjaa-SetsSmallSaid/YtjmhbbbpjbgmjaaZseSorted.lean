/-
  The order of sets, and the sort of a list of sets.
-/
import Derived.Test.YtjmhbbbpjbgmjaaZseCompare
import Derived.Test.YtjmhbbbpjbgmjaaZseShelf
import Derived.Shelf.SlSortCmp.WholeK
set_option linter.unusedSimpArgs false
set_option linter.unusedVariables false
namespace Go.Fwd
open Go Go.RowKit Go.Proofs Go.Sort
/-- What a call leaves of a world, as the sort's contract asks it. -/
theorem ex_is_grow {w w' : World} (h : Ex w.heap.size w w') : ∃ q os', w' = grow (w.drewN q) os' := by
  refine ⟨w'.drawn - w.drawn, w'.heap.extract w.heap.size w'.heap.size, ?_⟩
  have hh : w'.heap = w.heap ++ w'.heap.extract w.heap.size w'.heap.size := by
    apply Array.ext
    · have := h.size; simp; omega
    · intro i h1 h2
      by_cases hi : i < w.heap.size
      · rw [Array.getElem_append_left hi]
        have := h.block i hi
        rw [Array.getElem?_eq_getElem h1, Array.getElem?_eq_getElem hi] at this
        exact Option.some.inj this
      · rw [Array.getElem_append_right (by omega), Array.getElem_extract]
        congr 1; omega
  obtain ⟨hp, tp, dr, o, ou⟩ := w'
  obtain ⟨hp0, tp0, dr0, o0, ou0⟩ := w
  have e1 := h.os; have e2 := h.tape; have e3 := h.output; have e4 := h.drawn
  simp only at e1 e2 e3 e4 hh
  simp only [grow, World.drewN]
  rw [← hh, e1, e2, e3, show dr0 + (dr - dr0) = dr by omega]
theorem sortWorldK_ex {α : Type} [Inhabited α] (enc : α → List Value) (k : Nat) (w : World) (blk off m : Nat) (dk : Array α) (os : Array Obj) (hb : blk < w.heap.size) : Ex blk w (sortWorldK enc k w blk off m dk os) := by
  refine ⟨⟨rfl, rfl, rfl, ?_, fun j hj => ?_⟩, ?_⟩
  · simp [sortWorldK, grow, putRowK, putRow, mapBlock, Sort.ahead]
  · simp only [sortWorldK, grow, putRowK, putRow, mapBlock, Sort.ahead]
    rw [Array.getElem?_append_left (by simp; omega), Array.getElem?_modify, if_neg (by omega)]
  · simp [sortWorldK, grow, putRowK, putRow, mapBlock, Sort.ahead]
end Go.Fwd
namespace Go.Proofs.Ytjmhbbbpjbgmjaa
open Go.RowKit Go.Fwd Go.Shelf Go.Proofs Go.Sort

theorem firstOf_some {D : BS} {c : Nat} : firstOf D = some c ↔ c < 256 ∧ D.getLsbD c = true ∧ ∀ j, j < c → D.getLsbD j = false := by
  unfold firstOf bytesOf bytesTo
  rw [List.head?_filter, List.find?_range_eq_some]
  simp only [List.mem_range, Bool.not_eq_true', Bool.not_eq_eq_eq_not, Bool.not_true]
  constructor
  · rintro ⟨h1, h2, h3⟩; exact ⟨h2, h1, h3⟩
  · rintro ⟨h1, h2, h3⟩; exact ⟨h2, h1, h3⟩
theorem firstOf_none {D : BS} : firstOf D = none ↔ D = 0#256 := by
  unfold firstOf bytesOf bytesTo
  rw [List.head?_filter, List.find?_range_eq_none]
  constructor
  · intro h
    apply BitVec.eq_of_getLsbD_eq; intro j hj
    have := h j hj
    simpa using this
  · rintro rfl j _; simp
/-- A comes ahead of B: the least byte in which they part is A's. -/
def ltS (A B : BS) : Prop := ∃ c, c < 256 ∧ A.getLsbD c = true ∧ B.getLsbD c = false ∧ ∀ j, j < c → A.getLsbD j = B.getLsbD j
theorem dif_get (A B : BS) (j : Nat) (hj : j < 256) : ((A &&& ~~~B) ||| (B &&& ~~~A)).getLsbD j = (A.getLsbD j != B.getLsbD j) := by
  simp only [BitVec.getLsbD_or, BitVec.getLsbD_and, BitVec.getLsbD_not, hj, decide_true, Bool.true_and]
  cases A.getLsbD j <;> cases B.getLsbD j <;> rfl
theorem cmpS_cases (A B : BS) : (ltS A B ∧ cmpS A B = -1) ∨ (A = B ∧ cmpS A B = 0) ∨ (ltS B A ∧ cmpS A B = 1) := by
  unfold cmpS
  rcases h : firstOf ((A &&& ~~~B) ||| (B &&& ~~~A)) with _ | c
  · right; left
    refine ⟨?_, rfl⟩
    have h0 := firstOf_none.1 h
    apply BitVec.eq_of_getLsbD_eq; intro j hj
    have := dif_get A B j hj
    rw [h0] at this
    simpa using this
  · obtain ⟨hc, hd, hlt⟩ := firstOf_some.1 h
    rw [dif_get A B c hc] at hd
    have heq : ∀ j, j < c → A.getLsbD j = B.getLsbD j := fun j hj => by
      have := hlt j hj
      rw [dif_get A B j (by omega)] at this
      simpa using this
    by_cases ha : A.getLsbD c = true
    · left
      have hb : B.getLsbD c = false := by rw [ha] at hd; simpa using hd
      exact ⟨⟨c, hc, ha, hb, heq⟩, by simp [ha]⟩
    · right; right
      have ha' : A.getLsbD c = false := by simpa using ha
      have hb : B.getLsbD c = true := by rw [ha'] at hd; simpa using hd
      exact ⟨⟨c, hc, hb, ha', fun j hj => (heq j hj).symm⟩, by simp [ha']⟩
theorem ltS_irrefl (A : BS) : ¬ ltS A A := by rintro ⟨c, _, h1, h2, _⟩; rw [h1] at h2; cases h2
theorem ltS_trans {A B C : BS} (h : ltS A B) (k : ltS B C) : ltS A C := by
  obtain ⟨c, hc, h1, h2, h3⟩ := h
  obtain ⟨d, hd, k1, k2, k3⟩ := k
  rcases Nat.lt_trichotomy c d with hcd | rfl | hcd
  · exact ⟨c, hc, h1, by rw [← k3 c hcd]; exact h2, fun j hj => (h3 j hj).trans (k3 j (by omega))⟩
  · rw [h2] at k1; cases k1
  · exact ⟨d, hd, by rw [h3 d hcd]; exact k1, k2, fun j hj => (h3 j (by omega)).trans (k3 j hj)⟩
theorem cmpS_lt {A B : BS} : cmpS A B < 0 ↔ ltS A B := by
  rcases cmpS_cases A B with ⟨h, e⟩ | ⟨h, e⟩ | ⟨h, e⟩
  · simp [e, h]
  · subst h; simp [e, ltS_irrefl]
  · rw [e]; constructor
    · intro h; omega
    · intro k; exact absurd (ltS_trans h k) (ltS_irrefl _)
theorem cmpS_le {A B : BS} : ltOf cmpS A B = false ↔ (A = B ∨ ltS B A) := by
  unfold ltOf
  simp only [decide_eq_false_iff_not]
  rcases cmpS_cases A B with ⟨h, e⟩ | ⟨h, e⟩ | ⟨h, e⟩
  · rw [e]; constructor
    · intro h; omega
    · rintro (rfl | k)
      · exact absurd h (ltS_irrefl _)
      · exact absurd (ltS_trans h k) (ltS_irrefl _)
  · subst h; rw [e]; simp
  · simp [e, h]
theorem swoS : SWO (ltOf cmpS) where
  irrefl x := cmpS_le.2 (.inl rfl)
  trans x y z h k := by
    simp only [ltOf, decide_eq_true_eq, cmpS_lt] at *
    exact ltS_trans h k
  ntrans x y z h k := by
    rw [cmpS_le] at *
    rcases h with rfl | h
    · exact k
    · rcases k with rfl | k
      · exact .inr h
      · exact .inr (ltS_trans k h)
theorem antiS (x y : BS) (h : ltOf cmpS x y = false) (k : ltOf cmpS y x = false) : x = y := by
  rw [cmpS_le] at *
  rcases h with h | h
  · exact h
  · rcases k with k | k
    · exact k.symm
    · exact absurd (ltS_trans h k) (ltS_irrefl _)

/-- The cells of a list of sets. -/
def setC (L : List BS) : List Value := L.flatMap fun S => (sc S).toList
theorem setC_app (A B : List BS) : setC (A ++ B) = setC A ++ setC B := by simp [setC]
theorem setC_len (L : List BS) : (setC L).length = L.length * 4 := by
  induction L with
  | nil => rfl
  | cons x l ih => rw [show x :: l = [x] ++ l from rfl, setC_app, List.length_append, ih]; simp [setC, sc]; omega
theorem setC_get (L : List BS) (j i : Nat) (S : BS) (h : L[j]? = some S) (hi : i < 4) : (setC L)[j * 4 + i]? = some (.int .u64 (wd S i)) := by
  induction L generalizing j with
  | nil => simp at h
  | cons x l ih =>
    cases j with
    | zero =>
      obtain rfl : x = S := by simpa using h
      have e : setC (x :: l) = (sc x).toList ++ setC l := by simp [setC]
      rw [e, List.getElem?_append_left (by simp [sc]; omega), Nat.zero_mul, Nat.zero_add, Array.getElem?_toList]
      exact sc_get x i hi
    | succ j =>
      have e : setC (x :: l) = (sc x).toList ++ setC l := by simp [setC]
      rw [e, List.getElem?_append_right (by simp [sc]; omega)]
      have : (j + 1) * 4 + i - (sc x).toList.length = j * 4 + i := by simp [sc]; omega
      rw [this]
      exact ih j (by simpa using h)
/-- A list of sets in order. -/
def sortS (L : List BS) : List BS := L.mergeSort fun x y => !(ltOf cmpS) y x
theorem sortS_perm (L : List BS) : (sortS L).Perm L := List.mergeSort_perm _ _
theorem sortS_len (L : List BS) : (sortS L).length = L.length := (sortS_perm L).length_eq
theorem sortS_sorted (L : List BS) : (sortS L).Pairwise fun x y => x = y ∨ ltS x y := by
  have h := List.pairwise_mergeSort (le := fun x y => !(ltOf cmpS) y x) ?_ ?_ L
  · refine h.imp ?_
    intro a b hab
    have : ltOf cmpS b a = false := by simpa using hab
    rcases cmpS_le.1 this with h | h
    · exact .inl h.symm
    · exact .inr h
  · intro a b c h1 h2
    have h1' : ltOf cmpS b a = false := by simpa using h1
    have h2' : ltOf cmpS c b = false := by simpa using h2
    simpa using swoS.ntrans _ _ _ h2' h1'
  · intro a b
    have h : ltOf cmpS b a = false ∨ ltOf cmpS a b = false := by
      rcases cmpS_cases a b with ⟨h, _⟩ | ⟨h, _⟩ | ⟨h, _⟩
      · exact .inl (cmpS_le.2 (.inr h))
      · exact .inl (cmpS_le.2 (.inl h.symm))
      · exact .inr (cmpS_le.2 (.inr h))
    rcases h with h | h <;> simp [h]
/-- The only one: a sorted list with the same sets. -/
theorem sortS_unique {L M : List BS} (hp : M.Perm L) (hs : M.Pairwise fun x y => x = y ∨ ltS x y) : sortS L = M := by
  refine List.Perm.eq_of_pairwise (le := fun x y => x = y ∨ ltS x y) ?_ (sortS_sorted L) hs ((sortS_perm L).trans hp.symm)
  rintro a b _ _ (h | h) (k | k)
  · exact h
  · exact h
  · exact k.symm
  · exact absurd (ltS_trans h k) (ltS_irrefl _)

theorem ent11 : ∀ args w, (callFunc 11 args).run Try.prog w = .ok (.enter 11 args) w := enters_of Try.func11 (by kernel_rfl) rfl
theorem lays11 (blk off size : Nat) (w : World) : CmpLays Try.prog 11 #[] (fun S : BS => (sc S).toList) 4 cmpS blk off size w := fun m os dk _ x y =>
  (compare_any x y _).mono fun e w' ⟨h, hb⟩ => ⟨h, ex_is_grow hb⟩
theorem holds_of_owns {w : World} {base : Nat} {g cap : Nat} {L : List BS} (h : w.ownsRow base 24 4 (.slice (some ⟨g, 0, none⟩) L.length cap) L.length (setC L)) : HoldsK (fun S : BS => (sc S).toList) 4 w g 0 L.toArray := by
  intro j hj
  rw [size_flatK] at hj
  have hjl : j / 4 < L.length := by simp at hj; omega
  refine ⟨?_, h.frozenAt (0 + j)⟩
  rw [get_flatK _ _ _ _ hj]
  have := h.cellAt j (by simpa using hj)
  rw [Nat.zero_add, this]
  have e := setC_get L (j / 4) (j % 4) L[j / 4] (by simp [hjl]) (Nat.mod_lt _ (by omega))
  rw [show j / 4 * 4 + j % 4 = j by omega] at e
  rw [e]
  have e2 := sc_get L[j / 4] (j % 4) (Nat.mod_lt _ (by omega))
  have hs4 : (sc L[j / 4]).size = 4 := rfl
  simp [hjl]
  rw [e2]; rfl
theorem slAt_of_holds {w : World} {g cap : Nat} {L : List BS} (hg : g < w.heap.size) (h : HoldsK (fun S : BS => (sc S).toList) 4 w g 0 L.toArray) : SlAt L.length (setC L) (.slice (some ⟨g, 0, none⟩) L.length cap) w := by
  refine .inr ⟨g, 0, cap, rfl, hg, fun j x hx => ?_⟩
  have hj : j < L.length * 4 := by
    have := (List.getElem?_eq_some_iff.1 hx).1
    rwa [setC_len] at this
  have hjl : j / 4 < L.length := by omega
  have := (h j (by rw [size_flatK]; simpa using hj)).1
  rw [get_flatK _ _ _ _ (by simpa using hj)] at this
  rw [this]
  have e := setC_get L (j / 4) (j % 4) L[j / 4] (by simp [hjl]) (Nat.mod_lt _ (by omega))
  rw [show j / 4 * 4 + j % 4 = j by omega, hx] at e
  rw [e]
  have e2 := sc_get L[j / 4] (j % 4) (Nat.mod_lt _ (by omega))
  have hs4 : (sc L[j / 4]).size = 4 := rfl
  simp [hjl]
  rw [e2]; rfl

/-- **slices.SortFunc of a list of sets by Compare.** -/
theorem sort_any (L : List BS) (base g cap : Nat) (w : World) (hsz : L.length < 4611686018427387904) (h : w.ownsRow base 24 4 (.slice (some ⟨g, 0, none⟩) L.length cap) L.length (setC L)) (hg : g < w.heap.size) :
    Calls Try.prog 48 #[.slice (some ⟨g, 0, none⟩) L.length cap, .func (.func 11) #[] #[]] w fun e w' =>
      e = .returned (.tuple #[]) ∧ Ex g w w' ∧ SlAt L.length (setC (sortS L)) (.slice (some ⟨g, 0, none⟩) L.length cap) w' := by
  have hH := holds_of_owns h
  refine (AnyQ.slices_SortFunc Try.sortL 4 Try.isAgg24 Try.sizeOf24 (fun S : BS => (sc S).toList) (fun S => rfl) (fun S => ?_) cmpS swoS 11 #[] g 0 cap L.toArray w ent11 (lays11 _ _ _ _) hH hg (by simpa using hsz)).mono ?_
  · intro v hv
    have := sc_one S
    simp only [Array.all_eq_true'] at this
    exact this v (by simpa using hv)
  · rintro e w' ⟨rfl, d', n, os, hp, hs, rfl⟩
    refine ⟨rfl, sortWorldK_ex _ _ _ _ _ _ _ _ hg, ?_⟩
    have hl : d'.size = L.length := by simpa using hp.1
    have e1 : sortS L = d'.toList := by
      have := sorted_unique_holds swoS antiS L.toArray d' hp hs
      rw [this]; simp [sortS]
    rw [e1]
    have hh := holdsK_sortWorldK_c (fun S : BS => (sc S).toList) 4 w g 0 L.toArray d' n os hH hg (by simpa using hl)
    have := slAt_of_holds (cap := cap) (L := d'.toList) (Nat.lt_of_lt_of_le hg (size_sortWorldK_c _ _ _ _ _ _ _ _)) hh
    rw [show d'.toList.length = L.length by simpa using hl] at this
    exact this
end Go.Proofs.Ytjmhbbbpjbgmjaa
