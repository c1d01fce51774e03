/-
  The contract of sets.Spans.
-/
import Derived.Test.YtjmhbbbpjbgmjaaZseBytes
set_option linter.unusedSimpArgs false
set_option linter.unusedVariables false
namespace Go.Proofs.Ytjmhbbbpjbgmjaa
open Go.RowKit Go.Fwd Go.Shelf
attribute [local go_sem] Oper.semAt_some

/-- One byte more: it belongs to the last span, or begins one. -/
def addB (L : List (Nat × Nat)) (c : Nat) : List (Nat × Nat) :=
  match L.getLast? with
  | some (lo, hi) => if hi = (c + 255) % 256 then L.dropLast ++ [(lo, c)] else L ++ [(c, c)]
  | none => [(c, c)]
def spansB (l : List Nat) : List (Nat × Nat) := l.foldl addB []
def spansOf (S : BS) : List (Nat × Nat) := spansB (bytesOf S)
def spc (L : List (Nat × Nat)) : List Value := L.flatMap fun p => [.int .u8 (p.1 : Int), .int .u8 (p.2 : Int)]
theorem spc_app (A B : List (Nat × Nat)) : spc (A ++ B) = spc A ++ spc B := by simp [spc]
theorem spc_len (A : List (Nat × Nat)) : (spc A).length = 2 * A.length := by
  induction A with
  | nil => rfl
  | cons x l ih => rw [show x :: l = [x] ++ l from rfl, spc_app, List.length_append, ih]; simp [spc]; omega
theorem spansB_snoc (l : List Nat) (c : Nat) : spansB (l ++ [c]) = addB (spansB l) c := by simp [spansB]
theorem addB_nil (c : Nat) : addB [] c = [(c, c)] := rfl
theorem addB_hit (L : List (Nat × Nat)) (lo hi c : Nat) (h : hi = (c + 255) % 256) : addB (L ++ [(lo, hi)]) c = L ++ [(lo, c)] := by simp [addB, h]
theorem addB_miss (L : List (Nat × Nat)) (lo hi c : Nat) (h : ¬ hi = (c + 255) % 256) : addB (L ++ [(lo, hi)]) c = L ++ [(lo, hi)] ++ [(c, c)] := by simp [addB, h]
theorem addB_len (L : List (Nat × Nat)) (c : Nat) : (addB L c).length ≤ L.length + 1 := by
  rcases List.eq_nil_or_concat L with rfl | ⟨A, p, rfl⟩
  · simp [addB]
  · obtain ⟨lo, hi⟩ := p
    rw [List.concat_eq_append]
    by_cases h : hi = (c + 255) % 256
    · rw [addB_hit _ _ _ _ h]; simp
    · rw [addB_miss _ _ _ _ h]; simp
theorem spansB_len (l : List Nat) : (spansB l).length ≤ l.length := by
  suffices ∀ (l : List Nat) (L : List (Nat × Nat)), (l.foldl addB L).length ≤ L.length + l.length by simpa [spansB] using this l []
  intro l
  induction l with
  | nil => intro L; simp
  | cons c l ih => intro L; rw [List.foldl_cons]; have := ih (addB L c); have := addB_len L c; simp; omega

section
variable {P : Program} {b : Frame} {a : Act} {k : List Item} {cs : List Frame} {w : World} {Q : Exit → Act → World → Prop} {F : Fence} {n : Nat}
theorem stepR_scope {c : Code} : step P (lone (b.atR a (.code (.scope c) :: k)) cs w) = .next (lone (b.atR a (.code c :: .inScope c :: k)) cs w) :=
  step_lone_go (by simp [stepG, stepG.exec, Frame.atR])
theorem stepR_inScope {c : Code} : step P (lone (b.atR a (.inScope c :: k)) cs w) = .next (lone (b.atR a k) cs w) :=
  step_lone_go (by simp [stepG, stepG.exec, Frame.atR])
/-- A scope whose labels no goto asks for, in a fence. -/
theorem wpIn_scope_straight {c : Code} (h : c.wpIn F n P (Exit.noGoto Q) a w) : (Code.scope c).wpIn F n P Q a w := by
  intro b k cs hro hb hr
  have h0 : (lone (b.atR a (.code (.scope c) :: k)) cs w).fenced P F := fenced_calm hb hr rfl
  obtain ⟨e, a₁, w₁, hq, harr⟩ := h b (.inScope c :: k) cs hro hb hr
  cases e with
  | normal => exact ⟨.normal, a₁, w₁, hq, .head h0 stepR_scope (StepsIn.trans harr (.one (fenced_calm hb hr rfl) stepR_inScope))⟩
  | exit id =>
    have hx : exitTo id (.inScope c :: k) = exitTo id k := by simp [exitTo]
    exact ⟨.exit id, a₁, w₁, hq, fun k' hk => .head h0 stepR_scope (harr.1 k' (by rw [hx]; exact hk)),
      fun hr' hk => let ⟨k₁, h1, h2⟩ := harr.2 hr' (by rw [hx]; exact hk); ⟨k₁, h1, .head h0 stepR_scope h2⟩⟩
  | goto l => exact hq.elim
  | ret => exact ⟨_, a₁, w₁, hq, .of_steps (.one h0 stepR_scope) harr⟩
  | panic ch => exact ⟨_, a₁, w₁, hq, .of_steps (.one h0 stepR_scope) harr⟩
  | outgrown => exact ⟨_, a₁, w₁, hq, .of_steps (.one h0 stepR_scope) harr⟩
end

theorem info49 : (Try.prog.info? 49).map (fun i => (i.zero, i.size, i.bytes)) = some (some (.agg #[.int .u8 0, .int .u8 0]), 2, 2) := by kernel_rfl

set_option maxRecDepth 100000 in
set_option maxHeartbeats 2000000 in
theorem spans_any (S : BS) (w : World) : Calls Try.prog 27 #[sv S] w (RetV (SlAt (spansOf S).length (spc (spansOf S))) w) := by
  refine (callsIn_wide (n := 3)).1 ?_
  have hw1 : ∀ f, Fence.wide.fn f := fun _ => trivial
  have hw2 : Fence.wide.depth = none := rfl
  obtain ⟨i0, hi0, hz0, hz1, hz2⟩ := info_parts info49
  refine callsIn_of_wp_marks Try.func27 rfl trivial ?_ rfl
  simp only [Try.ntmps27, List.size_toArray, List.length_cons, List.length_nil, Nat.reduceAdd, Nat.reduceSub, Array.replicate_succ, Array.replicate_zero, List.push_toArray, List.append_toArray, List.nil_append, List.cons_append]
  unfold sv
  gi_wp2
  refine wpIn_scope_straight ?_
  gi_wp2
  refine wpIn_label ?_
  gi_wp2_with (gi_at_call 47; refine (callsIn_wide.2 (alls_any S _)).mono ?_; rintro e w' ⟨rfl, rfl⟩)
  obtain ⟨w1, hw1e⟩ : ∃ w1, w1 = (((w.alloc (.cells #[.int .u64 (wd S 0), .int .u64 (wd S 1), .int .u64 (wd S 2), .int .u64 (wd S 3)] 24)).alloc (.cells #[.slice none 0 0] 42)).alloc (.cells (sc S) 24)) := ⟨_, rfl⟩
  have hB0 : Ex w.heap.size w w1 := by rw [hw1e]; exact (((Ex.refl _ w).alloc (Nat.le_refl _) _).alloc (by simp) _).alloc (by simp; omega) _
  have hb1 : Boxed w1 (w.heap.size + 1) 42 (.slice none 0 0) := by rw [hw1e]; exact (Below.heap_alloc _ _ _ (by simp)).trans (heap_new _ _ _ (by simp))
  have hrs : w1.heap[w.heap.size + 1 + 1]? = some (.cells (sc S) 24 (0, 0)) := by rw [hw1e]; exact heap_new _ _ _ (by simp)
  have hs0 := alls_iter (w.heap.size + 1 + 1) S w1 hrs
  have hsz : w1.heap.size = w.heap.size + 3 := by rw [hw1e]; simp
  show Code.wpIn _ _ _ _ _ _ (((w.alloc (.cells #[.int .u64 (wd S 0), .int .u64 (wd S 1), .int .u64 (wd S 2), .int .u64 (wd S 3)] 24)).alloc (.cells #[.slice none 0 0] 42)).alloc (.cells (sc S) 24))
  rw [← hw1e]
  clear hw1e
  refine range_law1 rfl ent51 hs0 (fun _ => rfl) (fun _ => rfl) keepsBlk_t (keepsBlk_T (by omega))
    (fun pre W => (∃ v, Boxed W (w.heap.size + 1) 42 v ∧ W.ownsRow w.heap.size 49 2 v (spansB pre).length (spc (spansB pre))) ∧ (W.heap[w.heap.size + 1 + 1]? = some (.cells (sc S) 24 (0, 0)) ∧ Ex w.heap.size w W))
    (fun _ _ _ => False)
    (Stable.and (stable_boxowns _ _ _ _ _ _ _) (Stable.and (stable_row _ _ _ _ _) (stable_ex (by omega) (Nat.le_refl _))))
    (fun _ => stable_false _)
    ⟨⟨_, hb1, World.ownsRow_nil _ _ _ _⟩, hrs, hB0⟩
    ?a1 ?assign ?body ?done ?stop
  case assign =>
    intro l x W K hK
    gi_wp2
    exact hK
  case body =>
    rintro l pre x W hl hr ⟨⟨v, hv, hrow⟩, hset, hB⟩ hsp
    have hc := hv.cell
    have hx : x < 256 := by
      have : x ∈ bytesOf S := hsp.subset (by simp)
      simp [bytesOf, bytesTo] at this; exact this.1
    have hlen : pre.length + 1 ≤ 256 := by have := hsp.length_le; have := bytesTo_len S 256; simp [bytesOf] at *; omega
    have hsn := spansB_snoc pre x
    have hln := spansB_len pre
    generalize hL : spansB pre = L at *
    have HS := Lib.hid hsn
    have HL := Lib.hid hL
    clear hsn hL
    obtain ⟨a, cap, rfl⟩ := owns_slice hrow
    rcases List.eq_nil_or_concat L with rfl | ⟨A, p, hp⟩
    · have HM1 : ([] : List (Nat × Nat)).length + 1 ≤ maxLen := by simp [maxLen]
      have HM2 : (([] : List (Nat × Nat)).length + 1) * 2 ≤ 140737488355328 := by simp
      gi_wp2_with (gi_at_builtin; refine wpListIn_append _ rfl _ _ 42 rfl w.heap.size 49 i0 (.agg #[.int .u8 0, .int .u8 0]) 2 2 Try.underlying42 hi0 hz0 hz1 hz2 rfl (by decide) _ _ _ rfl (hrow.alloc _) ⟨W.heap.size, 0, none⟩ 1 1 [.int .u8 (x : Int), .int .u8 (x : Int)] rfl rfl (cells_new _ _ _) (by simp [Value.oneCell']) HM1 HM2 (by have := hB.size; simp; omega) ?_; intro v' w1 hown' hgrow _; obtain ⟨g', cap', rfl⟩ := ownsRow_succ hown'; obtain ⟨hv1, hv2, hr2, hk2, hb2⟩ := box_appended hv (by decide) hrow (Ex.refl _ W) hB.size (Nat.le_refl _) (by omega) hown' hgrow; have hc1 := hv1.cell; have hf1 := hv1.frozen; have hset1 := row_appended hset (by decide) hrow hgrow)
      have hset2 := (Below.heap_setCell w1 ⟨w.heap.size + 1, 0, none⟩ (.slice (some ⟨g', 0, none⟩) 1 cap') (w.heap.size + 1 + 1) (by simp)).trans hset1
      refine ⟨hk2.from _, hset2.trans hset.symm, ⟨_, hv2, ?_⟩, hset2, hB.trans hb2⟩
      rw [HS.out, addB_nil]
      exact hr2
    · obtain ⟨lo, hi⟩ := p
      rw [List.concat_eq_append] at hp
      subst hp
      rw [List.length_append, List.length_singleton] at hrow hv hc hln
      obtain ⟨g, cap2, he⟩ := ownsRow_succ hrow
      obtain ⟨rfl, rfl⟩ : a = some ⟨g, 0, none⟩ ∧ cap = cap2 := by simpa using he
      clear he
      have hc1 : W.cell? ⟨g, A.length * 2 + 1, none⟩ = some (.int .u8 (hi : Int)) := by
        rw [hrow.cellAt _ (by omega), spc_app]
        rw [List.getElem?_append_right (by rw [spc_len]; omega), spc_len, show A.length * 2 + 1 - 2 * A.length = 1 by omega]; rfl
      have hf1 := hrow.frozenAt (A.length * 2 + 1)
      have hgb : w.heap.size ≤ g := by
        rcases hrow.2 with ⟨h, _⟩ | ⟨g', _, _, h, hb, _⟩
        · cases h
        · cases h; exact hb
      have HM1 : A.length + 1 + 1 ≤ maxLen := by unfold maxLen; omega
      have HM2 : (A.length + 1 + 1) * 2 ≤ 140737488355328 := by omega
      gi_wp2_with (gi_at_builtin; refine wpListIn_append _ rfl _ _ 42 rfl w.heap.size 49 i0 (.agg #[.int .u8 0, .int .u8 0]) 2 2 Try.underlying42 hi0 hz0 hz1 hz2 rfl (by decide) _ _ _ rfl (hrow.alloc _) ⟨W.heap.size, 0, none⟩ 1 1 [.int .u8 (x : Int), .int .u8 (x : Int)] rfl rfl (cells_new _ _ _) (by simp [Value.oneCell']) HM1 HM2 (by have := hB.size; simp; omega) ?_; intro v' w1 hown' hgrow _; obtain ⟨g', cap', rfl⟩ := ownsRow_succ hown'; obtain ⟨hv1, hv2, hr2, hk2, hb2⟩ := box_appended hv (by decide) hrow (Ex.refl _ W) hB.size (Nat.le_refl _) (by omega) hown' hgrow; have hc1 := hv1.cell; have hf1 := hv1.frozen; have hset1 := row_appended hset (by decide) hrow hgrow)
      · have ht : (hi : Int) = ((x : Int) - 1) % 256 := by
          have h : ((hi : Int) == ((x : Int) - 1) % 256) = true := by assumption
          simpa using h
        have hne1 : w.heap.size + 1 ≠ g := fun e => hv.not_row (by decide) hrow (by rw [e]; rfl)
        have hne2 : w.heap.size + 1 + 1 ≠ g := fun e => row_not_own hset (by decide) hrow (by rw [e]; rfl)
        have hset2 := (Below.heap_setCell W ⟨g, A.length * 2 + 1, none⟩ (.int .u8 (x : Int)) (w.heap.size + 1 + 1) hne2).trans hset
        refine ⟨(KeepsOthers.setCell _ _ _).from _, hset2.trans hset.symm, ⟨_, (Below.heap_setCell W _ _ _ hne1).trans hv, ?_⟩, hset2, hB.setCell hgb _⟩
        rw [HS.out, addB_hit _ _ _ _ (by omega)]
        have := (hrow.stored (A.length * 2 + 1) (.int .u8 (x : Int))).1
        rw [spc_app, List.set_append_right _ _ (by rw [spc_len]; omega), spc_len, show A.length * 2 + 1 - 2 * A.length = 1 by omega] at this
        rw [List.length_append, List.length_singleton, spc_app]
        exact this
      · have ht : ¬ (hi : Int) = ((x : Int) - 1) % 256 := by
          have h : ((hi : Int) == ((x : Int) - 1) % 256) = false := by assumption
          simpa using h
        have hset2 := (Below.heap_setCell w1 ⟨w.heap.size + 1, 0, none⟩ (.slice (some ⟨g', 0, none⟩) (A.length + 1 + 1) cap') (w.heap.size + 1 + 1) (by simp)).trans hset1
        refine ⟨hk2.from _, hset2.trans hset.symm, ⟨_, hv2, ?_⟩, hset2, hB.trans hb2⟩
        rw [HS.out, addB_miss _ _ _ _ (by omega), spc_app, List.length_append, List.length_append]
        exact hr2
  case done =>
    rintro D ys W hD rfl ⟨⟨v, hv, hrow⟩, hset, hB⟩ hK
    have hc := hv.cell
    gi_wp2
    exact end_marks (.inr rfl) rfl hK (results_tmp rfl _ _ _) ⟨v, rfl, ex_put hB _ hK rfl (by omega) hB.size, slAt_of_owns (ownsRow_putObj hrow (.deferred none) hK rfl)⟩
  case stop =>
    rintro D c pre W _ _ h _
    exact h.elim
end Go.Proofs.Ytjmhbbbpjbgmjaa
