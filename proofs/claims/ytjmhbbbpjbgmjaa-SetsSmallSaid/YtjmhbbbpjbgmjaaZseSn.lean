/-
  The contracts of Bytes and Spans, with the row that they hand back.
-/
import Derived.Test.YtjmhbbbpjbgmjaaZseFrom
set_option linter.unusedSimpArgs false
set_option linter.unusedVariables false
namespace Go.Proofs.Ytjmhbbbpjbgmjaa
open Go.RowKit Go.Fwd Go.Shelf
attribute [local go_sem] Oper.semAt_some
theorem ownsRow_base {w : World} {b b' : Nat} {e : TypeId} {size : Nat} {v : Value} {n : Nat} {xs : List Value} (h : w.ownsRow b e size v n xs) (hb : b' ≤ b) : w.ownsRow b' e size v n xs := by
  refine ⟨h.1, h.2.imp id ?_⟩
  rintro ⟨g, cap, cur, h1, h2, h3⟩
  exact ⟨g, cap, cur, h1, Nat.le_trans hb h2, h3⟩

set_option maxRecDepth 100000 in
set_option maxHeartbeats 2000000 in
theorem appendSeq_new (Bs : Nat) (S : BS) (w : World) (hBs : w.heap[Bs]? = some (.cells (sc S) 24 (0, 0))) :
    Calls Try.prog 54 #[.slice none 0 0, .func (.func 51) #[] #[.pointer (some ⟨Bs, 0, none⟩)]] w (RetV (fun v W => W.ownsRow w.heap.size 5 1 v (bytesOf S).length (u8s (bytesOf S))) w) := by
  refine (callsIn_wide (n := 3)).1 ?_
  have hw1 : ∀ f, Fence.wide.fn f := fun _ => trivial
  have hw2 : Fence.wide.depth = none := rfl
  have hbs := (Array.getElem?_eq_some_iff.1 hBs).1
  obtain ⟨i0, hi, hz0, hz1, hz2⟩ := info_parts info5
  refine callsIn_of_wp_marks Try.func54 rfl trivial ?_ rfl
  simp only [Try.ntmps54, List.size_toArray, List.length_cons, List.length_nil, Nat.reduceAdd, Nat.reduceSub, Array.replicate_succ, Array.replicate_zero, List.push_toArray, List.append_toArray, List.nil_append, List.cons_append]
  gi_wp2
  have hB0 : Ex w.heap.size w (w.alloc (.cells #[.slice none 0 0] 44)) := (Ex.refl _ w).alloc (Nat.le_refl _) _
  refine range_law1 rfl ent51 (alls_iter Bs S _ ((hB0.block _ hbs).trans hBs)) (fun _ => rfl) (fun _ => rfl) keepsBlk_t (keepsBlk_T (by simp; omega))
    (fun pre W => (∃ v, Boxed W w.heap.size 44 v ∧ W.ownsRow w.heap.size 5 1 v pre.length (u8s pre)) ∧ Ex w.heap.size w W)
    (fun _ _ _ => False)
    (Stable.and (stable_boxowns _ _ _ _ _ _ _) (stable_ex (by simp) (Nat.le_refl _)))
    (fun _ => stable_false _)
    ⟨⟨_, Boxed.new _ _ _, World.ownsRow_nil _ _ _ _⟩, hB0⟩
    ?a1 ?assign ?body ?done ?stop
  case assign =>
    intro l x W K hK
    gi_wp2
    exact hK
  case body =>
    rintro l pre x W hl hr ⟨⟨v, hv, hrow⟩, hB⟩ hsp
    have hc := hv.cell
    have hlen : pre.length ≤ 256 := by have := hsp.length_le; have := bytesTo_len S 256; simp [bytesOf] at *; omega
    gi_wp2_with (gi_at_builtin; refine wpListIn_append _ rfl _ _ 44 rfl w.heap.size 5 i0 (.int .u8 0) 1 1 Try.underlying44 hi hz0 hz1 hz2 rfl (by decide) _ _ _ rfl (hrow.alloc _) ⟨W.heap.size, 0, none⟩ 1 1 [.int .u8 (x : Int)] rfl rfl (cell_one_new _ _ _) (by simp [Value.oneCell']) (by unfold maxLen; omega) (by omega) (by have := hB.size; simp; omega) ?_; intro v' w1 hown' hgrow _; obtain ⟨g', cap', rfl⟩ := ownsRow_succ hown'; obtain ⟨hv1, hv2, hr2, hk2, hb2⟩ := box_appended hv (by decide) hrow (Ex.refl _ W) hB.size (Nat.le_refl _) (Nat.le_refl _) hown' hgrow; have hc1 := hv1.cell; have hf1 := hv1.frozen)
    exact ⟨hk2.from _, hb2.block _ hbs, ⟨_, hv2, by simpa [u8s] using hr2⟩, hB.trans hb2⟩
  case done =>
    rintro D ys W hD rfl ⟨⟨v, hv, hrow⟩, hB⟩ hK
    have hc := hv.cell
    gi_wp2
    exact end_marks (.inr rfl) rfl hK (results_tmp rfl _ _ _) ⟨v, rfl, ex_put hB _ hK rfl (by simp at hD; omega) hB.size, ownsRow_putObj hrow (.deferred none) hK rfl⟩
  case stop =>
    rintro D c pre W _ _ h _
    exact h.elim

set_option maxRecDepth 100000 in
theorem collect_new (Bs : Nat) (S : BS) (w : World) (hBs : w.heap[Bs]? = some (.cells (sc S) 24 (0, 0))) :
    Calls Try.prog 50 #[.func (.func 51) #[] #[.pointer (some ⟨Bs, 0, none⟩)]] w (RetV (fun v W => W.ownsRow w.heap.size 5 1 v (bytesOf S).length (u8s (bytesOf S))) w) := by
  have hA := appendSeq_new Bs S w hBs
  clear hBs
  go_enter Try.func50, Try.ntmps50
  go_wp2_with (go_at_call 54; refine hA.mono ?_; rintro e w1 ⟨v, rfl, hb, hs⟩)
  go_ret
  exact ⟨v, rfl, hb, hs⟩

set_option maxRecDepth 100000 in
theorem bytes_new (S : BS) (w : World) : Calls Try.prog 26 #[sv S] w (RetV (fun v W => W.ownsRow w.heap.size 5 1 v (bytesOf S).length (u8s (bytesOf S))) w) := by
  unfold sv
  go_enter Try.func26, Try.ntmps26
  go_wp2_with fail
  refine (alls_any S _).mono ?_
  rintro e w1 ⟨rfl, rfl⟩
  go_wp2_with fail
  refine (collect_new (w.heap.size + 1) S _ (heap_new _ _ _ (by simp))).mono ?_
  rintro e w1 ⟨v, rfl, hb, hs⟩
  go_wp2
  go_ret
  exact ⟨v, rfl, ((((Ex.refl _ _).alloc (Nat.le_refl _) _).alloc (by simp) _).trans (hb.mono (by simp; omega))), ownsRow_base hs (by simp; omega)⟩
set_option maxRecDepth 100000 in
set_option maxHeartbeats 2000000 in
theorem spans_new (S : BS) (w : World) : Calls Try.prog 27 #[sv S] w (RetV (fun v W => W.ownsRow w.heap.size 49 2 v (spansOf S).length (spc (spansOf S))) w) := by
  refine (callsIn_wide (n := 3)).1 ?_
  have hw1 : ∀ f, Fence.wide.fn f := fun _ => trivial
  have hw2 : Fence.wide.depth = none := rfl
  obtain ⟨i0, hi0, hz0, hz1, hz2⟩ := info_parts info49
  refine callsIn_of_wp_marks Try.func27 rfl trivial ?_ rfl
  simp only [Try.ntmps27, List.size_toArray, List.length_cons, List.length_nil, Nat.reduceAdd, Nat.reduceSub, Array.replicate_succ, Array.replicate_zero, List.push_toArray, List.append_toArray, List.nil_append, List.cons_append]
  unfold sv
  gi_wp2
  refine wpIn_scope_straight ?_
  gi_wp2
  refine wpIn_label ?_
  gi_wp2_with (gi_at_call 47; refine (callsIn_wide.2 (alls_any S _)).mono ?_; rintro e w' ⟨rfl, rfl⟩)
  obtain ⟨w1, hw1e⟩ : ∃ w1, w1 = (((w.alloc (.cells #[.int .u64 (wd S 0), .int .u64 (wd S 1), .int .u64 (wd S 2), .int .u64 (wd S 3)] 24)).alloc (.cells #[.slice none 0 0] 42)).alloc (.cells (sc S) 24)) := ⟨_, rfl⟩
  have hB0 : Ex w.heap.size w w1 := by rw [hw1e]; exact (((Ex.refl _ w).alloc (Nat.le_refl _) _).alloc (by simp) _).alloc (by simp; omega) _
  have hb1 : Boxed w1 (w.heap.size + 1) 42 (.slice none 0 0) := by rw [hw1e]; exact (Below.heap_alloc _ _ _ (by simp)).trans (heap_new _ _ _ (by simp))
  have hrs : w1.heap[w.heap.size + 1 + 1]? = some (.cells (sc S) 24 (0, 0)) := by rw [hw1e]; exact heap_new _ _ _ (by simp)
  have hs0 := alls_iter (w.heap.size + 1 + 1) S w1 hrs
  have hsz : w1.heap.size = w.heap.size + 3 := by rw [hw1e]; simp
  show Code.wpIn _ _ _ _ _ _ (((w.alloc (.cells #[.int .u64 (wd S 0), .int .u64 (wd S 1), .int .u64 (wd S 2), .int .u64 (wd S 3)] 24)).alloc (.cells #[.slice none 0 0] 42)).alloc (.cells (sc S) 24))
  rw [← hw1e]
  clear hw1e
  refine range_law1 rfl ent51 hs0 (fun _ => rfl) (fun _ => rfl) keepsBlk_t (keepsBlk_T (by omega))
    (fun pre W => (∃ v, Boxed W (w.heap.size + 1) 42 v ∧ W.ownsRow w.heap.size 49 2 v (spansB pre).length (spc (spansB pre))) ∧ (W.heap[w.heap.size + 1 + 1]? = some (.cells (sc S) 24 (0, 0)) ∧ Ex w.heap.size w W))
    (fun _ _ _ => False)
    (Stable.and (stable_boxowns _ _ _ _ _ _ _) (Stable.and (stable_row _ _ _ _ _) (stable_ex (by omega) (Nat.le_refl _))))
    (fun _ => stable_false _)
    ⟨⟨_, hb1, World.ownsRow_nil _ _ _ _⟩, hrs, hB0⟩
    ?a1 ?assign ?body ?done ?stop
  case assign =>
    intro l x W K hK
    gi_wp2
    exact hK
  case body =>
    rintro l pre x W hl hr ⟨⟨v, hv, hrow⟩, hset, hB⟩ hsp
    have hc := hv.cell
    have hx : x < 256 := by
      have : x ∈ bytesOf S := hsp.subset (by simp)
      simp [bytesOf, bytesTo] at this; exact this.1
    have hlen : pre.length + 1 ≤ 256 := by have := hsp.length_le; have := bytesTo_len S 256; simp [bytesOf] at *; omega
    have hsn := spansB_snoc pre x
    have hln := spansB_len pre
    generalize hL : spansB pre = L at *
    have HS := Lib.hid hsn
    have HL := Lib.hid hL
    clear hsn hL
    obtain ⟨a, cap, rfl⟩ := owns_slice hrow
    rcases List.eq_nil_or_concat L with rfl | ⟨A, p, hp⟩
    · have HM1 : ([] : List (Nat × Nat)).length + 1 ≤ maxLen := by simp [maxLen]
      have HM2 : (([] : List (Nat × Nat)).length + 1) * 2 ≤ 140737488355328 := by simp
      gi_wp2_with (gi_at_builtin; refine wpListIn_append _ rfl _ _ 42 rfl w.heap.size 49 i0 (.agg #[.int .u8 0, .int .u8 0]) 2 2 Try.underlying42 hi0 hz0 hz1 hz2 rfl (by decide) _ _ _ rfl (hrow.alloc _) ⟨W.heap.size, 0, none⟩ 1 1 [.int .u8 (x : Int), .int .u8 (x : Int)] rfl rfl (cells_new _ _ _) (by simp [Value.oneCell']) HM1 HM2 (by have := hB.size; simp; omega) ?_; intro v' w1 hown' hgrow _; obtain ⟨g', cap', rfl⟩ := ownsRow_succ hown'; obtain ⟨hv1, hv2, hr2, hk2, hb2⟩ := box_appended hv (by decide) hrow (Ex.refl _ W) hB.size (Nat.le_refl _) (by omega) hown' hgrow; have hc1 := hv1.cell; have hf1 := hv1.frozen; have hset1 := row_appended hset (by decide) hrow hgrow)
      have hset2 := (Below.heap_setCell w1 ⟨w.heap.size + 1, 0, none⟩ (.slice (some ⟨g', 0, none⟩) 1 cap') (w.heap.size + 1 + 1) (by simp)).trans hset1
      refine ⟨hk2.from _, hset2.trans hset.symm, ⟨_, hv2, ?_⟩, hset2, hB.trans hb2⟩
      rw [HS.out, addB_nil]
      exact hr2
    · obtain ⟨lo, hi⟩ := p
      rw [List.concat_eq_append] at hp
      subst hp
      rw [List.length_append, List.length_singleton] at hrow hv hc hln
      obtain ⟨g, cap2, he⟩ := ownsRow_succ hrow
      obtain ⟨rfl, rfl⟩ : a = some ⟨g, 0, none⟩ ∧ cap = cap2 := by simpa using he
      clear he
      have hc1 : W.cell? ⟨g, A.length * 2 + 1, none⟩ = some (.int .u8 (hi : Int)) := by
        rw [hrow.cellAt _ (by omega), spc_app]
        rw [List.getElem?_append_right (by rw [spc_len]; omega), spc_len, show A.length * 2 + 1 - 2 * A.length = 1 by omega]; rfl
      have hf1 := hrow.frozenAt (A.length * 2 + 1)
      have hgb : w.heap.size ≤ g := by
        rcases hrow.2 with ⟨h, _⟩ | ⟨g', _, _, h, hb, _⟩
        · cases h
        · cases h; exact hb
      have HM1 : A.length + 1 + 1 ≤ maxLen := by unfold maxLen; omega
      have HM2 : (A.length + 1 + 1) * 2 ≤ 140737488355328 := by omega
      gi_wp2_with (gi_at_builtin; refine wpListIn_append _ rfl _ _ 42 rfl w.heap.size 49 i0 (.agg #[.int .u8 0, .int .u8 0]) 2 2 Try.underlying42 hi0 hz0 hz1 hz2 rfl (by decide) _ _ _ rfl (hrow.alloc _) ⟨W.heap.size, 0, none⟩ 1 1 [.int .u8 (x : Int), .int .u8 (x : Int)] rfl rfl (cells_new _ _ _) (by simp [Value.oneCell']) HM1 HM2 (by have := hB.size; simp; omega) ?_; intro v' w1 hown' hgrow _; obtain ⟨g', cap', rfl⟩ := ownsRow_succ hown'; obtain ⟨hv1, hv2, hr2, hk2, hb2⟩ := box_appended hv (by decide) hrow (Ex.refl _ W) hB.size (Nat.le_refl _) (by omega) hown' hgrow; have hc1 := hv1.cell; have hf1 := hv1.frozen; have hset1 := row_appended hset (by decide) hrow hgrow)
      · have ht : (hi : Int) = ((x : Int) - 1) % 256 := by
          have h : ((hi : Int) == ((x : Int) - 1) % 256) = true := by assumption
          simpa using h
        have hne1 : w.heap.size + 1 ≠ g := fun e => hv.not_row (by decide) hrow (by rw [e]; rfl)
        have hne2 : w.heap.size + 1 + 1 ≠ g := fun e => row_not_own hset (by decide) hrow (by rw [e]; rfl)
        have hset2 := (Below.heap_setCell W ⟨g, A.length * 2 + 1, none⟩ (.int .u8 (x : Int)) (w.heap.size + 1 + 1) hne2).trans hset
        refine ⟨(KeepsOthers.setCell _ _ _).from _, hset2.trans hset.symm, ⟨_, (Below.heap_setCell W _ _ _ hne1).trans hv, ?_⟩, hset2, hB.setCell hgb _⟩
        rw [HS.out, addB_hit _ _ _ _ (by omega)]
        have := (hrow.stored (A.length * 2 + 1) (.int .u8 (x : Int))).1
        rw [spc_app, List.set_append_right _ _ (by rw [spc_len]; omega), spc_len, show A.length * 2 + 1 - 2 * A.length = 1 by omega] at this
        rw [List.length_append, List.length_singleton, spc_app]
        exact this
      · have ht : ¬ (hi : Int) = ((x : Int) - 1) % 256 := by
          have h : ((hi : Int) == ((x : Int) - 1) % 256) = false := by assumption
          simpa using h
        have hset2 := (Below.heap_setCell w1 ⟨w.heap.size + 1, 0, none⟩ (.slice (some ⟨g', 0, none⟩) (A.length + 1 + 1) cap') (w.heap.size + 1 + 1) (by simp)).trans hset1
        refine ⟨hk2.from _, hset2.trans hset.symm, ⟨_, hv2, ?_⟩, hset2, hB.trans hb2⟩
        rw [HS.out, addB_miss _ _ _ _ (by omega), spc_app, List.length_append, List.length_append]
        exact hr2
  case done =>
    rintro D ys W hD rfl ⟨⟨v, hv, hrow⟩, hset, hB⟩ hK
    have hc := hv.cell
    gi_wp2
    exact end_marks (.inr rfl) rfl hK (results_tmp rfl _ _ _) ⟨v, rfl, ex_put hB _ hK rfl (by omega) hB.size, ownsRow_putObj hrow (.deferred none) hK rfl⟩
  case stop =>
    rintro D c pre W _ _ h _
    exact h.elim
end Go.Proofs.Ytjmhbbbpjbgmjaa
