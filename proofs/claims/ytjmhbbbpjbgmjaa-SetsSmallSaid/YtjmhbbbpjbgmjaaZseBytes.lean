/-
  The contract of sets.Bytes.
-/
import Derived.Test.YtjmhbbbpjbgmjaaZseCompare
set_option linter.unusedSimpArgs false
set_option linter.unusedVariables false
namespace Go.Proofs.Ytjmhbbbpjbgmjaa
open Go.RowKit Go.Fwd Go.Shelf
attribute [local go_sem] Oper.semAt_some

theorem info5 : (Try.prog.info? 5).map (fun i => (i.zero, i.size, i.bytes)) = some (some (.int .u8 0), 1, 1) := by kernel_rfl

theorem u8s_len (l : List Nat) : (u8s l).length = l.length := by simp [u8s]

set_option maxRecDepth 100000 in
set_option maxHeartbeats 2000000 in
theorem appendSeq_any (Bs : Nat) (S : BS) (w : World) (hBs : w.heap[Bs]? = some (.cells (sc S) 24 (0, 0))) :
    Calls Try.prog 54 #[.slice none 0 0, .func (.func 51) #[] #[.pointer (some ⟨Bs, 0, none⟩)]] w (RetV (SlAt (bytesOf S).length (u8s (bytesOf S))) w) := by
  refine (callsIn_wide (n := 3)).1 ?_
  have hw1 : ∀ f, Fence.wide.fn f := fun _ => trivial
  have hw2 : Fence.wide.depth = none := rfl
  have hbs := (Array.getElem?_eq_some_iff.1 hBs).1
  obtain ⟨i0, hi, hz0, hz1, hz2⟩ := info_parts info5
  refine callsIn_of_wp_marks Try.func54 rfl trivial ?_ rfl
  simp only [Try.ntmps54, List.size_toArray, List.length_cons, List.length_nil, Nat.reduceAdd, Nat.reduceSub, Array.replicate_succ, Array.replicate_zero, List.push_toArray, List.append_toArray, List.nil_append, List.cons_append]
  gi_wp2
  have hB0 : Ex w.heap.size w (w.alloc (.cells #[.slice none 0 0] 44)) := (Ex.refl _ w).alloc (Nat.le_refl _) _
  refine range_law1 rfl ent51 (alls_iter Bs S _ ((hB0.block _ hbs).trans hBs)) (fun _ => rfl) (fun _ => rfl) keepsBlk_t (keepsBlk_T (by simp; omega))
    (fun pre W => (∃ v, Boxed W w.heap.size 44 v ∧ W.ownsRow w.heap.size 5 1 v pre.length (u8s pre)) ∧ Ex w.heap.size w W)
    (fun _ _ _ => False)
    (Stable.and (stable_boxowns _ _ _ _ _ _ _) (stable_ex (by simp) (Nat.le_refl _)))
    (fun _ => stable_false _)
    ⟨⟨_, Boxed.new _ _ _, World.ownsRow_nil _ _ _ _⟩, hB0⟩
    ?a1 ?assign ?body ?done ?stop
  case assign =>
    intro l x W K hK
    gi_wp2
    exact hK
  case body =>
    rintro l pre x W hl hr ⟨⟨v, hv, hrow⟩, hB⟩ hsp
    have hc := hv.cell
    have hlen : pre.length ≤ 256 := by have := hsp.length_le; have := bytesTo_len S 256; simp [bytesOf] at *; omega
    gi_wp2_with (gi_at_builtin; refine wpListIn_append _ rfl _ _ 44 rfl w.heap.size 5 i0 (.int .u8 0) 1 1 Try.underlying44 hi hz0 hz1 hz2 rfl (by decide) _ _ _ rfl (hrow.alloc _) ⟨W.heap.size, 0, none⟩ 1 1 [.int .u8 (x : Int)] rfl rfl (cell_one_new _ _ _) (by simp [Value.oneCell']) (by unfold maxLen; omega) (by omega) (by have := hB.size; simp; omega) ?_; intro v' w1 hown' hgrow _; obtain ⟨g', cap', rfl⟩ := ownsRow_succ hown'; obtain ⟨hv1, hv2, hr2, hk2, hb2⟩ := box_appended hv (by decide) hrow (Ex.refl _ W) hB.size (Nat.le_refl _) (Nat.le_refl _) hown' hgrow; have hc1 := hv1.cell; have hf1 := hv1.frozen)
    exact ⟨hk2.from _, hb2.block _ hbs, ⟨_, hv2, by simpa [u8s] using hr2⟩, hB.trans hb2⟩
  case done =>
    rintro D ys W hD rfl ⟨⟨v, hv, hrow⟩, hB⟩ hK
    have hc := hv.cell
    gi_wp2
    exact end_marks (.inr rfl) rfl hK (results_tmp rfl _ _ _) ⟨v, rfl, ex_put hB _ hK rfl (by simp at hD; omega) hB.size, slAt_of_owns (ownsRow_putObj hrow (.deferred none) hK rfl)⟩
  case stop =>
    rintro D c pre W _ _ h _
    exact h.elim

set_option maxRecDepth 100000 in
theorem collect_any (Bs : Nat) (S : BS) (w : World) (hBs : w.heap[Bs]? = some (.cells (sc S) 24 (0, 0))) :
    Calls Try.prog 50 #[.func (.func 51) #[] #[.pointer (some ⟨Bs, 0, none⟩)]] w (RetV (SlAt (bytesOf S).length (u8s (bytesOf S))) w) := by
  have hA := appendSeq_any Bs S w hBs
  clear hBs
  go_enter Try.func50, Try.ntmps50
  go_wp2_with (go_at_call 54; refine hA.mono ?_; rintro e w1 ⟨v, rfl, hb, hs⟩)
  go_ret
  exact ⟨v, rfl, hb, hs⟩

set_option maxRecDepth 100000 in
theorem bytes_any (S : BS) (w : World) : Calls Try.prog 26 #[sv S] w (RetV (SlAt (bytesOf S).length (u8s (bytesOf S))) w) := by
  unfold sv
  go_enter Try.func26, Try.ntmps26
  go_wp2_with fail
  refine (alls_any S _).mono ?_
  rintro e w1 ⟨rfl, rfl⟩
  go_wp2_with fail
  refine (collect_any (w.heap.size + 1) S _ (heap_new _ _ _ (by simp))).mono ?_
  rintro e w1 ⟨v, rfl, hb, hs⟩
  go_wp2
  go_ret
  exact ⟨v, rfl, ((((Ex.refl _ _).alloc (Nat.le_refl _) _).alloc (by simp) _).trans (hb.mono (by simp; omega))), hs⟩
end Go.Proofs.Ytjmhbbbpjbgmjaa
