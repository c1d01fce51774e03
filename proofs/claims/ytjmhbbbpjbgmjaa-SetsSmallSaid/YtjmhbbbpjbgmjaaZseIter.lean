/-
  The iterator of package sets: it gives the bytes of a set in order.
-/
import Derived.Test.YtjmhbbbpjbgmjaaZseRange
import Derived.RangeFuncNested
import Derived.RangeFuncBound
import Derived.RangeFuncCalls
import Derived.RangeFuncLeaves
import Derived.Shelf.RegionOpen
import Derived.OwnWalkIn
import Derived.TacticsInMore
import Derived.LoopNIn
import Derived.LoopIn
set_option linter.unusedSimpArgs false
set_option linter.unusedVariables false
namespace Go.Proofs.Ytjmhbbbpjbgmjaa
open Go.RowKit Go.Fwd Go.Shelf
attribute [local go_sem] Oper.semAt_some

/-- The bytes of a set, in order. -/
def bytesTo (S : BS) (k : Nat) : List Nat := (List.range k).filter fun c => S.getLsbD c
def bytesOf (S : BS) : List Nat := bytesTo S 256
theorem bytesTo_succ (S : BS) (k : Nat) : bytesTo S (k + 1) = bytesTo S k ++ (if S.getLsbD k then [k] else []) := by
  unfold bytesTo; rw [List.range_succ, List.filter_append]; congr 1; simp only [List.filter_cons, List.filter_nil]
theorem bytesTo_prefix (S : BS) {j k : Nat} (h : j ≤ k) : bytesTo S j <+: bytesTo S k := by
  induction k with
  | zero => obtain rfl : j = 0 := by omega
            exact List.prefix_refl _
  | succ k ih =>
    by_cases hj : j = k + 1
    · subst hj; exact List.prefix_refl _
    · exact (ih (by omega)).trans (by rw [bytesTo_succ]; exact List.prefix_append _ _)
theorem bytesTo_len (S : BS) (k : Nat) : (bytesTo S k).length ≤ k := by
  unfold bytesTo; exact Nat.le_trans (List.length_filter_le _ _) (by simp)

set_option maxRecDepth 100000 in
set_option maxHeartbeats 1000000 in
/-- sets.all: a closure over the boxed set. -/
theorem alls_any (A : BS) (w : World) : Calls Try.prog 47 #[sv A] w fun e w' => e = .returned (.func (.func 51) #[] #[.pointer (some ⟨w.heap.size, 0, none⟩)]) ∧ w' = w.alloc (.cells (sc A) 24) := by
  unfold sv sc
  go_enter Try.func47, Try.ntmps47
  go_wp2
  go_ret
  exact ⟨rfl, rfl⟩

theorem sc_cells {w : World} {b : Nat} {S : BS} {t : TypeId} {f : Nat × Nat} (h : w.heap[b]? = some (.cells (sc S) t f)) :
    w.cell? ⟨b, 0, none⟩ = some (.int .u64 (wd S 0)) ∧ w.cell? ⟨b, 1, none⟩ = some (.int .u64 (wd S 1)) ∧ w.cell? ⟨b, 2, none⟩ = some (.int .u64 (wd S 2)) ∧ w.cell? ⟨b, 3, none⟩ = some (.int .u64 (wd S 3)) :=
  ⟨(cell_of_row _ _ _ _ _ _ h).trans rfl, (cell_of_row _ _ _ _ _ _ h).trans rfl, (cell_of_row _ _ _ _ _ _ h).trans rfl, (cell_of_row _ _ _ _ _ _ h).trans rfl⟩

set_option maxRecDepth 100000 in
set_option maxHeartbeats 2000000 in
/-- The closure gives the bytes of the set in order. -/
theorem alls_iter (Bs : Nat) (S : BS) (w : World) (hBs : w.heap[Bs]? = some (.cells (sc S) 24 (0, 0))) :
    Iter Try.prog 51 #[.pointer (some ⟨Bs, 0, none⟩)] (fun x : Nat => #[Value.int .u8 (x : Int)]) (KeepsBlk Bs) (fun xs => xs = bytesOf S) (fun pre => pre <+: bytesOf S) w := by
  intro l J Jx W hW hJ hJx hY h0
  have hBs1 := (hW.block Bs (Array.getElem?_eq_some_iff.1 hBs).1).trans hBs
  clear hBs hW
  refine (callsIn_wide (n := 3)).1 ?_
  have hw1 : ∀ f, Fence.wide.fn f := fun _ => trivial
  have hw2 : Fence.wide.depth = none := rfl
  refine callsIn_of_wp Try.func51 rfl trivial ?_ rfl
  simp only [Try.ntmps51, List.size_toArray, List.length_cons, List.length_nil, Nat.reduceAdd, Nat.reduceSub, Array.replicate_succ, Array.replicate_zero, List.push_toArray, List.append_toArray, List.nil_append, List.cons_append]
  gi_wp2
  gi_loopw [4] (fun i wr => ∃ (k : Nat), k ≤ 256 ∧ i = .int .i64 k ∧ J (bytesTo S k) wr ∧ wr.heap[Bs]? = some (.cells (sc S) 24 (0, 0)) ∧ W.heap.size ≤ wr.heap.size)
    (fun i _ => 256 - (intOf i).toNat)
  case atStart => exact ⟨0, Nat.zero_le _, rfl, h0, hBs1, Nat.le_refl _⟩
  case round =>
    obtain ⟨k, hk, rfl, hJs, hrow, hsz⟩ := hrel
    have hblt : Bs < wr.heap.size := (Array.getElem?_eq_some_iff.1 hrow).1
    obtain ⟨c0, c1, c2, c3⟩ := sc_cells hrow
    by_cases hlt : k < 256
    · by_cases hbit : S.getLsbD k = true
      · have hh : ∀ W, Calls Try.prog 14 #[sv S, .int .u8 k] W (Ret (.bool true) W) := fun W => hbit ▸ has_any S k W hlt
        have hbs : bytesTo S (k + 1) = bytesTo S k ++ [k] := by rw [bytesTo_succ, if_pos hbit]
        have HB := Lib.hid hbs
        have hsp : bytesTo S k ++ [k] <+: bytesOf S := hbs ▸ bytesTo_prefix S (show k + 1 ≤ 256 by omega)
        have HSP := Lib.hid hsp
        clear hbit hbs hsp
        gi_wp2_with (gi_at_call 14; refine (callsIn_wide.2 (hh _)).mono ?_; rintro e w1 ⟨rfl, hb1⟩; have hJ1 : J (bytesTo S k) w1 := hJ _ _ _ hJs ((Turn.of_ex _ hb1)); have hsz1 := hb1.size; obtain ⟨fn, tmps, assign, body, hy, hR⟩ := hY (bytesTo S k) k w1 hJ1 HSP.out 2)
        refine hR.mono ?_
        rintro e W3 ⟨hkf, (⟨rfl, hJ3, hk3⟩ | ⟨rfl, hJx3⟩)⟩
        · gi_wp2
          go_roundw
          case rel => exact ⟨k + 1, by omega, by go_num, by rw [HB.out]; exact hJ3, hk3.trans ((hb1.block _ hblt).trans hrow), by have := hkf.size; omega⟩
          case measure => simp [intOf]; omega
        · gi_wp2
          refine bodyPost_ret (results_none rfl _ _ _) rfl ?_
          exact ⟨⟨_, rfl⟩, .inr ⟨_, HSP.out, hJx3⟩⟩
      · have hbf : S.getLsbD k = false := by simpa using hbit
        have hh : ∀ W, Calls Try.prog 14 #[sv S, .int .u8 k] W (Ret (.bool false) W) := fun W => hbf ▸ has_any S k W hlt
        have HB := Lib.hid hbf
        clear hbf hbit
        gi_wp2_with (gi_at_call 14; refine (callsIn_wide.2 (hh _)).mono ?_; rintro e w1 ⟨rfl, hb1⟩)
        go_roundw
        case rel => exact ⟨k + 1, by omega, by go_num, by rw [bytesTo_succ, HB.out]; simpa using hJ _ _ _ hJs (Turn.of_ex _ hb1), (hb1.block _ hblt).trans hrow, by have := hb1.size; omega⟩
        case measure => simp [intOf]; omega
    · obtain rfl : k = 256 := by omega
      gi_wp2
      go_end0
      exact ⟨⟨_, rfl⟩, .inl ⟨_, rfl, hJs⟩⟩
theorem ent51 : ∀ args w, (callFunc 51 args).run Try.prog w = .ok (.enter 51 args) w := enters_of Try.func51 (by kernel_rfl) rfl
theorem ks8 (x : Nat) : (#[Value.int .u8 (x : Int)] : Array Value).size = (#[0] : Array Tmp).size := rfl

set_option maxRecDepth 100000 in
set_option maxHeartbeats 2000000 in
theorem size_any (S : BS) (w : World) : Calls Try.prog 22 #[sv S] w (Ret (.int .i64 (bytesOf S).length) w) := by
  refine (callsIn_wide (n := 3)).1 ?_
  have hw1 : ∀ f, Fence.wide.fn f := fun _ => trivial
  have hw2 : Fence.wide.depth = none := rfl
  refine callsIn_of_wp_marks Try.func22 rfl trivial ?_ rfl
  simp only [Try.ntmps22, List.size_toArray, List.length_cons, List.length_nil, Nat.reduceAdd, Nat.reduceSub, Array.replicate_succ, Array.replicate_zero, List.push_toArray, List.append_toArray, List.nil_append, List.cons_append]
  unfold sv
  gi_wp2_with (gi_at_call 47; refine (callsIn_wide.2 (alls_any S _)).mono ?_; rintro e w' ⟨rfl, rfl⟩)
  have hB0 : Ex w.heap.size w (((w.alloc (.cells #[.int .u64 (wd S 0), .int .u64 (wd S 1), .int .u64 (wd S 2), .int .u64 (wd S 3)] 24)).alloc (.cells #[.int .i64 0] 3)).alloc (.cells (sc S) 24)) :=
    (((Ex.refl _ w).alloc (Nat.le_refl _) _).alloc (by simp) _).alloc (by simp; omega) _
  have hb0 : Boxed (((w.alloc (.cells #[.int .u64 (wd S 0), .int .u64 (wd S 1), .int .u64 (wd S 2), .int .u64 (wd S 3)] 24)).alloc (.cells #[.int .i64 0] 3)).alloc (.cells (sc S) 24)) (w.heap.size + 1) 3 (.int .i64 0) := (Below.heap_alloc _ _ _ (by simp)).trans (heap_new _ _ _ (by simp))
  have hs0 := alls_iter (w.heap.size + 1 + 1) S (((w.alloc (.cells #[.int .u64 (wd S 0), .int .u64 (wd S 1), .int .u64 (wd S 2), .int .u64 (wd S 3)] 24)).alloc (.cells #[.int .i64 0] 3)).alloc (.cells (sc S) 24)) (heap_new _ _ _ (by simp))
  obtain ⟨w1, hw1e⟩ : ∃ w1, w1 = (((w.alloc (.cells #[.int .u64 (wd S 0), .int .u64 (wd S 1), .int .u64 (wd S 2), .int .u64 (wd S 3)] 24)).alloc (.cells #[.int .i64 0] 3)).alloc (.cells (sc S) 24)) := ⟨_, rfl⟩
  have hsz : w1.heap.size = w.heap.size + 3 := by rw [hw1e]; simp
  show Code.wpIn _ _ _ _ _ _ (((w.alloc (.cells #[.int .u64 (wd S 0), .int .u64 (wd S 1), .int .u64 (wd S 2), .int .u64 (wd S 3)] 24)).alloc (.cells #[.int .i64 0] 3)).alloc (.cells (sc S) 24))
  rw [← hw1e] at hB0 hb0 hs0 ⊢
  clear hw1e
  refine range_law1 rfl ent51 hs0 (fun _ => rfl) (fun _ => rfl) keepsBlk_t (keepsBlk_T (by omega))
    (fun pre W => Boxed W (w.heap.size + 1) 3 (.int .i64 (pre.length : Nat)) ∧ Ex w.heap.size w W)
    (fun _ _ _ => False)
    (Stable.and (stable_box _ _ _ _) (stable_ex (by omega) (Nat.le_refl _)))
    (fun _ => stable_false _)
    ⟨hb0, hB0⟩
    ?a1 ?assign ?body ?done ?stop
  case assign =>
    intro l x W K hK
    gi_wp2
    exact hK
  case body =>
    rintro l pre x W hl hr ⟨hbx, hbel⟩ hsp
    have hc := hbx.cell
    have hf := hbx.frozen
    have hlen : pre.length ≤ 256 := by have := hsp.length_le; have := bytesTo_len S 256; simp [bytesOf] at *; omega
    gi_wp2
    refine ⟨(KeepsOthers.setCell _ _ _).from _, ?_, ?_, hbel.setCell (by simp) _⟩
    · exact Below.heap_setCell _ _ _ _ (by simp)
    · rw [List.length_append]; exact hbx.set _
  case done =>
    rintro D ys W hD rfl ⟨hbx, hbel⟩ hK
    have hc := hbx.cell
    gi_wp2
    refine end_marks (.inr rfl) rfl hK (results_tmp rfl _ _ _) ⟨rfl, ex_put hbel _ hK rfl (by omega) (Nat.le_trans (by omega) hbel.size)⟩
  case stop =>
    rintro D c pre W _ _ h _
    exact h.elim

theorem agg5 (w : World) : (isAgg 5).run Try.prog w = .ok false w := by kernel_rfl
theorem agg4 (w : World) : (isAgg 4).run Try.prog w = .ok false w := by kernel_rfl

/-- The least byte of a set. -/
def firstOf (S : BS) : Option Nat := (bytesOf S).head?
def firstV (o : Option Nat) : Value := match o with | some c => .tuple #[.int .u8 (c : Int), .bool true] | none => .tuple #[.int .u8 0, .bool false]

set_option maxRecDepth 100000 in
set_option maxHeartbeats 2000000 in
theorem first_any (S : BS) (w : World) : Calls Try.prog 24 #[sv S] w (Ret (firstV (firstOf S)) w) := by
  refine (callsIn_wide (n := 3)).1 ?_
  have hw1 : ∀ f, Fence.wide.fn f := fun _ => trivial
  have hw2 : Fence.wide.depth = none := rfl
  refine callsIn_of_wp_marks Try.func24 rfl trivial ?_ rfl
  simp only [Try.ntmps24, List.size_toArray, List.length_cons, List.length_nil, Nat.reduceAdd, Nat.reduceSub, Array.replicate_succ, Array.replicate_zero, List.push_toArray, List.append_toArray, List.nil_append, List.cons_append]
  unfold sv
  gi_wp2_with (gi_at_call 47; refine (callsIn_wide.2 (alls_any S _)).mono ?_; rintro e w' ⟨rfl, rfl⟩)
  obtain ⟨w1, hw1e⟩ : ∃ w1, w1 = ((((w.alloc (.cells #[.int .u64 (wd S 0), .int .u64 (wd S 1), .int .u64 (wd S 2), .int .u64 (wd S 3)] 24)).alloc (.cells #[.int .u8 0] 5)).alloc (.cells #[.bool false] 4)).alloc (.cells (sc S) 24)) := ⟨_, rfl⟩
  have hB0 : Ex w.heap.size w w1 := by rw [hw1e]; exact ((((Ex.refl _ w).alloc (Nat.le_refl _) _).alloc (by simp) _).alloc (by simp; omega) _).alloc (by simp; omega) _
  have hb1 : Boxed w1 (w.heap.size + 1) 5 (.int .u8 0) := by rw [hw1e]; exact (Below.heap_alloc _ _ _ (by simp)).trans ((Below.heap_alloc _ _ _ (by simp)).trans (heap_new _ _ _ (by simp)))
  have hb2 : Boxed w1 (w.heap.size + 1 + 1) 4 (.bool false) := by rw [hw1e]; exact (Below.heap_alloc _ _ _ (by simp)).trans (heap_new _ _ _ (by simp))
  have hs0 := alls_iter (w.heap.size + 1 + 1 + 1) S w1 (by rw [hw1e]; exact heap_new _ _ _ (by simp))
  have hsz : w1.heap.size = w.heap.size + 4 := by rw [hw1e]; simp
  show Code.wpIn _ _ _ _ _ _ ((((w.alloc (.cells #[.int .u64 (wd S 0), .int .u64 (wd S 1), .int .u64 (wd S 2), .int .u64 (wd S 3)] 24)).alloc (.cells #[.int .u8 0] 5)).alloc (.cells #[.bool false] 4)).alloc (.cells (sc S) 24))
  rw [← hw1e]
  clear hw1e
  refine range_law1 rfl ent51 hs0 (fun _ => rfl) (fun _ => rfl) keepsBlk_t (keepsBlk_T (by omega))
    (fun pre W => Boxed W (w.heap.size + 1) 5 (.int .u8 0) ∧ (Boxed W (w.heap.size + 1 + 1) 4 (.bool false) ∧ (pre = [] ∧ Ex w.heap.size w W)))
    (fun c pre W => Boxed W (w.heap.size + 1) 5 (.int .u8 (pre.headD 0 : Nat)) ∧ (Boxed W (w.heap.size + 1 + 1) 4 (.bool true) ∧ ((c = .ret ∧ pre ≠ []) ∧ Ex w.heap.size w W)))
    (Stable.and (stable_box _ _ _ _) (Stable.and (stable_box _ _ _ _) (Stable.and (stable_pure _ _) (stable_ex (by omega) (Nat.le_refl _)))))
    (fun c => Stable.and (stable_box _ _ _ _) (Stable.and (stable_box _ _ _ _) (Stable.and (stable_pure _ _) (stable_ex (by omega) (Nat.le_refl _)))))
    ⟨hb1, hb2, rfl, hB0⟩
    ?a1 ?assign ?body ?done ?stop
  case assign =>
    intro l x W K hK
    gi_wp2
    exact hK
  case body =>
    rintro l pre x W hl hr ⟨hb1, hb2, rfl, hbel⟩ hN
    have hc1 := hb1.cell
    have hf1 := hb1.frozen
    have hc2 := hb2.cell
    have hf2 := hb2.frozen
    gi_wp2
    exact ⟨((KeepsOthers.setCell _ _ _).trans (KeepsOthers.setCell _ _ _)).from _, (hb1.set _).other (by omega) _, (hb2.other (by omega) _).set _, ⟨rfl, by simp⟩, (hbel.setCell (by simp) _).setCell (by simp; omega) _⟩
  case done =>
    rintro D ys W hD rfl ⟨hb1, hb2, hnil, hbel⟩ hK
    have hc1 := hb1.cell
    have hf1 := hb1.frozen
    have hc2 := hb2.cell
    have hf2 := hb2.frozen
    have HN := Lib.hid hnil
    clear hnil
    gi_wp2
    have hb1' := (hb1.set (.int .u8 0)).other (B' := w.heap.size + 1 + 1) (by omega) (.bool false)
    have hb2' := (hb2.other (B' := w.heap.size + 1) (by omega) (.int .u8 0)).set (.bool false)
    have hK' := ((KeepsOthers.setCell W ⟨w.heap.size + 1, 0, none⟩ (.int .u8 0)).trans (KeepsOthers.setCell _ ⟨w.heap.size + 1 + 1, 0, none⟩ (.bool false))).same D _ hK rfl
    have hbel' := (hbel.setCell (p := ⟨w.heap.size + 1, 0, none⟩) (by simp) (.int .u8 0)).setCell (p := ⟨w.heap.size + 1 + 1, 0, none⟩) (by simp; omega) (.bool false)
    refine end_marks (.inr rfl) rfl hK' (results_box2 rfl rfl rfl (box_put hb1' _ hK' rfl) (box_put hb2' _ hK' rfl) agg5 agg4) ⟨?_, ex_put hbel' _ hK' rfl (by omega) (Nat.le_trans (by omega) hbel'.size)⟩
    unfold firstOf; rw [HN.out]; rfl
  case stop =>
    rintro D c pre W hD hpre ⟨hb1, hb2, ⟨rfl, hne⟩, hbel⟩ hK
    gi_wp2
    refine end_marks (.inr rfl) rfl hK (results_box2 rfl rfl rfl (box_put hb1 _ hK rfl) (box_put hb2 _ hK rfl) agg5 agg4) ⟨?_, ex_put hbel _ hK rfl (by omega) (Nat.le_trans (by omega) hbel.size)⟩
    have : firstOf S = some (pre.headD 0) := by
      obtain ⟨r, hr⟩ := hpre
      unfold firstOf; rw [← hr]
      cases pre with
      | nil => exact absurd rfl hne
      | cons x l => rfl
    rw [this]; rfl
end Go.Proofs.Ytjmhbbbpjbgmjaa
