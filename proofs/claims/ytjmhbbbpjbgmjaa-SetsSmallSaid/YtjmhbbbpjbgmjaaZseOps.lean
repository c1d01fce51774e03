/-
  The contracts of sets.Or, And, Less, Not, All, Within, Meets.
-/
import Derived.Test.YtjmhbbbpjbgmjaaZseLeaf
import Derived.Shelf.Abstract
import Derived.Laws.StructEq
set_option linter.unusedSimpArgs false
set_option linter.unusedVariables false
namespace Go.Proofs.Ytjmhbbbpjbgmjaa
open Go.RowKit Go.Fwd Go.Shelf

theorem or_word (A B : BS) : WordFn 44 A B (A ||| B) := fun i _ w => by
  have := or1_any (W A i) (W B i) w
  rw [← W_or] at this; exact this
theorem and_word (A B : BS) : WordFn 45 A B (A &&& B) := fun i _ w => by
  have := and1_any (W A i) (W B i) w
  rw [← W_and] at this; exact this
theorem less_word (A B : BS) : WordFn 32 A B (A &&& ~~~B) := fun i h w => by
  have := less1_any (W A i) (W B i) w
  rw [← W_not B i h, ← W_and] at this; exact this
theorem not_word (A B : BS) : WordFn 46 A B (~~~A) := fun i h w => by
  have := not1_any (W A i) (W B i) w
  rw [← W_not A i h] at this; exact this

theorem ent44 : ∀ args w, (callFunc 44 args).run Try.prog w = .ok (.enter 44 args) w := enters_of Try.func44 (by kernel_rfl) rfl
theorem ent45 : ∀ args w, (callFunc 45 args).run Try.prog w = .ok (.enter 45 args) w := enters_of Try.func45 (by kernel_rfl) rfl
theorem ent32 : ∀ args w, (callFunc 32 args).run Try.prog w = .ok (.enter 32 args) w := enters_of Try.func32 (by kernel_rfl) rfl
theorem ent46 : ∀ args w, (callFunc 46 args).run Try.prog w = .ok (.enter 46 args) w := enters_of Try.func46 (by kernel_rfl) rfl


/-- The cells of a set. -/
def sc (S : BS) : Array Value := #[.int .u64 (wd S 0), .int .u64 (wd S 1), .int .u64 (wd S 2), .int .u64 (wd S 3)]
theorem sc_one (S : BS) : (sc S).all (·.oneCell') = true := by simp [sc, Value.oneCell']
theorem info24 : (Try.prog.info? 24).map (·.size) = some 4 := by kernel_rfl

set_option maxHeartbeats 400000 in
theorem or_any (A B : BS) (w : World) : Calls Try.prog 16 #[sv A, sv B] w (Ret (sv (A ||| B)) w) := by
  unfold sv
  go_enter Try.func16, Try.ntmps16
  go_wp2_with fail
  refine (each_any A B (A ||| B) 44 ent44 (or_word A B) _).mono ?_
  rintro e w1 ⟨rfl, hb1⟩
  have hrow : w1.heap[w.heap.size + 1 + 1]? = some (.cells #[.int .u64 0, .int .u64 0, .int .u64 0, .int .u64 0] 24 (0, 0)) := (hb1.block _ (by simp)).trans (heap_new _ _ _ (by simp))
  unfold sv
  go_wp2_with (refine wpList_store_rowTo' rfl 24 (.tmp 4) (.tmp 7) rfl rfl (w.heap.size + 1 + 1) (sc (A ||| B)) rfl rfl 24 _ hrow info24 rfl (sc_one _) ?_)
  refine bodyPost_ret (v := sv (A ||| B)) (results_cell_row rfl _ _ (w.heap.size + 1 + 1) 24 _ (0, 0) _ rfl (setRow_heap _ _ _ _ _ _ hrow) Try.underlying24 rfl info24) rfl ⟨rfl, ?_⟩
  exact Ex.setRow (((((Ex.refl _ _).alloc (Nat.le_refl _) _).alloc (by simp) _).alloc (by simp; omega) _).trans (hb1.mono (by simp; omega))) (by omega) _

set_option maxHeartbeats 400000 in
theorem and_any (A B : BS) (w : World) : Calls Try.prog 17 #[sv A, sv B] w (Ret (sv (A &&& B)) w) := by
  unfold sv
  go_enter Try.func17, Try.ntmps17
  go_wp2_with fail
  refine (each_any A B (A &&& B) 45 ent45 (and_word A B) _).mono ?_
  rintro e w1 ⟨rfl, hb1⟩
  have hrow : w1.heap[w.heap.size + 1 + 1]? = some (.cells #[.int .u64 0, .int .u64 0, .int .u64 0, .int .u64 0] 24 (0, 0)) := (hb1.block _ (by simp)).trans (heap_new _ _ _ (by simp))
  unfold sv
  go_wp2_with (refine wpList_store_rowTo' rfl 24 (.tmp 4) (.tmp 7) rfl rfl (w.heap.size + 1 + 1) (sc (A &&& B)) rfl rfl 24 _ hrow info24 rfl (sc_one _) ?_)
  refine bodyPost_ret (v := sv (A &&& B)) (results_cell_row rfl _ _ (w.heap.size + 1 + 1) 24 _ (0, 0) _ rfl (setRow_heap _ _ _ _ _ _ hrow) Try.underlying24 rfl info24) rfl ⟨rfl, ?_⟩
  exact Ex.setRow (((((Ex.refl _ _).alloc (Nat.le_refl _) _).alloc (by simp) _).alloc (by simp; omega) _).trans (hb1.mono (by simp; omega))) (by omega) _

set_option maxHeartbeats 400000 in
theorem less_any (A B : BS) (w : World) : Calls Try.prog 12 #[sv A, sv B] w (Ret (sv (A &&& ~~~B)) w) := by
  unfold sv
  go_enter Try.func12, Try.ntmps12
  go_wp2_with fail
  refine (each_any A B (A &&& ~~~B) 32 ent32 (less_word A B) _).mono ?_
  rintro e w1 ⟨rfl, hb1⟩
  have hrow : w1.heap[w.heap.size + 1 + 1]? = some (.cells #[.int .u64 0, .int .u64 0, .int .u64 0, .int .u64 0] 24 (0, 0)) := (hb1.block _ (by simp)).trans (heap_new _ _ _ (by simp))
  unfold sv
  go_wp2_with (refine wpList_store_rowTo' rfl 24 (.tmp 4) (.tmp 7) rfl rfl (w.heap.size + 1 + 1) (sc (A &&& ~~~B)) rfl rfl 24 _ hrow info24 rfl (sc_one _) ?_)
  refine bodyPost_ret (v := sv (A &&& ~~~B)) (results_cell_row rfl _ _ (w.heap.size + 1 + 1) 24 _ (0, 0) _ rfl (setRow_heap _ _ _ _ _ _ hrow) Try.underlying24 rfl info24) rfl ⟨rfl, ?_⟩
  exact Ex.setRow (((((Ex.refl _ _).alloc (Nat.le_refl _) _).alloc (by simp) _).alloc (by simp; omega) _).trans (hb1.mono (by simp; omega))) (by omega) _

set_option maxHeartbeats 400000 in
theorem not_any (A : BS) (w : World) : Calls Try.prog 18 #[sv A] w (Ret (sv (~~~A)) w) := by
  unfold sv
  go_enter Try.func18, Try.ntmps18
  go_wp2_with fail
  refine (each_any A A (~~~A) 46 ent46 (not_word A A) _).mono ?_
  rintro e w1 ⟨rfl, hb1⟩
  have hrow : w1.heap[w.heap.size + 1]? = some (.cells #[.int .u64 0, .int .u64 0, .int .u64 0, .int .u64 0] 24 (0, 0)) := (hb1.block _ (by simp)).trans (heap_new _ _ _ (by simp))
  unfold sv
  go_wp2_with (refine wpList_store_rowTo' rfl 24 (.tmp 2) (.tmp 5) rfl rfl (w.heap.size + 1) (sc (~~~A)) rfl rfl 24 _ hrow info24 rfl (sc_one _) ?_)
  refine bodyPost_ret (v := sv (~~~A)) (results_cell_row rfl _ _ (w.heap.size + 1) 24 _ (0, 0) _ rfl (setRow_heap _ _ _ _ _ _ hrow) Try.underlying24 rfl info24) rfl ⟨rfl, ?_⟩
  exact Ex.setRow ((((Ex.refl _ _).alloc (Nat.le_refl _) _).alloc (by simp) _).trans (hb1.mono (by simp; omega))) (by omega) _

theorem sv_zero : sv 0#256 = .agg #[.int .u64 0, .int .u64 0, .int .u64 0, .int .u64 0] := by simp [sv, wd_zero]
set_option maxHeartbeats 400000 in
theorem all_any (w : World) : Calls Try.prog 19 #[] w (Ret (sv (BitVec.allOnes 256)) w) := by
  go_enter Try.func19, Try.ntmps19
  go_wp2_with fail
  have hn := not_any 0#256 (w.alloc (.cells #[.int .u64 0, .int .u64 0, .int .u64 0, .int .u64 0] 24))
  rw [sv_zero] at hn
  refine hn.mono ?_
  rintro e w1 ⟨rfl, hb1⟩
  have hrow : w1.heap[w.heap.size]? = some (.cells #[.int .u64 0, .int .u64 0, .int .u64 0, .int .u64 0] 24 (0, 0)) := (hb1.block _ (by simp)).trans (heap_new _ _ _ rfl)
  rw [show ~~~(0#256) = BitVec.allOnes 256 from by decide]
  unfold sv
  go_wp2_with (refine wpList_store_rowTo' rfl 24 (.tmp 0) (.tmp 2) rfl rfl w.heap.size (sc (BitVec.allOnes 256)) rfl rfl 24 _ hrow info24 rfl (sc_one _) ?_)
  refine bodyPost_ret (v := sv (BitVec.allOnes 256)) (results_cell_row rfl _ _ w.heap.size 24 _ (0, 0) _ rfl (setRow_heap _ _ _ _ _ _ hrow) Try.underlying24 rfl info24) rfl ⟨rfl, ?_⟩
  exact Ex.setRow (((Ex.refl _ _).alloc (Nat.le_refl _) _).trans (hb1.mono (by simp))) (Nat.le_refl _) _

theorem run_sizeOf22 (w : World) : (sizeOf 22).run Try.prog w = .ok 1 w := by kernel_rfl
theorem eqIn24' (d : Nat) (a0 a1 a2 a3 b0 b1 b2 b3 : Int) (w : World) : (Op.equalIn (d + 1 + 1) 24 (.agg #[.int .u64 a0, .int .u64 a1, .int .u64 a2, .int .u64 a3]) (.agg #[.int .u64 b0, .int .u64 b1, .int .u64 b2, .int .u64 b3])).run Try.prog w =
    .ok (a0 == b0 && a1 == b1 && a2 == b2 && a3 == b3) w := by
  rw [Op.equalIn]
  simp only [Sem.run_bind, run_underlying Try.underlying24, Result.andThen_ok, run_sizeOf22]
  have hq : ∀ (a b : Int) (w : World), (Op.equalIn (d + 1) 22 (.int .u64 a) (.int .u64 b)).run Try.prog w = .ok (a == b) w := fun a b w => run_equalIn_int w d 22 .u64 .u64 a b Try.underlying22
  have hr : List.range' 0 4 = [0, 1, 2, 3] := rfl
  have hn : ∀ w : World, (isAgg 22).run Try.prog w = .ok false w := fun w => by kernel_rfl
  simp [part, hr, hn, Sem.run_bind, hq, Result.andThen]
  by_cases h0 : a0 = b0 <;> by_cases h1 : a1 = b1 <;> by_cases h2 : a2 = b2 <;> by_cases h3 : a3 = b3 <;> simp [h0, h1, h2, h3, hq, Result.andThen]
theorem eqIn24 (a0 a1 a2 a3 b0 b1 b2 b3 : Int) (w : World) : (Op.equalIn 10000 24 (.agg #[.int .u64 a0, .int .u64 a1, .int .u64 a2, .int .u64 a3]) (.agg #[.int .u64 b0, .int .u64 b1, .int .u64 b2, .int .u64 b3])).run Try.prog w =
    .ok (a0 == b0 && a1 == b1 && a2 == b2 && a3 == b3) w := eqIn24' 9998 _ _ _ _ _ _ _ _ w

theorem sv_beq (S T : BS) : (wd S 0 == wd T 0 && wd S 1 == wd T 1 && wd S 2 == wd T 2 && wd S 3 == wd T 3) = (S == T) := by
  by_cases h : S = T
  · subst h; simp
  · have : (S == T) = false := by simp [h]
    rw [this]
    cases hb : (wd S 0 == wd T 0 && wd S 1 == wd T 1 && wd S 2 == wd T 2 && wd S 3 == wd T 3) with
    | false => rfl
    | true =>
      simp only [Bool.and_eq_true, beq_iff_eq] at hb
      refine absurd (sv_inj fun i hi => ?_) h
      match i, hi with
      | 0, _ => exact hb.1.1.1
      | 1, _ => exact hb.1.1.2
      | 2, _ => exact hb.1.2
      | 3, _ => exact hb.2
theorem sv_beq0 (S : BS) : (wd S 0 == 0 && wd S 1 == 0 && wd S 2 == 0 && wd S 3 == 0) = (S == 0#256) := by
  have := sv_beq S 0#256
  simpa only [wd_zero] using this
theorem sv_bne0 (S : BS) : (!wd S 0 == 0 || !wd S 1 == 0 || !wd S 2 == 0 || !wd S 3 == 0) = !(S == 0#256) := by
  rw [← sv_beq0]; simp

set_option maxRecDepth 100000 in
set_option maxHeartbeats 400000 in
theorem within_any (A B : BS) (w : World) : Calls Try.prog 20 #[sv A, sv B] w (Ret (.bool (A &&& ~~~B == 0#256)) w) := by
  unfold sv
  have he := eqIn24
  go_enter Try.func20, Try.ntmps20
  go_wp2_with fail
  refine (less_any A B _).mono ?_
  rintro e w1 ⟨rfl, hb1⟩
  unfold sv
  go_wp2
  go_ret
  exact ⟨by rw [← sv_beq0]; rfl, (((Ex.refl _ _).alloc (Nat.le_refl _) _).alloc (by simp) _).trans (hb1.mono (by simp; omega))⟩

set_option maxRecDepth 100000 in
set_option maxHeartbeats 400000 in
theorem meets_any (A B : BS) (w : World) : Calls Try.prog 21 #[sv A, sv B] w (Ret (.bool (!(A &&& B == 0#256))) w) := by
  unfold sv
  have he := eqIn24
  go_enter Try.func21, Try.ntmps21
  go_wp2_with fail
  refine (and_any A B _).mono ?_
  rintro e w1 ⟨rfl, hb1⟩
  unfold sv
  go_wp2
  go_ret
  exact ⟨by rw [← sv_bne0]; rfl, (((Ex.refl _ _).alloc (Nat.le_refl _) _).alloc (by simp) _).trans (hb1.mono (by simp; omega))⟩
end Go.Proofs.Ytjmhbbbpjbgmjaa
