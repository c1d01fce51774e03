/-
  The contracts of the small functions of package sets.
-/
import Derived.Test.YtjmhbbbpjbgmjaaRows
import Derived.Test.YtjmhbbbpjbgmjaaZabBase
import Derived.Test.YtjmhbbbpjbgmjaaZsePlain
import Derived.WalkKit
import Derived.WalkSpells
import Derived.WalkLawsBesides
import Derived.StillTailTactics
import Derived.Outline
set_option linter.unusedSimpArgs false
set_option linter.unusedVariables false
namespace Go.Proofs.Ytjmhbbbpjbgmjaa
open Go.RowKit Go.Fwd

theorem or1_any (x y : BitVec 64) (w : World) :
    Calls Try.prog 44 #[.int .u64 (wn x), .int .u64 (wn y)] w (Same (.int .u64 (wn (x ||| y))) w) := by
  go_enter Try.func44, Try.ntmps44
  go_wp2
  go_ret
  exact ⟨by rw [← bits_or']; rfl, rfl⟩
theorem and1_any (x y : BitVec 64) (w : World) :
    Calls Try.prog 45 #[.int .u64 (wn x), .int .u64 (wn y)] w (Same (.int .u64 (wn (x &&& y))) w) := by
  go_enter Try.func45, Try.ntmps45
  go_wp2
  go_ret
  exact ⟨by rw [← bits_and']; rfl, rfl⟩
theorem less1_any (x y : BitVec 64) (w : World) :
    Calls Try.prog 32 #[.int .u64 (wn x), .int .u64 (wn y)] w (Same (.int .u64 (wn (x &&& ~~~y))) w) := by
  go_enter Try.func32, Try.ntmps32
  go_wp2
  go_ret
  exact ⟨by rw [← bits_andNot']; rfl, rfl⟩
theorem not1_any (x y : BitVec 64) (w : World) :
    Calls Try.prog 46 #[.int .u64 (wn x), .int .u64 (wn y)] w (Same (.int .u64 (wn (~~~x))) w) := by
  go_enter Try.func46, Try.ntmps46
  go_wp2
  go_ret
  exact ⟨by rw [← bits_not']; rfl, rfl⟩

theorem look4 (S : BS) (i : Nat) (h : i < 4) : [Value.int .u64 (wd S 0), .int .u64 (wd S 1), .int .u64 (wd S 2), .int .u64 (wd S 3)][i]? = some (.int .u64 (wd S i)) := by
  match i, h with
  | 0, _ => rfl
  | 1, _ => rfl
  | 2, _ => rfl
  | 3, _ => rfl

theorem has_any (S : BS) (x : Nat) (w : World) (h1 : x < 256) :
    Calls Try.prog 14 #[sv S, .int .u8 x] w (Ret (.bool (S.getLsbD x)) w) := by
  unfold sv
  have hl := look4 S (x / 64) (by omega)
  go_enter Try.func14, Try.ntmps14
  go_wp2
  go_ret
  exact ⟨by rw [← has_bit]; rfl, (Ex.refl _ _).alloc (Nat.le_refl _) _⟩

/-- A function value that computes C out of A and B, word by word. -/
def WordFn (g : Nat) (A B C : BS) : Prop := ∀ i, i < 4 → ∀ w, Calls Try.prog g #[.int .u64 (wd A i), .int .u64 (wd B i)] w (Same (.int .u64 (wd C i)) w)

set_option maxHeartbeats 1000000 in
set_option maxRecDepth 100000 in
theorem each_any (A B C : BS) (g : Nat) (hcf : ∀ args w, (callFunc g args).run Try.prog w = .ok (.enter g args) w) (hg : WordFn g A B C) (w : World) :
    Calls Try.prog 31 #[sv A, sv B, .func (.func g) #[] #[]] w (Ret (sv C) w) := by
  unfold sv
  have h0 := hg 0 (by omega)
  have h1 := hg 1 (by omega)
  have h2 := hg 2 (by omega)
  have h3 := hg 3 (by omega)
  clear hg
  go_enter Try.func31, Try.ntmps31
  go_wp2
  refine wp_loop_rounds 5 ?_
  rw [rounds_succ]
  go_wp2_with fail
  refine region_tail 10 (by kernel_rfl) (by kernel_rfl) ?_
  simp only [List.take_succ_cons, List.take_zero, List.drop_succ_cons, List.drop_zero]
  repeat still_step
  still_call (h0 _)
  repeat still_step
  refine wpStill_nil ?_
  go_wp2_with fail
  rw [rounds_succ]
  go_wp2_with fail
  refine region_tail 10 (by kernel_rfl) (by kernel_rfl) ?_
  simp only [List.take_succ_cons, List.take_zero, List.drop_succ_cons, List.drop_zero]
  repeat still_step
  still_call (h1 _)
  repeat still_step
  refine wpStill_nil ?_
  go_wp2_with fail
  rw [rounds_succ]
  go_wp2_with fail
  refine region_tail 10 (by kernel_rfl) (by kernel_rfl) ?_
  simp only [List.take_succ_cons, List.take_zero, List.drop_succ_cons, List.drop_zero]
  repeat still_step
  still_call (h2 _)
  repeat still_step
  refine wpStill_nil ?_
  go_wp2_with fail
  rw [rounds_succ]
  go_wp2_with fail
  refine region_tail 10 (by kernel_rfl) (by kernel_rfl) ?_
  simp only [List.take_succ_cons, List.take_zero, List.drop_succ_cons, List.drop_zero]
  repeat still_step
  still_call (h3 _)
  repeat still_step
  refine wpStill_nil ?_
  go_wp2_with fail
  rw [rounds_succ]
  go_wp2_with fail
  refine bodyPost_ret (v := .agg #[.int .u64 (wd C 0), .int .u64 (wd C 1), .int .u64 (wd C 2), .int .u64 (wd C 3)]) (by simp [results, Try.results31, go_sem]) rfl ⟨rfl, ?_⟩
  repeat (first | exact Ex.refl _ _ | refine Ex.alloc ?_ (by simp; try omega) _ | refine Ex.setCell ?_ (by simp; try omega) _ | refine Ex.drew ?_)
end Go.Proofs.Ytjmhbbbpjbgmjaa
