/-
  Steps for the law of regions whose order is open.
-/
import Derived.Test.YtjmhbbbpjbgmjaaZseIter
set_option linter.unusedSimpArgs false
set_option linter.unusedVariables false
namespace Go.Proofs.Ytjmhbbbpjbgmjaa
open Go.RowKit Go.Fwd Go.Shelf

set_option maxRecDepth 100000 in
set_option maxHeartbeats 1000000 in
theorem next_any (S : BS) (c : Nat) (hc : c < 256) (w : World) : Calls Try.prog 29 #[sv S, .int .u8 c] w (Ret (firstV (if c = 255 then none else firstOf (S &&& rangeS (c + 1) 255))) w) := by
  unfold sv
  by_cases h255 : c = 255
  · subst h255
    go_enter Try.func29, Try.ntmps29
    go_wp2
    go_ret2
    exact ⟨rfl, (Ex.refl _ _).alloc (Nat.le_refl _) _⟩
  · rw [if_neg h255]
    have hcf : ((c : Int) == 255) = false := by simp; omega
    have hc5 : (c : Int) + 1 < 256 := by omega
    have hr : ∀ W, Calls Try.prog 30 #[.int .u8 ((c : Int) + 1), .int .u8 255] W (Ret (sv (rangeS (c + 1) 255)) W) := fun W => range_any (c + 1) 255 (by omega) (by omega) W
    have ha : ∀ W, Calls Try.prog 17 #[sv S, sv (rangeS (c + 1) 255)] W (Ret (sv (S &&& rangeS (c + 1) 255)) W) := and_any _ _
    have hf := first_any (S &&& rangeS (c + 1) 255)
    generalize rangeS (c + 1) 255 = R at *
    rcases ho : firstOf (S &&& R) with _ | x
    all_goals
      rw [ho] at hf
      clear ho
      go_enter Try.func29, Try.ntmps29
      go_wp2_with fail
      refine wp_region_fwd 10 (by kernel_rfl) (by kernel_rfl) ?_
      simp only [List.take_succ_cons, List.take_zero, List.drop_succ_cons, List.drop_zero]
      refine fwd_load rfl rfl (by rintro ρ W ⟨_, _, _, hr⟩; simp [Op.operands, Call.operands, readsOf, All, env, Is, Act.eval] at hr; exact hr) (heap_new w (.cells (sc S) 24) _ rfl) Try.underlying24 rfl info24 ?_
      refine fwd_is (e := ?_) rfl ?_ ?_
      rotate_left
      · rintro ρ W ⟨h1, h2, hW, hr⟩
        simp [Op.operands, Call.operands, readsOf, All, env, Is, Act.eval, accOf] at hr
        go_simp
        try go_bits
        rfl
      refine fwd_is (e := ?_) rfl ?_ ?_
      rotate_left
      · rintro ρ W ⟨h1, h2, hW, hr⟩
        simp [Op.operands, Call.operands, readsOf, All, env, Is, Act.eval, accOf] at hr
        go_simp
        try go_bits
        rfl
      refine fwd_call (e := ?_) (f := ?_) (args := ?_) rfl ?_ ?_ ?_
      rotate_left 3
      · rintro ρ W ⟨h1, h2, hW, hr⟩
        simp [Op.operands, Call.operands, readsOf, All, env, Is, Act.eval, accOf] at hr
        go_simp
        try go_bits
        refine ⟨?_, ?_⟩ <;> rfl
      · exact hr
      refine fwd_call (e := ?_) (f := ?_) (args := ?_) rfl ?_ ?_ ?_
      rotate_left 3
      · rintro ρ W ⟨h1, h2, hW, hr⟩
        simp [Op.operands, Call.operands, readsOf, All, env, Is, Act.eval, accOf] at hr
        go_simp
        try go_bits
        refine ⟨?_, ?_⟩ <;> rfl
      · exact ha
      refine fwd_call (e := ?_) (f := ?_) (args := ?_) rfl ?_ ?_ ?_
      rotate_left 3
      · rintro ρ W ⟨h1, h2, hW, hr⟩
        simp [Op.operands, Call.operands, readsOf, All, env, Is, Act.eval, accOf] at hr
        go_simp
        try go_bits
        refine ⟨?_, ?_⟩ <;> rfl
      · exact hf
      refine fwd_is (e := ?_) rfl ?_ ?_
      rotate_left
      · rintro ρ W ⟨h1, h2, hW, hr⟩
        simp [Op.operands, Call.operands, readsOf, All, env, Is, Act.eval, accOf] at hr
        go_simp
        try go_bits
        rfl
      refine fwd_is (e := ?_) rfl ?_ ?_
      rotate_left
      · rintro ρ W ⟨h1, h2, hW, hr⟩
        simp [Op.operands, Call.operands, readsOf, All, env, Is, Act.eval, accOf] at hr
        go_simp
        try go_bits
        rfl
      refine fwd_is (e := ?_) rfl ?_ ?_
      rotate_left
      · rintro ρ W ⟨h1, h2, hW, hr⟩
        simp [Op.operands, Call.operands, readsOf, All, env, Is, Act.eval, accOf] at hr
        go_simp
        try go_bits
        rfl
      refine fwd_is (e := ?_) rfl ?_ ?_
      rotate_left
      · rintro ρ W ⟨h1, h2, hW, hr⟩
        simp [Op.operands, Call.operands, readsOf, All, env, Is, Act.eval, accOf] at hr
        go_simp
        try go_bits
        rfl
      refine fwd_nil ?_
      intro w' hg'
      simp [EndAt, accOf, Is, Act.put]
      go_wp2
      go_ret2
      exact ⟨rfl, ((Ex.refl _ _).alloc (Nat.le_refl _) _).trans (Ex.mono hg' (by simp))⟩
end Go.Proofs.Ytjmhbbbpjbgmjaa
