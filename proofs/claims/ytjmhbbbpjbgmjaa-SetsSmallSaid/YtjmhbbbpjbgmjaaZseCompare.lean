/-
  The contract of sets.Compare.
-/
import Derived.Test.YtjmhbbbpjbgmjaaZseSteps
set_option linter.unusedSimpArgs false
set_option linter.unusedVariables false
namespace Go.Proofs.Ytjmhbbbpjbgmjaa
open Go.RowKit Go.Fwd Go.Shelf

/-- The order of sets. -/
def cmpS (A B : BS) : Int := match firstOf ((A &&& ~~~B) ||| (B &&& ~~~A)) with | none => 0 | some c => if A.getLsbD c then -1 else 1
theorem firstOf_lt {S : BS} {c : Nat} (h : firstOf S = some c) : c < 256 ∧ S.getLsbD c = true := by
  have := List.mem_of_head? h
  simp [bytesOf, bytesTo] at this
  exact this

set_option maxRecDepth 100000 in
set_option maxHeartbeats 2000000 in
theorem compare_any (A B : BS) (w : World) : Calls Try.prog 11 #[sv A, sv B] w (Ret (.int .i64 (cmpS A B)) w) := by
  have hl1 : ∀ W, Calls Try.prog 12 #[sv A, sv B] W (Ret (sv (A &&& ~~~B)) W) := less_any _ _
  have hl2 : ∀ W, Calls Try.prog 12 #[sv B, sv A] W (Ret (sv (B &&& ~~~A)) W) := less_any _ _
  have ho : ∀ W, Calls Try.prog 16 #[sv (A &&& ~~~B), sv (B &&& ~~~A)] W (Ret (sv ((A &&& ~~~B) ||| (B &&& ~~~A))) W) := or_any _ _
  have hf := first_any ((A &&& ~~~B) ||| (B &&& ~~~A))
  have hh := fun c hc W => has_any A c W hc
  unfold cmpS
  have hlt := @firstOf_lt ((A &&& ~~~B) ||| (B &&& ~~~A))
  generalize (A &&& ~~~B) ||| (B &&& ~~~A) = D at *
  generalize A &&& ~~~B = D1 at *
  generalize B &&& ~~~A = D2 at *
  unfold sv
  rcases hq : firstOf D with _ | c
  · rw [hq] at hf
    clear hq hh hlt
    go_enter Try.func11, Try.ntmps11
    go_wp2_with fail
    obtain ⟨w1, hw1⟩ : ∃ w1, w1 = (w.alloc (.cells (sc A) 24)).alloc (.cells (sc B) 24) := ⟨_, rfl⟩
    have hr1 : w1.heap[w.heap.size]? = some (.cells (sc A) 24 (0, 0)) := by rw [hw1]; exact (Below.heap_alloc _ _ _ (by simp)).trans (heap_new _ _ _ rfl)
    have hr2 : w1.heap[w.heap.size + 1]? = some (.cells (sc B) 24 (0, 0)) := by rw [hw1]; exact heap_new _ _ _ (by simp)
    have hb1 : Ex w.heap.size w w1 := by rw [hw1]; exact ((Ex.refl _ _).alloc (Nat.le_refl _) _).alloc (by simp) _
    show Code.wp _ _ _ _ ((w.alloc (.cells (sc A) 24)).alloc (.cells (sc B) 24))
    rw [← hw1]
    clear hw1
    refine wp_region_fwd 13 (by kernel_rfl) (by kernel_rfl) ?_
    simp only [List.take_succ_cons, List.take_zero, List.drop_succ_cons, List.drop_zero]
    refine fwd_load rfl rfl (by rintro ρ W ⟨_, _, _, hr⟩; simp [Op.operands, Call.operands, readsOf, All, env, Is, Act.eval, accOf] at hr; exact hr) hr1 Try.underlying24 rfl info24 ?_
    refine fwd_load rfl rfl (by rintro ρ W ⟨_, _, _, hr⟩; simp [Op.operands, Call.operands, readsOf, All, env, Is, Act.eval, accOf] at hr; exact hr) hr2 Try.underlying24 rfl info24 ?_
    refine fwd_call (e := ?_) (f := ?_) (args := ?_) rfl ?_ ?_ ?_
    rotate_left 3
    · rintro ρ W ⟨h1, h2, hW, hr⟩
      try simp [Op.operands, Call.operands, readsOf, All, env, Is, Act.eval, accOf] at hr
      go_simp
      try go_bits
      refine ⟨?_, ?_⟩ <;> rfl
    · exact hl1
    refine fwd_load rfl rfl (by rintro ρ W ⟨_, _, _, hr⟩; simp [Op.operands, Call.operands, readsOf, All, env, Is, Act.eval, accOf] at hr; exact hr) hr2 Try.underlying24 rfl info24 ?_
    refine fwd_load rfl rfl (by rintro ρ W ⟨_, _, _, hr⟩; simp [Op.operands, Call.operands, readsOf, All, env, Is, Act.eval, accOf] at hr; exact hr) hr1 Try.underlying24 rfl info24 ?_
    refine fwd_call (e := ?_) (f := ?_) (args := ?_) rfl ?_ ?_ ?_
    rotate_left 3
    · rintro ρ W ⟨h1, h2, hW, hr⟩
      try simp [Op.operands, Call.operands, readsOf, All, env, Is, Act.eval, accOf] at hr
      go_simp
      try go_bits
      refine ⟨?_, ?_⟩ <;> rfl
    · exact hl2
    refine fwd_call (e := ?_) (f := ?_) (args := ?_) rfl ?_ ?_ ?_
    rotate_left 3
    · rintro ρ W ⟨h1, h2, hW, hr⟩
      try simp [Op.operands, Call.operands, readsOf, All, env, Is, Act.eval, accOf] at hr
      go_simp
      try go_bits
      refine ⟨?_, ?_⟩ <;> rfl
    · exact ho
    refine fwd_call (e := ?_) (f := ?_) (args := ?_) rfl ?_ ?_ ?_
    rotate_left 3
    · rintro ρ W ⟨h1, h2, hW, hr⟩
      try simp [Op.operands, Call.operands, readsOf, All, env, Is, Act.eval, accOf] at hr
      go_simp
      try go_bits
      refine ⟨?_, ?_⟩ <;> rfl
    · exact hf
    refine fwd_is (e := ?_) rfl ?_ ?_
    rotate_left
    · rintro ρ W ⟨h1, h2, hW, hr⟩
      try simp [Op.operands, Call.operands, readsOf, All, env, Is, Act.eval, accOf] at hr
      go_simp
      try go_bits
      try rfl
    refine fwd_is (e := ?_) rfl ?_ ?_
    rotate_left
    · rintro ρ W ⟨h1, h2, hW, hr⟩
      try simp [Op.operands, Call.operands, readsOf, All, env, Is, Act.eval, accOf] at hr
      go_simp
      try go_bits
      try rfl
    refine fwd_is (e := ?_) rfl ?_ ?_
    rotate_left
    · rintro ρ W ⟨h1, h2, hW, hr⟩
      try simp [Op.operands, Call.operands, readsOf, All, env, Is, Act.eval, accOf] at hr
      go_simp
      try go_bits
      try rfl
    refine fwd_is (e := ?_) rfl ?_ ?_
    rotate_left
    · rintro ρ W ⟨h1, h2, hW, hr⟩
      try simp [Op.operands, Call.operands, readsOf, All, env, Is, Act.eval, accOf] at hr
      go_simp
      try go_bits
      try rfl
    refine fwd_is (e := ?_) rfl ?_ ?_
    rotate_left
    · rintro ρ W ⟨h1, h2, hW, hr⟩
      try simp [Op.operands, Call.operands, readsOf, All, env, Is, Act.eval, accOf] at hr
      go_simp
      try go_bits
      try rfl
    refine fwd_nil ?_
    intro w9 hg9
    simp [EndAt, accOf, Is, Act.put]
    go_wp2
    go_ret
    exact ⟨rfl, hb1.trans (Ex.mono hg9 hb1.size)⟩
  · rw [hq] at hf
    have hc := hlt hq
    replace hh := hh c hc.1
    clear hq hlt hc
    by_cases hbit : A.getLsbD c = true
    · rw [hbit] at hh
      simp only [hbit]
      clear hbit
      go_enter Try.func11, Try.ntmps11
      go_wp2_with fail
      obtain ⟨w1, hw1⟩ : ∃ w1, w1 = (w.alloc (.cells (sc A) 24)).alloc (.cells (sc B) 24) := ⟨_, rfl⟩
      have hr1 : w1.heap[w.heap.size]? = some (.cells (sc A) 24 (0, 0)) := by rw [hw1]; exact (Below.heap_alloc _ _ _ (by simp)).trans (heap_new _ _ _ rfl)
      have hr2 : w1.heap[w.heap.size + 1]? = some (.cells (sc B) 24 (0, 0)) := by rw [hw1]; exact heap_new _ _ _ (by simp)
      have hb1 : Ex w.heap.size w w1 := by rw [hw1]; exact ((Ex.refl _ _).alloc (Nat.le_refl _) _).alloc (by simp) _
      show Code.wp _ _ _ _ ((w.alloc (.cells (sc A) 24)).alloc (.cells (sc B) 24))
      rw [← hw1]
      clear hw1
      refine wp_region_fwd 13 (by kernel_rfl) (by kernel_rfl) ?_
      simp only [List.take_succ_cons, List.take_zero, List.drop_succ_cons, List.drop_zero]
      refine fwd_load rfl rfl (by rintro ρ W ⟨_, _, _, hr⟩; simp [Op.operands, Call.operands, readsOf, All, env, Is, Act.eval, accOf] at hr; exact hr) hr1 Try.underlying24 rfl info24 ?_
      refine fwd_load rfl rfl (by rintro ρ W ⟨_, _, _, hr⟩; simp [Op.operands, Call.operands, readsOf, All, env, Is, Act.eval, accOf] at hr; exact hr) hr2 Try.underlying24 rfl info24 ?_
      refine fwd_call (e := ?_) (f := ?_) (args := ?_) rfl ?_ ?_ ?_
      rotate_left 3
      · rintro ρ W ⟨h1, h2, hW, hr⟩
        try simp [Op.operands, Call.operands, readsOf, All, env, Is, Act.eval, accOf] at hr
        go_simp
        try go_bits
        refine ⟨?_, ?_⟩ <;> rfl
      · exact hl1
      refine fwd_load rfl rfl (by rintro ρ W ⟨_, _, _, hr⟩; simp [Op.operands, Call.operands, readsOf, All, env, Is, Act.eval, accOf] at hr; exact hr) hr2 Try.underlying24 rfl info24 ?_
      refine fwd_load rfl rfl (by rintro ρ W ⟨_, _, _, hr⟩; simp [Op.operands, Call.operands, readsOf, All, env, Is, Act.eval, accOf] at hr; exact hr) hr1 Try.underlying24 rfl info24 ?_
      refine fwd_call (e := ?_) (f := ?_) (args := ?_) rfl ?_ ?_ ?_
      rotate_left 3
      · rintro ρ W ⟨h1, h2, hW, hr⟩
        try simp [Op.operands, Call.operands, readsOf, All, env, Is, Act.eval, accOf] at hr
        go_simp
        try go_bits
        refine ⟨?_, ?_⟩ <;> rfl
      · exact hl2
      refine fwd_call (e := ?_) (f := ?_) (args := ?_) rfl ?_ ?_ ?_
      rotate_left 3
      · rintro ρ W ⟨h1, h2, hW, hr⟩
        try simp [Op.operands, Call.operands, readsOf, All, env, Is, Act.eval, accOf] at hr
        go_simp
        try go_bits
        refine ⟨?_, ?_⟩ <;> rfl
      · exact ho
      refine fwd_call (e := ?_) (f := ?_) (args := ?_) rfl ?_ ?_ ?_
      rotate_left 3
      · rintro ρ W ⟨h1, h2, hW, hr⟩
        try simp [Op.operands, Call.operands, readsOf, All, env, Is, Act.eval, accOf] at hr
        go_simp
        try go_bits
        refine ⟨?_, ?_⟩ <;> rfl
      · exact hf
      refine fwd_is (e := ?_) rfl ?_ ?_
      rotate_left
      · rintro ρ W ⟨h1, h2, hW, hr⟩
        try simp [Op.operands, Call.operands, readsOf, All, env, Is, Act.eval, accOf] at hr
        go_simp
        try go_bits
        try rfl
      refine fwd_is (e := ?_) rfl ?_ ?_
      rotate_left
      · rintro ρ W ⟨h1, h2, hW, hr⟩
        try simp [Op.operands, Call.operands, readsOf, All, env, Is, Act.eval, accOf] at hr
        go_simp
        try go_bits
        try rfl
      refine fwd_is (e := ?_) rfl ?_ ?_
      rotate_left
      · rintro ρ W ⟨h1, h2, hW, hr⟩
        try simp [Op.operands, Call.operands, readsOf, All, env, Is, Act.eval, accOf] at hr
        go_simp
        try go_bits
        try rfl
      refine fwd_is (e := ?_) rfl ?_ ?_
      rotate_left
      · rintro ρ W ⟨h1, h2, hW, hr⟩
        try simp [Op.operands, Call.operands, readsOf, All, env, Is, Act.eval, accOf] at hr
        go_simp
        try go_bits
        try rfl
      refine fwd_is (e := ?_) rfl ?_ ?_
      rotate_left
      · rintro ρ W ⟨h1, h2, hW, hr⟩
        try simp [Op.operands, Call.operands, readsOf, All, env, Is, Act.eval, accOf] at hr
        go_simp
        try go_bits
        try rfl
      refine fwd_nil ?_
      intro w9 hg9
      simp [EndAt, accOf, Is, Act.put]
      have hrA := (hg9.block w.heap.size (by have := (Array.getElem?_eq_some_iff.1 hr1).1; omega)).trans hr1
      obtain ⟨c0, c1, c2, c3⟩ := sc_cells hrA
      go_wp2_with (go_at_call 14; refine (hh _).mono ?_; rintro e w2 ⟨rfl, hb2⟩)
      go_ret
      exact ⟨rfl, (hb1.trans (Ex.mono hg9 hb1.size)).trans (hb2.mono (by have := hb1.size; have := hg9.size; omega))⟩
    · have hbf : A.getLsbD c = false := by simpa using hbit
      rw [hbf] at hh
      simp only [hbf]
      clear hbit hbf
      go_enter Try.func11, Try.ntmps11
      go_wp2_with fail
      obtain ⟨w1, hw1⟩ : ∃ w1, w1 = (w.alloc (.cells (sc A) 24)).alloc (.cells (sc B) 24) := ⟨_, rfl⟩
      have hr1 : w1.heap[w.heap.size]? = some (.cells (sc A) 24 (0, 0)) := by rw [hw1]; exact (Below.heap_alloc _ _ _ (by simp)).trans (heap_new _ _ _ rfl)
      have hr2 : w1.heap[w.heap.size + 1]? = some (.cells (sc B) 24 (0, 0)) := by rw [hw1]; exact heap_new _ _ _ (by simp)
      have hb1 : Ex w.heap.size w w1 := by rw [hw1]; exact ((Ex.refl _ _).alloc (Nat.le_refl _) _).alloc (by simp) _
      show Code.wp _ _ _ _ ((w.alloc (.cells (sc A) 24)).alloc (.cells (sc B) 24))
      rw [← hw1]
      clear hw1
      refine wp_region_fwd 13 (by kernel_rfl) (by kernel_rfl) ?_
      simp only [List.take_succ_cons, List.take_zero, List.drop_succ_cons, List.drop_zero]
      refine fwd_load rfl rfl (by rintro ρ W ⟨_, _, _, hr⟩; simp [Op.operands, Call.operands, readsOf, All, env, Is, Act.eval, accOf] at hr; exact hr) hr1 Try.underlying24 rfl info24 ?_
      refine fwd_load rfl rfl (by rintro ρ W ⟨_, _, _, hr⟩; simp [Op.operands, Call.operands, readsOf, All, env, Is, Act.eval, accOf] at hr; exact hr) hr2 Try.underlying24 rfl info24 ?_
      refine fwd_call (e := ?_) (f := ?_) (args := ?_) rfl ?_ ?_ ?_
      rotate_left 3
      · rintro ρ W ⟨h1, h2, hW, hr⟩
        try simp [Op.operands, Call.operands, readsOf, All, env, Is, Act.eval, accOf] at hr
        go_simp
        try go_bits
        refine ⟨?_, ?_⟩ <;> rfl
      · exact hl1
      refine fwd_load rfl rfl (by rintro ρ W ⟨_, _, _, hr⟩; simp [Op.operands, Call.operands, readsOf, All, env, Is, Act.eval, accOf] at hr; exact hr) hr2 Try.underlying24 rfl info24 ?_
      refine fwd_load rfl rfl (by rintro ρ W ⟨_, _, _, hr⟩; simp [Op.operands, Call.operands, readsOf, All, env, Is, Act.eval, accOf] at hr; exact hr) hr1 Try.underlying24 rfl info24 ?_
      refine fwd_call (e := ?_) (f := ?_) (args := ?_) rfl ?_ ?_ ?_
      rotate_left 3
      · rintro ρ W ⟨h1, h2, hW, hr⟩
        try simp [Op.operands, Call.operands, readsOf, All, env, Is, Act.eval, accOf] at hr
        go_simp
        try go_bits
        refine ⟨?_, ?_⟩ <;> rfl
      · exact hl2
      refine fwd_call (e := ?_) (f := ?_) (args := ?_) rfl ?_ ?_ ?_
      rotate_left 3
      · rintro ρ W ⟨h1, h2, hW, hr⟩
        try simp [Op.operands, Call.operands, readsOf, All, env, Is, Act.eval, accOf] at hr
        go_simp
        try go_bits
        refine ⟨?_, ?_⟩ <;> rfl
      · exact ho
      refine fwd_call (e := ?_) (f := ?_) (args := ?_) rfl ?_ ?_ ?_
      rotate_left 3
      · rintro ρ W ⟨h1, h2, hW, hr⟩
        try simp [Op.operands, Call.operands, readsOf, All, env, Is, Act.eval, accOf] at hr
        go_simp
        try go_bits
        refine ⟨?_, ?_⟩ <;> rfl
      · exact hf
      refine fwd_is (e := ?_) rfl ?_ ?_
      rotate_left
      · rintro ρ W ⟨h1, h2, hW, hr⟩
        try simp [Op.operands, Call.operands, readsOf, All, env, Is, Act.eval, accOf] at hr
        go_simp
        try go_bits
        try rfl
      refine fwd_is (e := ?_) rfl ?_ ?_
      rotate_left
      · rintro ρ W ⟨h1, h2, hW, hr⟩
        try simp [Op.operands, Call.operands, readsOf, All, env, Is, Act.eval, accOf] at hr
        go_simp
        try go_bits
        try rfl
      refine fwd_is (e := ?_) rfl ?_ ?_
      rotate_left
      · rintro ρ W ⟨h1, h2, hW, hr⟩
        try simp [Op.operands, Call.operands, readsOf, All, env, Is, Act.eval, accOf] at hr
        go_simp
        try go_bits
        try rfl
      refine fwd_is (e := ?_) rfl ?_ ?_
      rotate_left
      · rintro ρ W ⟨h1, h2, hW, hr⟩
        try simp [Op.operands, Call.operands, readsOf, All, env, Is, Act.eval, accOf] at hr
        go_simp
        try go_bits
        try rfl
      refine fwd_is (e := ?_) rfl ?_ ?_
      rotate_left
      · rintro ρ W ⟨h1, h2, hW, hr⟩
        try simp [Op.operands, Call.operands, readsOf, All, env, Is, Act.eval, accOf] at hr
        go_simp
        try go_bits
        try rfl
      refine fwd_nil ?_
      intro w9 hg9
      simp [EndAt, accOf, Is, Act.put]
      have hrA := (hg9.block w.heap.size (by have := (Array.getElem?_eq_some_iff.1 hr1).1; omega)).trans hr1
      obtain ⟨c0, c1, c2, c3⟩ := sc_cells hrA
      go_wp2_with (go_at_call 14; refine (hh _).mono ?_; rintro e w2 ⟨rfl, hb2⟩)
      go_ret
      exact ⟨rfl, (hb1.trans (Ex.mono hg9 hb1.size)).trans (hb2.mono (by have := hb1.size; have := hg9.size; omega))⟩
end Go.Proofs.Ytjmhbbbpjbgmjaa
