/-
  rx: Light.
-/
import Derived.Test.YtaocggpaiafeeaaZrxNodes
set_option linter.unusedSimpArgs false
set_option linter.unusedVariables false
namespace Go.Ab
open Go Go.RowKit Go.Fwd Go.Proofs

theorem nodes_at (t : Tr) (h : (pre t).length < 2 ^ 62) : Pure (ITP Try.prog) Try.prog 36 [enc t] (.iter (rowsT (pre t))) := nodes_pure _ t (Nat.le_refl _) h
theorem strip_encL (t : Tr) : stripL [enc t] = [enc t] := by simp [stripL, strip_enc]
theorem okTrim_encL (n : Nat) (t : Tr) : okTrimL n [enc t] = true := by simp [okTrimL, okTrim_enc]
theorem ent35 : Ent Try.prog 35 := enters_of Try.func35 (by kernel_rfl) rfl
set_option maxRecDepth 100000 in
set_option maxHeartbeats 2000000 in
theorem light_pure (t : Tr) (h : (pre t).length < 2 ^ 62) : Pure (ITP Try.prog) Try.prog 35 [enc t] (.raw (.bool (decide ((pre t).length ≤ 10000)))) := by
  have hnodes := nodes_at t h
  obtain ⟨N, hN⟩ : ∃ N, (pre t).length = N := ⟨_, rfl⟩
  have hrl : (rowsT (pre t)).length = N := by simp [rowsT, hN]
  obtain ⟨d, hd⟩ : ∃ d, Try.f35.body = some d := ⟨_, rfl⟩
  refine pure_of mix Try.func35 hd ent35 ?_
  cases hd
  generalize hres : AV.raw (.bool (decide ((pre t).length ≤ 10000))) = res
  rw [hN] at hres h
  generalize hrows : rowsT (pre t) = rows at hnodes hrl
  cases t with
  | mk k s mn mx ts =>
  refine w_seq (w_region ?_)
  refine w_op rfl rfl rfl rfl (by dsimp only [aput, List.set]) ?_
  refine w_op rfl rfl rfl rfl (by dsimp only [aput, List.set]) ?_
  refine w_scope (w_seq (w_region ?_))
  refine w_op rfl rfl rfl rfl (by dsimp only [aput, List.set]) ?_
  refine w_op rfl rfl rfl rfl (by dsimp only [aput, List.set]) ?_
  refine w_seq (w_label ?_)
  refine w_cut 2 (slots 13 [(3, .ptr 1 0)]) ⟨[(29, cells (.mk k s mn mx ts)), (3, [.raw (.int .i64 (min N 10001 : Nat))])], [], [], 0, false⟩ rfl ?_ ?_
  · refine w_cut 2 (slots 13 [(1, .ptr 0 0), (3, .ptr 1 0), (5, .iter rows)]) ⟨[(29, cells (.mk k s mn mx ts)), (3, [.raw (.int .i64 0)])], [], [], 0, false⟩ rfl (w_region ?_) ?_
    · refine w_op (a := enc (.mk k s mn mx ts)) rfl rfl rfl rfl (by dsimp only [aput, List.set]) ?_
      refine w_call (args := [enc (.mk k s mn mx ts)]) (r := .iter rows) (by rw [strip_encL]; exact hnodes) rfl rfl (okTrim_encL _ _) rfl ?_
      exact wk_of [1, 3, 5] (by kernel_rfl) (by kernel_rfl)
    refine w_block (w_rangeI rows 2 (fun j σ => j ≤ 10000 ∧ σ = ⟨[(29, cells (.mk k s mn mx ts)), (3, [.raw (.int .i64 (j : Nat))])], [], [], 0, false⟩) rfl rfl ?_ rfl ⟨by omega, rfl⟩ ?_ ?_)
    · rw [← hrows]; exact rowsT_all _
    · rintro j hj _ ⟨hj1, rfl⟩
      have hrow : ∃ y, rows[j] = [y] := by subst hrows; exact ⟨_, by simp [rowsT]; rfl⟩
      obtain ⟨y, hy⟩ := hrow
      rw [hy]
      refine w_block (w_seq (w_region ?_))
      refine w_op rfl rfl rfl rfl rfl ?_
      refine w_op rfl rfl rfl (op_add (r := ((j + 1 : Nat) : Int)) rfl rfl rfl (by omega) (by omega) (by omega)) rfl ?_
      refine w_op rfl rfl rfl rfl rfl ?_
      refine w_seq (w_region ?_)
      refine w_op rfl rfl rfl rfl rfl ?_
      refine w_op rfl rfl rfl rfl rfl ?_
      refine w_cond (t := decide (((j + 1 : Nat) : Int) > 10000)) rfl (fun hc => ?_) (fun hc => ?_)
      · simp only [decide_eq_true_eq] at hc
        have hjj : j + 1 = min N 10001 := by omega
        refine ⟨(show okSt 2 ⟨[(29, cells (.mk k s mn mx ts)), (3, [.raw (.int .i64 (j + 1 : Nat))])], [], [], _, _⟩ = true from by simp [okSt, okTrimL, okTrim, okTrim_cells]), ?_⟩
        rw [← hjj]
        exact wk_of [3] (by kernel_rfl) (by kernel_rfl)
      · simp only [decide_eq_false_iff_not] at hc
        exact ⟨(show okSt 2 ⟨[(29, cells (.mk k s mn mx ts)), (3, [.raw (.int .i64 (j + 1 : Nat))])], [], [], _, _⟩ = true from by simp [okSt, okTrimL, okTrim, okTrim_cells]), by omega, by kernel_rfl⟩
    · rintro _ ⟨hj1, rfl⟩
      have hjj : rows.length = min N 10001 := by omega
      rw [hjj]
      exact wk_of [3] (by kernel_rfl) (by kernel_rfl)
  · refine w_seq (w_region ?_)
    refine w_op rfl rfl rfl rfl rfl ?_
    refine w_op rfl rfl rfl rfl rfl ?_
    refine w_op rfl rfl rfl rfl rfl ?_
    refine ⟨.raw (.bool (decide (((min N 10001 : Nat) : Int) ≤ 10000))), by kernel_rfl, ends_strip rfl ?_⟩
    rw [← hres]
    have : (decide (((min N 10001 : Nat) : Int) ≤ 10000)) = decide (N ≤ 10000) := by
      by_cases hc : N ≤ 10000
      · simp [hc]; omega
      · simp [hc]; omega
    rw [this]; rfl
end Go.Ab
