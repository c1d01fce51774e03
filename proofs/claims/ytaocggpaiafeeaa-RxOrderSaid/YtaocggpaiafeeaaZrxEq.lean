/-
  rx: sets are compared.
-/
import Derived.Test.YtaocggpaiafeeaaZrxHas
set_option linter.unusedSimpArgs false
set_option linter.unusedVariables false
namespace Go.Ab
open Go Go.RowKit Go.Fwd Go.Proofs

theorem und26 : Try.prog.underlying 26 = some (.array 4 24) := rfl
theorem und24 : Try.prog.underlying 24 = some (.int .u64) := rfl
theorem size24 (w : World) : (sizeOf 24).run Try.prog w = .ok 1 w := by kernel_rfl
theorem agg24 (w : World) : (isAgg 24).run Try.prog w = .ok false w := by kernel_rfl
theorem eqIn26' (d : Nat) (a0 a1 a2 a3 b0 b1 b2 b3 : Int) (w : World) : (Op.equalIn (d + 1 + 1) 26 (.agg #[.int .u64 a0, .int .u64 a1, .int .u64 a2, .int .u64 a3]) (.agg #[.int .u64 b0, .int .u64 b1, .int .u64 b2, .int .u64 b3])).run Try.prog w =
    .ok (a0 == b0 && a1 == b1 && a2 == b2 && a3 == b3) w := by
  rw [Op.equalIn]
  simp only [Sem.run_bind, run_underlying und26, Result.andThen_ok, size24]
  have hq : ∀ (a b : Int) (w : World), (Op.equalIn (d + 1) 24 (.int .u64 a) (.int .u64 b)).run Try.prog w = .ok (a == b) w := fun a b w => run_equalIn_int w d 24 .u64 .u64 a b und24
  have hr : List.range' 0 4 = [0, 1, 2, 3] := rfl
  simp [part, hr, agg24, Sem.run_bind, hq, Result.andThen]
  by_cases h0 : a0 = b0 <;> by_cases h1 : a1 = b1 <;> by_cases h2 : a2 = b2 <;> by_cases h3 : a3 = b3 <;> simp [h0, h1, h2, h3, hq, Result.andThen]
theorem eqIn26 (a0 a1 a2 a3 b0 b1 b2 b3 : Int) (w : World) : (Op.equalIn 10000 26 (.agg #[.int .u64 a0, .int .u64 a1, .int .u64 a2, .int .u64 a3]) (.agg #[.int .u64 b0, .int .u64 b1, .int .u64 b2, .int .u64 b3])).run Try.prog w =
    .ok (a0 == b0 && a1 == b1 && a2 == b2 && a3 == b3) w := eqIn26' 9998 _ _ _ _ _ _ _ _ w
theorem guard26 : Try.prog.eqGuardType Try.prog.depth 26 = false := by kernel_rfl
def set4 (s : BS) : AV := .agg [.raw (.int .u64 (wd s 0)), .raw (.int .u64 (wd s 1)), .raw (.int .u64 (wd s 2)), .raw (.int .u64 (wd s 3))]
theorem wd_inj {A B : BS} (h : ∀ i, i < 4 → wd A i = wd B i) : A = B := by
  apply BitVec.eq_of_getLsbD_eq
  intro j hj
  have h4 : j / 64 < 4 := by omega
  have h2 := h (j / 64) h4
  have h3 : W64 A (j / 64) = W64 B (j / 64) := by
    apply BitVec.eq_of_toNat_eq
    unfold wd at h2
    omega
  have h5 := congrArg (fun x : BitVec 64 => x.getLsbD (j % 64)) h3
  have hlt : j % 64 < 64 := Nat.mod_lt _ (by decide)
  simp only [W64, BitVec.getLsbD_extractLsb', hlt, decide_true, Bool.true_and] at h5
  rwa [show 64 * (j / 64) + j % 64 = j by omega] at h5
theorem wd_beq (S T : BS) : (wd S 0 == wd T 0 && wd S 1 == wd T 1 && wd S 2 == wd T 2 && wd S 3 == wd T 3) = decide (S = T) := by
  by_cases h : S = T
  · subst h; simp
  · simp only [h, decide_false]
    cases hb : (wd S 0 == wd T 0 && wd S 1 == wd T 1 && wd S 2 == wd T 2 && wd S 3 == wd T 3) with
    | false => rfl
    | true =>
      simp only [Bool.and_eq_true, beq_iff_eq] at hb
      refine absurd (wd_inj fun i hi => ?_) h
      match i, hi with
      | 0, _ => exact hb.1.1.1
      | 1, _ => exact hb.1.1.2
      | 2, _ => exact hb.1.2
      | 3, _ => exact hb.2
theorem run_eqset {ρ : Operand → AV} {o : Oper} {x y : Operand} {c} (s t : BS) (ho : o.op = .binOp .eql 26 x y c) (hx : ρ x = set4 s) (hy : ρ y = set4 t) : RawRun Try.prog ρ o (.raw (.bool (decide (s = t)))) := by
  refine ⟨?_, by rw [ho]; intros; simp, by rw [ho]; intros; simp, .bool (decide (s = t)), fun w => ?_, rfl, rfl⟩
  · rw [ho]; simp [Op.operands, hx, hy, set4, toVal, rawCells, rawCell]
  · have h1 : rawEnv ρ x = .agg #[.int .u64 (wd s 0), .int .u64 (wd s 1), .int .u64 (wd s 2), .int .u64 (wd s 3)] := by simp [rawEnv, hx, set4, toVal, rawCells, rawCell]
    have h2 : rawEnv ρ y = .agg #[.int .u64 (wd t 0), .int .u64 (wd t 1), .int .u64 (wd t 2), .int .u64 (wd t 3)] := by simp [rawEnv, hy, set4, toVal, rawCells, rawCell]
    have h3 := eqIn26 (wd s 0) (wd s 1) (wd s 2) (wd s 3) (wd t 0) (wd t 1) (wd t 2) (wd t 3) w
    rw [wd_beq] at h3
    simp [execOp, ho, h1, h2, eqGuard, binOp, Op.equal, Op.maxDepth, program, Sem.run, guard26, h3]
theorem run_neqset {ρ : Operand → AV} {o : Oper} {x y : Operand} {c} (s t : BS) (ho : o.op = .binOp .neq 26 x y c) (hx : ρ x = set4 s) (hy : ρ y = set4 t) : RawRun Try.prog ρ o (.raw (.bool (decide (s ≠ t)))) := by
  refine ⟨?_, by rw [ho]; intros; simp, by rw [ho]; intros; simp, .bool (decide (s ≠ t)), fun w => ?_, rfl, rfl⟩
  · rw [ho]; simp [Op.operands, hx, hy, set4, toVal, rawCells, rawCell]
  · have h1 : rawEnv ρ x = .agg #[.int .u64 (wd s 0), .int .u64 (wd s 1), .int .u64 (wd s 2), .int .u64 (wd s 3)] := by simp [rawEnv, hx, set4, toVal, rawCells, rawCell]
    have h2 : rawEnv ρ y = .agg #[.int .u64 (wd t 0), .int .u64 (wd t 1), .int .u64 (wd t 2), .int .u64 (wd t 3)] := by simp [rawEnv, hy, set4, toVal, rawCells, rawCell]
    have h3 := eqIn26 (wd s 0) (wd s 1) (wd s 2) (wd s 3) (wd t 0) (wd t 1) (wd t 2) (wd t 3) w
    rw [wd_beq] at h3
    simp [execOp, ho, h1, h2, eqGuard, binOp, Op.equal, Op.maxDepth, program, Sem.run, guard26, h3]
end Go.Ab
