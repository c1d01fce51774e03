/-
  SetsLists: the walk.
-/
import Derived.Test.YtjmhbbbpjbgmjaaZseTx
set_option linter.unusedSimpArgs false
set_option linter.unusedVariables false
namespace Go.Ab
open Go Go.RowKit Go.Fwd Go.Proofs Go.Proofs.Ytjmhbbbpjbgmjaa
theorem clob_cons {b : TypeId × List AV} {l : List (TypeId × List AV)} (h : cloL b.2 = true) (k : (l.all fun b => cloL b.2) = true) : ((b :: l).all fun b => cloL b.2) = true := by rw [List.all_cons, h, k]; rfl
theorem rs_neqset {ρ : Operand → AV} {o : Oper} {x y : Operand} {c} (s t : BS) (ho : o.op = .binOp .neq 24 x y c) (hx : ρ x = .agg (Enc.cells s)) (hy : ρ y = .agg (Enc.cells t)) : RawRun Try.prog ρ o (.raw (.bool (decide (s ≠ t)))) := by
  replace hx : ρ x = .agg (cellsB s) := hx
  replace hy : ρ y = .agg (cellsB t) := hy
  refine ⟨?_, by rw [ho]; intros; simp, by rw [ho]; intros; simp, .bool (decide (s ≠ t)), fun w => ?_, rfl, rfl⟩
  · rw [ho]; simp [Op.operands, hx, hy, cellsB, toVal, rawCells, rawCell]
  · have h1 : rawEnv ρ x = .agg #[.int .u64 (wd s 0), .int .u64 (wd s 1), .int .u64 (wd s 2), .int .u64 (wd s 3)] := by simp [rawEnv, hx, cellsB, toVal, rawCells, rawCell]
    have h2 : rawEnv ρ y = .agg #[.int .u64 (wd t 0), .int .u64 (wd t 1), .int .u64 (wd t 2), .int .u64 (wd t 3)] := by simp [rawEnv, hy, cellsB, toVal, rawCells, rawCell]
    have h3 := eqIn24 (wd s 0) (wd s 1) (wd s 2) (wd s 3) (wd t 0) (wd t 1) (wd t 2) (wd t 3) w
    rw [sv_beq, show (s == t) = decide (s = t) from rfl] at h3
    simp [execOp, ho, h1, h2, eqGuard, binOp, Op.equal, Op.maxDepth, program, Sem.run, guard24, h3, Sem.run_bind, Result.andThen]
def F_lists (fuel : Nat) (spans : (List Sp)) (l : (List BS)) : Option Bool :=
  (bif (decide ((List.length spans : Int) > 40)) then (some true) else (bif (decide ((List.length l : Int) > 12)) then (some true) else (cutE (τ := Ar) (loopE (β := Int × Ar) (fun s1 => (bif (decide (s1.1 < (List.length spans : Int))) then (chk (0 ≤ s1.1 ∧ s1.1 < (List.length spans : Int)) (letE (ix spans s1.1) (fun x1 => (bindE (F_rrange fuel (((x1.1).toNat : Nat) : Int) (((x1.2).toNat : Nat) : Int)) (fun x2 => (bindE (F_rboth fuel s1.2 x2 0) (fun x3 => (chk (-9223372036854775808 ≤ (s1.1 + 1) ∧ (s1.1 + 1) < 9223372036854775808) (some (Sum.inl ((s1.1 + 1), x3))))))))))) else (some (Sum.inr (Sum.inl (s1.2)))))) fuel (0, zeroA)) (fun j1 => (chk ((0 + List.length l) * 32 ≤ 140737488355328) (cutE (τ := (List Ar)) (loopE (β := (List Ar) × Int) (fun s2 => (bif (decide (s2.2 < (List.length l : Int))) then (chk (0 ≤ s2.2 ∧ s2.2 < (List.length l : Int)) (letE (ix l s2.2) (fun x4 => (bindE (F_words fuel x4) (fun x5 => (chk ((List.length s2.1 + List.length [x5]) * 2048 ≤ 140737488355328) (chk (-9223372036854775808 ≤ (s2.2 + 1) ∧ (s2.2 + 1) < 9223372036854775808) (some (Sum.inl ((s2.1 ++ [x5]), (s2.2 + 1))))))))))) else (some (Sum.inr (Sum.inl (s2.1)))))) fuel (([] : (List Ar)), 0)) (fun j2 => (chk (l.length ≤ 12) (letE (partsS l) (fun x6 => (bindE (F_rparts fuel j2) (fun x7 => (bindE (F_fromSpans fuel spans) (fun x8 => (bindE (F_is fuel x8 j1) (fun x9 => (bif (!x9) then (some false) else (cutE (τ := Unit) (loopE (β := Int) (fun s3 => (bif (decide (s3 < (List.length l : Int))) then (chk (0 ≤ s3 ∧ s3 < (List.length l : Int)) (letE (ix l s3) (fun x10 => (chk (0 ≤ s3 ∧ s3 < (List.length l : Int)) (letE (ix l s3) (fun x11 => (bif (decide (x10 ≠ x11)) then (some (Sum.inr (Sum.inr false))) else (chk (-9223372036854775808 ≤ (s3 + 1) ∧ (s3 + 1) < 9223372036854775808) (some (Sum.inl ((s3 + 1)))))))))))) else (some (Sum.inr (Sum.inl ()))))) fuel (0)) (fun j3 => (cutE (τ := Int) (loopE (β := Int × Int) (fun s4 => (bif (decide (s4.2 < 256)) then (cutE (τ := Int) (chk (0 ≤ s4.2 ∧ s4.2 < 256) (bif ((rdA x7 s4.2) != s4.2) then (some (Sum.inl (s4.1))) else (cutE (τ := Ar) (loopE (β := Int × Ar) (fun s5 => (bif (decide (s5.1 < 256)) then (cutE (τ := Ar) (chk (0 ≤ s5.1 ∧ s5.1 < 256) (bif ((rdA x7 s5.1) == s4.2) then (chk (0 ≤ s5.1 ∧ s5.1 < 256) (some (Sum.inl ((wrA s5.2 s5.1 1))))) else (some (Sum.inl (s5.2))))) (fun j7 => (chk (-9223372036854775808 ≤ (s5.1 + 1) ∧ (s5.1 + 1) < 9223372036854775808) (some (Sum.inl ((s5.1 + 1), j7)))))) else (some (Sum.inr (Sum.inl (s5.2)))))) fuel (0, zeroA)) (fun j6 => (bif (decide (s4.1 ≥ (List.length x6 : Int))) then (some (Sum.inr (Sum.inr (Sum.inr false)))) else (chk (0 ≤ s4.1 ∧ s4.1 < (List.length x6 : Int)) (letE (ix x6 s4.1) (fun x12 => (bindE (F_is fuel x12 j6) (fun x13 => (bif (!x13) then (some (Sum.inr (Sum.inr (Sum.inr false)))) else (chk (-9223372036854775808 ≤ (s4.1 + 1) ∧ (s4.1 + 1) < 9223372036854775808) (some (Sum.inl ((s4.1 + 1)))))))))))))))) (fun j5 => (chk (-9223372036854775808 ≤ (s4.2 + 1) ∧ (s4.2 + 1) < 9223372036854775808) (some (Sum.inl (j5, (s4.2 + 1))))))) else (some (Sum.inr (Sum.inl (s4.1)))))) fuel (0, 0)) (fun j4 => (some (j4 == (List.length x6 : Int))))))))))))))))))))))))
theorem ent25 : Ent Try.prog 25 := enters_of Try.func25 (by kernel_rfl) rfl
set_option maxRecDepth 100000 in
set_option maxHeartbeats 4000000 in
theorem lists_sh (fuel : Nat) (spans : (List Sp)) (l : (List BS)) (r : Bool) (h : F_lists fuel spans l = some r) : Pure (ITP Try.prog) Try.prog 25 [.list (List.length (spans : List Sp)) (Enc.cellsL (spans : List Sp)) .none, .list (List.length (l : List BS)) (Enc.cellsL (l : List BS)) .none] (.raw (.bool r)) := by
 obtain ⟨d, hd⟩ : ∃ d, Try.f25.body = some d := ⟨_, rfl⟩
 refine pure_of mix Try.func25 hd ent25 ?_
 cases hd
 unfold F_lists at h
 refine w_start (by dsimp only [abeginS, Try.f25, List.length_cons, List.length_nil, Nat.zero_add, Nat.reduceAdd, Nat.reduceSub, List.replicate, List.cons_append, List.nil_append]) (by dsimp only [St.empty]) ?_
 refine w_seq (w_region ?_)
 refine w_op (a := .raw (.bool false)) rfl rfl rfl rfl (by dsimp only [aput, List.set]) ?_
 refine w_seq ?_
 refine w_seq (w_region ?_)
 refine w_op (a := .list (List.length (spans : List Sp)) (Enc.cellsL (spans : List Sp)) .none) rfl rfl rfl rfl (by dsimp only [aput, List.set]) ?_
 refine w_op (a := .raw (.int .i64 (List.length spans : Int))) rfl rfl rfl rfl (by dsimp only [aput, List.set]) ?_
 refine w_op (a := .raw (.bool (decide ((List.length spans : Int) > 40)))) rfl rfl rfl rfl (by dsimp only [aput, List.set]) ?_
 refine bif_e h (fun hc1 h => ?_) (fun hc1 h => ?_)
 ·
  refine w_op (a := .raw (.bool true)) rfl rfl rfl (op_q (q_bool rfl hc1)) (by dsimp only [aput, List.set]) ?_
  refine w_pass rfl rfl (by decide) (by dsimp only [aput, List.set]) ?_
  refine w_pass rfl rfl (by decide) (by dsimp only [aput, List.set]) ?_
  refine w_pass rfl rfl (by decide) (by dsimp only [aput, List.set]) ?_
  refine w_op (a := .raw (.bool true)) rfl rfl rfl rfl (by dsimp only [aput, List.set]) ?_
  refine w_true rfl ?_
  refine w_seq (w_region ?_)
  refine w_op (a := .raw (.bool true)) rfl rfl rfl rfl (by dsimp only [aput, List.set]) ?_
  exact end_pureF (fun (r : Bool) => (.raw (.bool r) : AV)) h (a := .raw (.bool true)) rfl rfl rfl
 ·
  refine w_op (a := .raw (.bool false)) rfl rfl rfl (op_q (q_bool rfl hc1)) (by dsimp only [aput, List.set]) ?_
  refine w_met rfl rfl ?_
  refine w_op (a := .list (List.length (l : List BS)) (Enc.cellsL (l : List BS)) .none) rfl rfl rfl rfl (by dsimp only [aput, List.set]) ?_
  refine w_met rfl rfl ?_
  refine w_op (a := .raw (.int .i64 (List.length l : Int))) rfl rfl rfl rfl (by dsimp only [aput, List.set]) ?_
  refine w_met rfl rfl ?_
  refine w_op (a := .raw (.bool (decide ((List.length l : Int) > 12)))) rfl rfl rfl rfl (by dsimp only [aput, List.set]) ?_
  refine w_op (a := .raw (.bool (decide ((List.length l : Int) > 12)))) rfl rfl rfl rfl (by dsimp only [aput, List.set]) ?_
  refine bif_e h (fun hc2 h => ?_) (fun hc2 h => ?_)
  ·
   refine w_condT hc2 rfl ?_
   refine w_seq (w_region ?_)
   refine w_op (a := .raw (.bool true)) rfl rfl rfl rfl (by dsimp only [aput, List.set]) ?_
   exact end_pureF (fun (r : Bool) => (.raw (.bool r) : AV)) h (a := .raw (.bool true)) rfl rfl rfl
  ·
   refine w_condF hc2 rfl ?_
   refine w_seq (w_region ?_)
   refine w_opm (a := .ptr 0 0) (σ'' := ⟨[(57, (Enc.cells (zeroA : Ar)))], [], [], 0, false⟩) rfl rfl rfl (op_allocA (by decide) rfl) (by dsimp only [aput, List.set]) rfl ?_
   refine w_cutF h [2, 3, 4, 6, 7, 8, 9, 10, 11, 12, 13, 14, 15, 16, 17, 18, 19, 20, 21, 22, 23, 24, 25, 26, 27, 28, 29, 30, 31, 32, 33, 34, 35, 36, 37, 38, 39, 40, 41, 42, 43, 44, 45, 46, 47, 48, 49, 50, 51, 52, 53, 54, 55, 56, 57, 58, 59, 60, 61, 62, 63, 64, 65, 66, 67, 68, 69, 70, 71, 72, 73, 74, 75, 76, 77, 78, 79, 80, 81, 82, 83, 84, 85, 86, 87, 88, 89, 90, 91, 92, 93, 94, 95, 96, 97, 98, 99, 100, 101, 102, 103, 104, 105, 106, 107, 108, 109, 110, 111, 112, 113, 114, 115, 116, 117] (fun j1 => []) (fun j1 => ⟨[(57, (Enc.cells (j1 : Ar)))], [], [], 0, false⟩) ?_ ?_
   ·
    intro or1 h hr1
    refine w_seq (w_region ?_)
    refine w_op (a := .list (List.length (spans : List Sp)) (Enc.cellsL (spans : List Sp)) .none) rfl rfl rfl rfl (by dsimp only [aput, List.set]) ?_
    refine w_op (a := .raw (.int .i64 (List.length spans : Int))) rfl rfl rfl rfl (by dsimp only [aput, List.set]) ?_
    refine w_op (a := .raw (.int .i64 0)) rfl rfl rfl rfl (by dsimp only [aput, List.set]) ?_
    refine w_block ?_
    refine w_loopF h [2, 3, 4, 6, 7, 8, 9, 10, 11, 12, 13, 14, 15, 16, 17, 18, 19, 20, 21, 22, 23, 24, 25, 26, 29, 30, 31, 32, 33, 34, 35, 36, 37, 38, 39, 40, 41, 42, 43, 44, 45, 46, 47, 48, 49, 50, 51, 52, 53, 54, 55, 56, 57, 58, 59, 60, 61, 62, 63, 64, 65, 66, 67, 68, 69, 70, 71, 72, 73, 74, 75, 76, 77, 78, 79, 80, 81, 82, 83, 84, 85, 86, 87, 88, 89, 90, 91, 92, 93, 94, 95, 96, 97, 98, 99, 100, 101, 102, 103, 104, 105, 106, 107, 108, 109, 110, 111, 112, 113, 114, 115, 116, 117] (fun s1 => [(29, .raw (.int .i64 s1.1))]) (fun s1 => ⟨[(57, (Enc.cells (s1.2 : Ar)))], [], [], 0, false⟩) ?_ ?_
    ·
     exact wm_of [true, true, false, false, false, true, false, false, false, false, false, false, false, false, false, false, false, false, false, false, false, false, false, false, false, false, false, true, true, true, false, false, false, false, false, false, false, false, false, false, false, false, false, false, false, false, false, false, false, false, false, false, false, false, false, false, false, false, false, false, false, false, false, false, false, false, false, false, false, false, false, false, false, false, false, false, false, false, false, false, false, false, false, false, false, false, false, false, false, false, false, false, false, false, false, false, false, false, false, false, false, false, false, false, false, false, false, false, false, false, false, false, false, false, false, false, false, false] (by kernel_rfl) (by kernel_rfl)
    ·
     intro s1 p1 h
     refine w_start (by dsimp only [setAll, topAll, List.foldl, List.set]) rfl ?_
     refine w_seq (w_region ?_)
     refine w_op (a := .raw (.bool (decide (s1.1 < (List.length spans : Int))))) rfl rfl rfl rfl (by dsimp only [aput, List.set]) ?_
     refine w_seq ?_
     refine bif_e h (fun hc3 h => ?_) (fun hc3 h => ?_)
     ·
      refine w_condT hc3 rfl ?_
      refine w_seq ?_
      refine w_block ?_
      refine w_seq (w_region ?_)
      obtain ⟨g1, h⟩ := chk_e h
      obtain ⟨x1, hx1, h⟩ := letE_e h
      refine w_op (a := .iptr (Enc.cells x1 ++ Enc.cellsL (List.drop (Int.toNat s1.1 + 1) spans))) rfl rfl rfl (op_q (by rw [← hx1]; exact (q_idx (α := Sp) (l := spans) g1 rfl rfl rfl rfl rfl))) (by dsimp only [aput, List.set]) ?_
      refine w_op (a := .agg (Enc.cells (x1 : Sp))) rfl rfl rfl rfl (by dsimp only [aput, List.set]) ?_
      refine w_opm (a := .ptr 1 0) (σ'' := ⟨[(57, (Enc.cells (s1.2 : Ar))), (49, (Enc.cells ((0, 0) : Sp)))], [], [], 0, false⟩) rfl rfl rfl rfl (by dsimp only [aput, List.set]) rfl ?_
      refine w_opm (σ'' := ⟨[(57, (Enc.cells (s1.2 : Ar))), (49, (Enc.cells (x1 : Sp)))], [], [], 0, false⟩) rfl rfl rfl (op_storeW (n := 2) rfl rfl rfl rfl rfl rfl rfl rfl (by decide)) (by dsimp only [aput, List.set]) rfl ?_
      refine w_draw (id := 7) 6 (by kernel_rfl) (by kernel_rfl) ?_
      refine h_op (a := .agg (Enc.cells (s1.2 : Ar))) rfl rfl rfl (q_loadArr s1.2 (by decide) rfl rfl rfl) (by dsimp only [aput, List.set]) ?_
      refine h_op (a := .ptr 1 0) rfl rfl rfl rfl (by dsimp only [aput, List.set]) ?_
      refine h_op (a := .raw (.int .u8 (((x1.1).toNat : Nat) : Int))) rfl rfl rfl rfl (by dsimp only [aput, List.set]) ?_
      refine h_op (a := .ptr 1 1) rfl rfl rfl rfl (by dsimp only [aput, List.set]) ?_
      refine h_op (a := .raw (.int .u8 (((x1.2).toNat : Nat) : Int))) rfl rfl rfl rfl (by dsimp only [aput, List.set]) ?_
      obtain ⟨x2, hx2, h⟩ := bindE_e h
      refine h_call (args' := [.raw (.int .u8 (((x1.1).toNat : Nat) : Int)), .raw (.int .u8 (((x1.2).toNat : Nat) : Int))]) (r := .agg (Enc.cells (x2 : Ar))) (rrange_sh fuel (((x1.1).toNat : Nat) : Int) (((x1.2).toNat : Nat) : Int) x2 hx2) rfl rfl rfl (stripL_cons rfl (stripL_cons rfl rfl)) (okTrimL_cons rfl (okTrimL_cons rfl rfl)) (by dsimp only [aput, List.set]) ?_
      refine h_end ?_
      obtain ⟨x3, hx3, h⟩ := bindE_e h
      refine w_callc (args' := [.agg (Enc.cells (s1.2 : Ar)), .agg (Enc.cells (x2 : Ar)), .raw (.int .i64 0)]) (r := .agg (Enc.cells (x3 : Ar))) (rboth_sh fuel s1.2 x2 0 x3 hx3) rfl rfl (stripL_cons (strip_c (clo_agg (Enc.clo _))) (stripL_cons (strip_c (clo_agg (Enc.clo _))) (stripL_cons rfl rfl))) (okTrimL_cons (okTrim_clo _ _ (clo_agg (Enc.clo _))) (okTrimL_cons (okTrim_clo _ _ (clo_agg (Enc.clo _))) (okTrimL_cons rfl rfl))) (by dsimp only [aput, List.set]) ?_
      refine w_opm (σ'' := ⟨[(57, (Enc.cells (x3 : Ar))), (49, (Enc.cells (x1 : Sp)))], [], [], 0, false⟩) rfl rfl rfl (op_storeW (n := 256) rfl rfl rfl rfl rfl (Enc.len _) rfl (Enc.len _) (by decide)) (by dsimp only [aput, List.set]) rfl ?_
      refine w_region (id := 8) ?_
      obtain ⟨g2, h⟩ := chk_e h
      refine w_op (a := .raw (.int .i64 (s1.1 + 1))) rfl rfl rfl (op_q (q_add rfl rfl rfl rfl g2.1 g2.2)) (by dsimp only [aput, List.set]) ?_
      refine w_op (a := .raw (.int .i64 (s1.1 + 1))) rfl rfl rfl rfl (by dsimp only [aput, List.set]) ?_
      refine loop_next (p := p1) ((s1.1 + 1), x3) h ?_
      exact wm_trim [true, true, false, false, false, true, false, false, false, false, false, false, false, false, false, false, false, false, false, false, false, false, false, false, false, false, false, true, true, true, false, false, false, false, false, false, false, false, false, false, false, false, false, false, false, false, false, false, false, false, false, false, false, false, false, false, false, false, false, false, false, false, false, false, false, false, false, false, false, false, false, false, false, false, false, false, false, false, false, false, false, false, false, false, false, false, false, false, false, false, false, false, false, false, false, false, false, false, false, false, false, false, false, false, false, false, false, false, false, false, false, false, false, false, false, false, false, false] 1 (by kernel_rfl) (Nat.le_of_ble_eq_true rfl) (okSt_of (okB_cons (okTrimL_clo _ _ (Enc.clo _)) rfl)) (by dsimp only [setAll, topAll, List.foldl, List.set]; exact (okTrimL_cons (okTrim_l (Enc.cloL _)) (okTrimL_cons (okTrim_l (Enc.cloL _)) (okTrimL_cons rfl (okTrimL_cons rfl (okTrimL_cons rfl (okTrimL_cons (by decide) (okTrimL_cons rfl (okTrimL_cons rfl (okTrimL_cons rfl (okTrimL_cons rfl (okTrimL_cons rfl (okTrimL_cons rfl (okTrimL_cons rfl (okTrimL_cons rfl (okTrimL_cons rfl (okTrimL_cons rfl (okTrimL_cons rfl (okTrimL_cons rfl (okTrimL_cons rfl (okTrimL_cons rfl (okTrimL_cons rfl (okTrimL_cons rfl (okTrimL_cons rfl (okTrimL_cons rfl (okTrimL_cons rfl (okTrimL_cons rfl (okTrimL_cons rfl (okTrimL_cons (okTrim_l (Enc.cloL _)) (okTrimL_cons rfl (okTrimL_cons rfl (okTrimL_cons rfl (okTrimL_cons rfl (okTrimL_cons rfl (okTrimL_cons rfl (okTrimL_cons rfl (okTrimL_cons rfl (okTrimL_cons rfl (okTrimL_cons rfl (okTrimL_cons rfl (okTrimL_cons rfl (okTrimL_cons rfl (okTrimL_cons rfl (okTrimL_cons rfl (okTrimL_cons rfl (okTrimL_cons rfl (okTrimL_cons rfl (okTrimL_cons rfl (okTrimL_cons rfl (okTrimL_cons rfl (okTrimL_cons rfl (okTrimL_cons rfl (okTrimL_cons rfl (okTrimL_cons rfl (okTrimL_cons rfl (okTrimL_cons rfl (okTrimL_cons rfl (okTrimL_cons rfl (okTrimL_cons rfl (okTrimL_cons rfl (okTrimL_cons rfl (okTrimL_cons rfl (okTrimL_cons rfl (okTrimL_cons rfl (okTrimL_cons rfl (okTrimL_cons rfl (okTrimL_cons rfl (okTrimL_cons rfl (okTrimL_cons rfl (okTrimL_cons rfl (okTrimL_cons rfl (okTrimL_cons rfl (okTrimL_cons rfl (okTrimL_cons rfl (okTrimL_cons rfl (okTrimL_cons rfl (okTrimL_cons rfl (okTrimL_cons rfl (okTrimL_cons rfl (okTrimL_cons rfl (okTrimL_cons rfl (okTrimL_cons rfl (okTrimL_cons rfl (okTrimL_cons rfl (okTrimL_cons rfl (okTrimL_cons rfl (okTrimL_cons rfl (okTrimL_cons rfl (okTrimL_cons rfl (okTrimL_cons rfl (okTrimL_cons rfl (okTrimL_cons rfl (okTrimL_cons rfl (okTrimL_cons rfl (okTrimL_cons rfl (okTrimL_cons rfl (okTrimL_cons rfl (okTrimL_cons rfl (okTrimL_cons rfl (okTrimL_cons rfl (okTrimL_cons rfl (okTrimL_cons rfl (okTrimL_cons rfl (okTrimL_cons rfl (okTrimL_cons rfl (okTrimL_cons rfl (okTrimL_cons rfl (okTrimL_cons rfl (okTrimL_cons rfl (okTrimL_cons rfl (okTrimL_cons rfl (okTrimL_cons rfl (okTrimL_cons rfl (okTrimL_cons rfl (okTrimL_cons rfl (okTrimL_cons rfl (okTrimL_cons rfl (okTrimL_cons rfl (okTrimL_cons rfl rfl))))))))))))))))))))))))))))))))))))))))))))))))))))))))))))))))))))))))))))))))))))))))))))))))))))))))))))))))))))))) (by kernel_rfl)
     ·
      refine w_condF hc3 rfl ?_
      refine loop_exit h (fun h => ?_)
      refine cut_done (o := or1) (s1.2) h ?_
      exact wm_of [true, true, false, false, false, true, false, false, false, false, false, false, false, false, false, false, false, false, false, false, false, false, false, false, false, false, false, false, false, false, false, false, false, false, false, false, false, false, false, false, false, false, false, false, false, false, false, false, false, false, false, false, false, false, false, false, false, false, false, false, false, false, false, false, false, false, false, false, false, false, false, false, false, false, false, false, false, false, false, false, false, false, false, false, false, false, false, false, false, false, false, false, false, false, false, false, false, false, false, false, false, false, false, false, false, false, false, false, false, false, false, false, false, false, false, false, false, false] (by kernel_rfl) (by kernel_rfl)
   ·
    intro j1 h
    refine w_start (by dsimp only [setAll, topAll, List.foldl, List.set]) rfl ?_
    refine w_seq (w_region ?_)
    refine w_op (a := .list (List.length (l : List BS)) (Enc.cellsL (l : List BS)) .none) rfl rfl rfl rfl (by dsimp only [aput, List.set]) ?_
    obtain ⟨g3, h⟩ := chk_e h
    refine w_appF (α := BS) (b := l) g3 (clob_cons (Enc.clo _) rfl) rfl rfl rfl rfl rfl rfl rfl rfl rfl rfl rfl rfl ⟨rfl, by decide⟩ (by dsimp only [aput, List.set]) ?_
    refine w_op (a := .list (List.length (l : List BS)) (Enc.cellsL (l : List BS)) .none) rfl rfl rfl rfl (by dsimp only [aput, List.set]) ?_
    refine w_seq (w_region ?_)
    refine w_op (a := .list 0 [] .full) rfl rfl rfl rfl (by dsimp only [aput, List.set]) ?_
    refine w_cutF h [9, 11, 41, 42, 43, 44, 45, 46, 47, 48, 49, 50, 51, 52, 53, 54] (fun j2 => [(9, (ownAV (List.length (j2 : List Ar)) (Enc.cellsL (j2 : List Ar))))]) (fun j2 => (ownSt [(57, (Enc.cells (j1 : Ar)))] 57 (List.length (j2 : List Ar)) 256)) ?_ ?_
    ·
     intro or2 h hr2
     refine w_seq (w_region ?_)
     refine w_op (a := .list (List.length (l : List BS)) (Enc.cellsL (l : List BS)) .none) rfl rfl rfl rfl (by dsimp only [aput, List.set]) ?_
     refine w_op (a := .raw (.int .i64 (List.length l : Int))) rfl rfl rfl rfl (by dsimp only [aput, List.set]) ?_
     refine w_op (a := .raw (.int .i64 0)) rfl rfl rfl rfl (by dsimp only [aput, List.set]) ?_
     refine w_block ?_
     refine w_loopF h [9, 11, 41, 42, 45, 46, 47, 48, 49, 50, 51, 52, 53, 54] (fun s2 => [(9, (ownAV (List.length (s2.1 : List Ar)) (Enc.cellsL (s2.1 : List Ar)))), (45, .raw (.int .i64 s2.2))]) (fun s2 => (ownSt [(57, (Enc.cells (j1 : Ar)))] 57 (List.length (s2.1 : List Ar)) 256)) ?_ ?_
     ·
      exact wm_of [true, true, true, true, true, true, true, true, true, true, true, false, true, true, true, true, true, true, true, true, true, true, true, true, true, true, true, true, true, true, true, true, true, true, true, true, true, true, true, true, true, false, false, true, true, true, false, false, false, false, false, false, false, false, false, true, true, true, true, true, true, true, true, true, true, true, true, true, true, true, true, true, true, true, true, true, true, true, true, true, true, true, true, true, true, true, true, true, true, true, true, true, true, true, true, true, true, true, true, true, true, true, true, true, true, true, true, true, true, true, true, true, true, true, true, true, true, true] (by kernel_rfl) (by kernel_rfl)
     ·
      intro s2 p2 h
      refine w_start (by dsimp only [setAll, topAll, List.foldl, List.set]) rfl ?_
      refine w_seq (w_region ?_)
      refine w_op (a := .raw (.bool (decide (s2.2 < (List.length l : Int))))) rfl rfl rfl rfl (by dsimp only [aput, List.set]) ?_
      refine w_seq ?_
      refine bif_e h (fun hc4 h => ?_) (fun hc4 h => ?_)
      ·
       refine w_condT hc4 rfl ?_
       refine w_seq ?_
       refine w_block ?_
       refine w_seq (w_region ?_)
       obtain ⟨g4, h⟩ := chk_e h
       obtain ⟨x4, hx4, h⟩ := letE_e h
       refine w_op (a := .iptr (Enc.cells x4 ++ Enc.cellsL (List.drop (Int.toNat s2.2 + 1) l))) rfl rfl rfl (op_q (by rw [← hx4]; exact (q_idx (α := BS) (l := l) g4 rfl rfl rfl rfl rfl))) (by dsimp only [aput, List.set]) ?_
       refine w_op (a := .agg (Enc.cells (x4 : BS))) rfl rfl rfl rfl (by dsimp only [aput, List.set]) ?_
       refine w_opm (a := .ptr 1 0) (σ'' := (ownSt [(57, (Enc.cells (j1 : Ar))), (24, (Enc.cells (0#256 : BS)))] 57 (List.length (s2.1 : List Ar)) 256)) rfl rfl rfl rfl (by dsimp only [aput, List.set]) rfl ?_
       refine w_opm (σ'' := (ownSt [(57, (Enc.cells (j1 : Ar))), (24, (Enc.cells (x4 : BS)))] 57 (List.length (s2.1 : List Ar)) 256)) rfl rfl rfl (op_storeW (n := 4) rfl rfl rfl rfl rfl rfl rfl rfl (by decide)) (by dsimp only [aput, List.set]) rfl ?_
       refine w_region (id := 14) ?_
       refine w_op (a := (ownAV (List.length (s2.1 : List Ar)) (Enc.cellsL (s2.1 : List Ar)))) rfl rfl rfl rfl (by dsimp only [aput, List.set]) ?_
       refine w_op (a := .agg (Enc.cells (x4 : BS))) rfl rfl rfl rfl (by dsimp only [aput, List.set]) ?_
       obtain ⟨x5, hx5, h⟩ := bindE_e h
       refine w_callc (args' := [.agg (Enc.cells (x4 : BS))]) (r := .agg (Enc.cells (x5 : Ar))) (words_sh fuel x4 x5 hx5) rfl rfl (stripL_cons (strip_c (clo_agg (Enc.clo _))) rfl) (okTrimL_cons (okTrim_clo _ _ (clo_agg (Enc.clo _))) rfl) (by dsimp only [aput, List.set]) ?_
       refine w_op (a := .list (List.length ([x5] : List Ar)) (Enc.cellsL ([x5] : List Ar)) .full) rfl rfl rfl (op_q (q_lit (α := Ar) (l := [x5]) (cs := Enc.cells (x5 : Ar) ++ []) rfl (by rw [Enc.cons, Enc.nil]))) (by dsimp only [aput, List.set]) ?_
       obtain ⟨g5, h⟩ := chk_e h
       refine w_opm (a := (ownAV (List.length ((s2.1 ++ [x5]) : List Ar)) (Enc.cellsL ((s2.1 ++ [x5]) : List Ar)))) (σ'' := (ownSt [(57, (Enc.cells (j1 : Ar))), (24, (Enc.cells (x4 : BS)))] 57 (List.length ((s2.1 ++ [x5]) : List Ar)) 256)) rfl rfl rfl (op_append rfl rfl rfl rfl (append_ownE (α := Ar) (bs := [(57, (Enc.cells (j1 : Ar))), (24, (Enc.cells (x4 : BS)))]) (a := s2.1) (b := [x5]) g5 rfl rfl rfl rfl rfl ⟨rfl, by decide⟩)) (by dsimp only [aput, List.set]) rfl ?_
       refine w_op (a := (ownAV (List.length ((s2.1 ++ [x5]) : List Ar)) (Enc.cellsL ((s2.1 ++ [x5]) : List Ar)))) rfl rfl rfl rfl (by dsimp only [aput, List.set]) ?_
       refine w_region (id := 15) ?_
       obtain ⟨g6, h⟩ := chk_e h
       refine w_op (a := .raw (.int .i64 (s2.2 + 1))) rfl rfl rfl (op_q (q_add rfl rfl rfl rfl g6.1 g6.2)) (by dsimp only [aput, List.set]) ?_
       refine w_op (a := .raw (.int .i64 (s2.2 + 1))) rfl rfl rfl rfl (by dsimp only [aput, List.set]) ?_
       refine loop_next (p := p2) ((s2.1 ++ [x5]), (s2.2 + 1)) h ?_
       exact wm_trim [true, true, true, true, true, true, true, true, true, true, true, false, true, true, true, true, true, true, true, true, true, true, true, true, true, true, true, true, true, true, true, true, true, true, true, true, true, true, true, true, true, false, false, true, true, true, false, false, false, false, false, false, false, false, false, true, true, true, true, true, true, true, true, true, true, true, true, true, true, true, true, true, true, true, true, true, true, true, true, true, true, true, true, true, true, true, true, true, true, true, true, true, true, true, true, true, true, true, true, true, true, true, true, true, true, true, true, true, true, true, true, true, true, true, true, true, true, true] 1 (by kernel_rfl) (Nat.le_of_ble_eq_true rfl) (okSt_of (okB_cons (okTrimL_clo _ _ (Enc.clo _)) rfl)) (by dsimp only [setAll, topAll, List.foldl, List.set]; exact (okTrimL_cons (okTrim_l (Enc.cloL _)) (okTrimL_cons (okTrim_l (Enc.cloL _)) (okTrimL_cons rfl (okTrimL_cons rfl (okTrimL_cons rfl (okTrimL_cons (by decide) (okTrimL_cons rfl (okTrimL_cons rfl (okTrimL_cons (okTrim_l (Enc.cloL _)) (okTrimL_cons (okTrim_own (Enc.cloL _)) (okTrimL_cons rfl (okTrimL_cons rfl (okTrimL_cons rfl (okTrimL_cons rfl (okTrimL_cons rfl (okTrimL_cons rfl (okTrimL_cons rfl (okTrimL_cons rfl (okTrimL_cons rfl (okTrimL_cons rfl (okTrimL_cons rfl (okTrimL_cons rfl (okTrimL_cons rfl (okTrimL_cons rfl (okTrimL_cons rfl (okTrimL_cons rfl (okTrimL_cons rfl (okTrimL_cons rfl (okTrimL_cons rfl (okTrimL_cons rfl (okTrimL_cons rfl (okTrimL_cons rfl (okTrimL_cons rfl (okTrimL_cons rfl (okTrimL_cons rfl (okTrimL_cons rfl (okTrimL_cons rfl (okTrimL_cons rfl (okTrimL_cons rfl (okTrimL_cons rfl (okTrimL_cons rfl (okTrimL_cons rfl (okTrimL_cons rfl (okTrimL_cons (okTrim_l (Enc.cloL _)) (okTrimL_cons rfl (okTrimL_cons rfl (okTrimL_cons rfl (okTrimL_cons rfl (okTrimL_cons rfl (okTrimL_cons rfl (okTrimL_cons rfl (okTrimL_cons rfl (okTrimL_cons rfl (okTrimL_cons rfl (okTrimL_cons rfl (okTrimL_cons rfl (okTrimL_cons rfl (okTrimL_cons rfl (okTrimL_cons rfl (okTrimL_cons rfl (okTrimL_cons rfl (okTrimL_cons rfl (okTrimL_cons rfl (okTrimL_cons rfl (okTrimL_cons rfl (okTrimL_cons rfl (okTrimL_cons rfl (okTrimL_cons rfl (okTrimL_cons rfl (okTrimL_cons rfl (okTrimL_cons rfl (okTrimL_cons rfl (okTrimL_cons rfl (okTrimL_cons rfl (okTrimL_cons rfl (okTrimL_cons rfl (okTrimL_cons rfl (okTrimL_cons rfl (okTrimL_cons rfl (okTrimL_cons rfl (okTrimL_cons rfl (okTrimL_cons rfl (okTrimL_cons rfl (okTrimL_cons rfl (okTrimL_cons rfl (okTrimL_cons rfl (okTrimL_cons rfl (okTrimL_cons rfl (okTrimL_cons rfl (okTrimL_cons rfl (okTrimL_cons rfl (okTrimL_cons rfl (okTrimL_cons rfl (okTrimL_cons rfl (okTrimL_cons rfl (okTrimL_cons rfl (okTrimL_cons rfl (okTrimL_cons rfl (okTrimL_cons rfl (okTrimL_cons rfl (okTrimL_cons rfl (okTrimL_cons rfl (okTrimL_cons rfl (okTrimL_cons rfl (okTrimL_cons rfl (okTrimL_cons rfl (okTrimL_cons rfl (okTrimL_cons rfl (okTrimL_cons rfl (okTrimL_cons rfl (okTrimL_cons rfl (okTrimL_cons rfl (okTrimL_cons rfl (okTrimL_cons rfl (okTrimL_cons rfl (okTrimL_cons rfl (okTrimL_cons rfl (okTrimL_cons rfl rfl))))))))))))))))))))))))))))))))))))))))))))))))))))))))))))))))))))))))))))))))))))))))))))))))))))))))))))))))))))))) (by kernel_rfl)
      ·
       refine w_condF hc4 rfl ?_
       refine loop_exit h (fun h => ?_)
       refine cut_done (o := or2) (s2.1) h ?_
       exact wm_of [true, true, true, true, true, true, true, true, true, true, true, false, true, true, true, true, true, true, true, true, true, true, true, true, true, true, true, true, true, true, true, true, true, true, true, true, true, true, true, true, true, false, false, false, false, false, false, false, false, false, false, false, false, false, false, true, true, true, true, true, true, true, true, true, true, true, true, true, true, true, true, true, true, true, true, true, true, true, true, true, true, true, true, true, true, true, true, true, true, true, true, true, true, true, true, true, true, true, true, true, true, true, true, true, true, true, true, true, true, true, true, true, true, true, true, true, true, true] (by kernel_rfl) (by kernel_rfl)
    ·
     intro j2 h
     refine w_start (by dsimp only [setAll, topAll, List.foldl, List.set]) rfl ?_
     refine w_seq (w_region ?_)
     refine w_op (a := .list (List.length (l : List BS)) (Enc.cellsL (l : List BS)) .none) rfl rfl rfl rfl (by dsimp only [aput, List.set]) ?_
     obtain ⟨g7, h⟩ := chk_e h
     obtain ⟨x6, hx6, h⟩ := letE_e h
     refine w_callc (args' := [.list (List.length (l : List BS)) (Enc.cellsL (l : List BS)) .none]) (r := .list (List.length (x6 : List BS)) (Enc.cellsL (x6 : List BS)) .none) (by rw [← hx6]; exact (k_parts l g7)) rfl rfl (stripL_cons (strip_l (Enc.cloL _)) rfl) (okTrimL_cons (okTrim_l (Enc.cloL _)) rfl) (by dsimp only [aput, List.set]) ?_
     refine w_op (a := (ownAV (List.length (j2 : List Ar)) (Enc.cellsL (j2 : List Ar)))) rfl rfl rfl rfl (by dsimp only [aput, List.set]) ?_
     obtain ⟨x7, hx7, h⟩ := bindE_e h
     refine w_callc (args' := [.list (List.length (j2 : List Ar)) (Enc.cellsL (j2 : List Ar)) .none]) (r := .agg (Enc.cells (x7 : Ar))) (rparts_sh fuel j2 x7 hx7) rfl rfl (stripL_cons (strip_o (Enc.cloL _) Enc.z) rfl) (okTrimL_cons (okTrim_own (Enc.cloL _)) rfl) (by dsimp only [aput, List.set]) ?_
     refine w_opm (a := .ptr 1 0) (σ'' := (ownSt [(57, (Enc.cells (j1 : Ar))), (56, (Enc.cells (zeroA : Ar)))] 57 (List.length (j2 : List Ar)) 256)) rfl rfl rfl (op_allocA (by decide) rfl) (by dsimp only [aput, List.set]) rfl ?_
     refine w_op (a := .list (List.length (x6 : List BS)) (Enc.cellsL (x6 : List BS)) .none) rfl rfl rfl rfl (by dsimp only [aput, List.set]) ?_
     refine w_opm (σ'' := (ownSt [(57, (Enc.cells (j1 : Ar))), (56, (Enc.cells (x7 : Ar)))] 57 (List.length (j2 : List Ar)) 256)) rfl rfl rfl (op_storeW (n := 256) rfl rfl rfl rfl rfl (Enc.len _) rfl (Enc.len _) (by decide)) (by dsimp only [aput, List.set]) rfl ?_
     refine w_seq ?_
     refine w_seq ?_
     refine w_draw (id := 17) 3 (by kernel_rfl) (by kernel_rfl) ?_
     refine h_op (a := .list (List.length (spans : List Sp)) (Enc.cellsL (spans : List Sp)) .none) rfl rfl rfl rfl (by dsimp only [aput, List.set]) ?_
     obtain ⟨x8, hx8, h⟩ := bindE_e h
     refine h_call (args' := [.list (List.length (spans : List Sp)) (Enc.cellsL (spans : List Sp)) .none]) (r := .agg (Enc.cells (x8 : BS))) (fromSpans_sh fuel spans x8 hx8) rfl rfl rfl (stripL_cons (strip_l (Enc.cloL _)) rfl) (okTrimL_cons (okTrim_l (Enc.cloL _)) rfl) (by dsimp only [aput, List.set]) ?_
     refine h_op (a := .agg (Enc.cells (j1 : Ar))) rfl rfl rfl (q_loadArr j1 (by decide) rfl rfl rfl) (by dsimp only [aput, List.set]) ?_
     refine h_end ?_
     obtain ⟨x9, hx9, h⟩ := bindE_e h
     refine w_callc (args' := [.agg (Enc.cells (x8 : BS)), .agg (Enc.cells (j1 : Ar))]) (r := .raw (.bool x9)) (is_sh fuel x8 j1 x9 hx9) rfl rfl (stripL_cons (strip_c (clo_agg (Enc.clo _))) (stripL_cons (strip_c (clo_agg (Enc.clo _))) rfl)) (okTrimL_cons (okTrim_clo _ _ (clo_agg (Enc.clo _))) (okTrimL_cons (okTrim_clo _ _ (clo_agg (Enc.clo _))) rfl)) (by dsimp only [aput, List.set]) ?_
     refine w_op (a := .raw (.bool (!x9))) rfl rfl rfl rfl (by dsimp only [aput, List.set]) ?_
     refine bif_e h (fun hc5 h => ?_) (fun hc5 h => ?_)
     ·
      refine w_condT hc5 rfl ?_
      refine w_seq (w_region ?_)
      refine w_op (a := .raw (.bool false)) rfl rfl rfl rfl (by dsimp only [aput, List.set]) ?_
      exact end_pureF (fun (r : Bool) => (.raw (.bool r) : AV)) h (a := .raw (.bool false)) rfl rfl rfl
     ·
      refine w_condF hc5 rfl ?_
      refine w_cutF h [0, 1, 4, 5, 8, 9, 14, 55, 56, 57, 58, 59, 60, 61, 62, 63, 64, 65, 66, 67, 68, 69, 70, 71, 72, 73, 74, 75, 76, 77, 78] (fun j3 => []) (fun j3 => (ownSt [(57, (Enc.cells (j1 : Ar))), (56, (Enc.cells (x7 : Ar)))] 57 (List.length (j2 : List Ar)) 256)) ?_ ?_
      ·
       intro or3 h hr3
       refine w_seq (w_region ?_)
       refine w_op (a := .list (List.length (l : List BS)) (Enc.cellsL (l : List BS)) .none) rfl rfl rfl rfl (by dsimp only [aput, List.set]) ?_
       refine w_op (a := .raw (.int .i64 (List.length l : Int))) rfl rfl rfl rfl (by dsimp only [aput, List.set]) ?_
       refine w_op (a := .raw (.int .i64 0)) rfl rfl rfl rfl (by dsimp only [aput, List.set]) ?_
       refine w_block ?_
       refine w_loopF h [0, 4, 5, 9, 14, 55, 56, 57, 58, 59, 60, 61, 62, 63, 64, 66, 67, 68, 69, 70, 71, 72, 73, 74, 75, 76, 77, 78] (fun s3 => [(66, .raw (.int .i64 s3))]) (fun s3 => (ownSt [(57, (Enc.cells (j1 : Ar))), (56, (Enc.cells (x7 : Ar)))] 57 (List.length (j2 : List Ar)) 256)) ?_ ?_
       ·
        exact wm_of [false, true, true, true, false, false, true, true, true, false, true, true, true, true, false, true, true, true, true, true, true, true, true, true, true, true, true, true, true, true, true, true, true, true, true, true, true, true, true, true, true, true, true, true, true, true, true, true, true, true, true, true, true, true, true, false, false, false, false, false, false, false, false, false, false, true, true, false, false, false, false, false, false, false, false, false, false, false, false, true, true, true, true, true, true, true, true, true, true, true, true, true, true, true, true, true, true, true, true, true, true, true, true, true, true, true, true, true, true, true, true, true, true, true, true, true, true, true] (by kernel_rfl) (by kernel_rfl)
       ·
        intro s3 p3 h
        refine w_start (by dsimp only [setAll, topAll, List.foldl, List.set]) rfl ?_
        refine w_seq (w_region ?_)
        refine w_op (a := .raw (.bool (decide (s3 < (List.length l : Int))))) rfl rfl rfl rfl (by dsimp only [aput, List.set]) ?_
        refine w_seq ?_
        refine bif_e h (fun hc6 h => ?_) (fun hc6 h => ?_)
        ·
         refine w_condT hc6 rfl ?_
         refine w_seq ?_
         refine w_block ?_
         refine w_seq (w_region ?_)
         refine w_op (a := .raw (.int .i64 s3)) rfl rfl rfl rfl (by dsimp only [aput, List.set]) ?_
         refine w_op (a := .raw (.int .i64 s3)) rfl rfl rfl rfl (by dsimp only [aput, List.set]) ?_
         refine w_seq ?_
         refine w_draw (id := 22) 8 (by kernel_rfl) (by kernel_rfl) ?_
         refine h_op (a := .list (List.length (l : List BS)) (Enc.cellsL (l : List BS)) .none) rfl rfl rfl rfl (by dsimp only [aput, List.set]) ?_
         refine h_op (a := .raw (.int .i64 s3)) rfl rfl rfl rfl (by dsimp only [aput, List.set]) ?_
         obtain ⟨g8, h⟩ := chk_e h
         obtain ⟨x10, hx10, h⟩ := letE_e h
         refine h_op (a := .iptr (Enc.cells x10 ++ Enc.cellsL (List.drop (Int.toNat s3 + 1) l))) rfl rfl rfl (by rw [← hx10]; exact (q_idx (α := BS) (l := l) g8 rfl rfl rfl rfl rfl)) (by dsimp only [aput, List.set]) ?_
         refine h_op (a := .agg (Enc.cells (x10 : BS))) rfl rfl rfl rfl (by dsimp only [aput, List.set]) ?_
         refine h_op (a := .list (List.length (l : List BS)) (Enc.cellsL (l : List BS)) .none) rfl rfl rfl rfl (by dsimp only [aput, List.set]) ?_
         refine h_op (a := .raw (.int .i64 s3)) rfl rfl rfl rfl (by dsimp only [aput, List.set]) ?_
         obtain ⟨g9, h⟩ := chk_e h
         obtain ⟨x11, hx11, h⟩ := letE_e h
         refine h_op (a := .iptr (Enc.cells x11 ++ Enc.cellsL (List.drop (Int.toNat s3 + 1) l))) rfl rfl rfl (by rw [← hx11]; exact (q_idx (α := BS) (l := l) g9 rfl rfl rfl rfl rfl)) (by dsimp only [aput, List.set]) ?_
         refine h_op (a := .agg (Enc.cells (x11 : BS))) rfl rfl rfl rfl (by dsimp only [aput, List.set]) ?_
         refine h_end ?_
         refine w_run (.raw (.bool (decide (x10 ≠ x11)))) rfl rfl rfl (rs_neqset x10 x11 rfl rfl rfl) (by dsimp only [aput, List.set]) ?_
         refine bif_e h (fun hc7 h => ?_) (fun hc7 h => ?_)
         ·
          refine w_condT hc7 rfl ?_
          refine w_seq (w_region ?_)
          refine w_op (a := .raw (.bool false)) rfl rfl rfl rfl (by dsimp only [aput, List.set]) ?_
          refine loop_exit h (fun h => ?_)
          replace h := cut_inr h hr3
          exact end_pureF (fun (r : Bool) => (.raw (.bool r) : AV)) h (a := .raw (.bool false)) rfl rfl rfl
         ·
          refine w_condF hc7 rfl ?_
          refine w_region (id := 24) ?_
          obtain ⟨g10, h⟩ := chk_e h
          refine w_op (a := .raw (.int .i64 (s3 + 1))) rfl rfl rfl (op_q (q_add rfl rfl rfl rfl g10.1 g10.2)) (by dsimp only [aput, List.set]) ?_
          refine w_op (a := .raw (.int .i64 (s3 + 1))) rfl rfl rfl rfl (by dsimp only [aput, List.set]) ?_
          refine loop_next (p := p3) ((s3 + 1)) h ?_
          exact wm_of [false, true, true, true, false, false, true, true, true, false, true, true, true, true, false, true, true, true, true, true, true, true, true, true, true, true, true, true, true, true, true, true, true, true, true, true, true, true, true, true, true, true, true, true, true, true, true, true, true, true, true, true, true, true, true, false, false, false, false, false, false, false, false, false, false, true, true, false, false, false, false, false, false, false, false, false, false, false, false, true, true, true, true, true, true, true, true, true, true, true, true, true, true, true, true, true, true, true, true, true, true, true, true, true, true, true, true, true, true, true, true, true, true, true, true, true, true, true] (by kernel_rfl) (by kernel_rfl)
        ·
         refine w_condF hc6 rfl ?_
         refine loop_exit h (fun h => ?_)
         refine cut_done (o := or3) () h ?_
         exact wm_of [false, false, true, true, false, false, true, true, false, false, true, true, true, true, false, true, true, true, true, true, true, true, true, true, true, true, true, true, true, true, true, true, true, true, true, true, true, true, true, true, true, true, true, true, true, true, true, true, true, true, true, true, true, true, true, false, false, false, false, false, false, false, false, false, false, false, false, false, false, false, false, false, false, false, false, false, false, false, false, true, true, true, true, true, true, true, true, true, true, true, true, true, true, true, true, true, true, true, true, true, true, true, true, true, true, true, true, true, true, true, true, true, true, true, true, true, true, true] (by kernel_rfl) (by kernel_rfl)
      ·
       intro j3 h
       refine w_start (by dsimp only [setAll, topAll, List.foldl, List.set]) rfl ?_
       refine w_seq (w_region ?_)
       refine w_op (a := .raw (.int .i64 0)) rfl rfl rfl rfl (by dsimp only [aput, List.set]) ?_
       refine w_cutF h [4, 13, 15, 16, 17, 18, 79, 80, 81, 82, 83, 84, 85, 86, 87, 88, 89, 90, 91, 92, 93, 94, 95, 96, 97, 98, 99, 100, 101, 102, 103, 104, 105, 106, 107, 108, 109, 110, 111, 112, 113] (fun j4 => [(15, .raw (.int .i64 j4))]) (fun j4 => (ownSt [(57, (Enc.cells (j1 : Ar))), (56, (Enc.cells (x7 : Ar)))] 57 (List.length (j2 : List Ar)) 256)) ?_ ?_
       ·
        intro or4 h hr4
        refine w_seq (w_region ?_)
        refine w_op (a := .raw (.int .i64 0)) rfl rfl rfl rfl (by dsimp only [aput, List.set]) ?_
        refine w_block ?_
        refine w_loopF h [4, 15, 16, 17, 18, 79, 80, 81, 82, 83, 84, 85, 86, 87, 88, 89, 90, 91, 92, 93, 94, 95, 96, 97, 98, 99, 100, 101, 102, 103, 104, 105, 106, 107, 108, 109, 110, 111, 112, 113] (fun s4 => [(15, .raw (.int .i64 s4.1)), (79, .raw (.int .i64 s4.2))]) (fun s4 => (ownSt [(57, (Enc.cells (j1 : Ar))), (56, (Enc.cells (x7 : Ar)))] 57 (List.length (j2 : List Ar)) 256)) ?_ ?_
        ·
         exact wm_of [true, true, true, true, false, true, true, true, true, true, true, true, true, true, true, true, false, false, false, true, true, true, true, true, true, true, true, true, true, true, true, true, true, true, true, true, true, true, true, true, true, true, true, true, true, true, true, true, true, true, true, true, true, true, true, true, true, true, true, true, true, true, true, true, true, true, true, true, true, true, true, true, true, true, true, true, true, true, true, true, false, false, false, false, false, false, false, false, false, false, false, false, false, false, false, false, false, false, false, false, false, false, false, false, false, false, false, false, false, false, false, false, false, false, true, true, true, true] (by kernel_rfl) (by kernel_rfl)
        ·
         intro s4 p4 h
         refine w_start (by dsimp only [setAll, topAll, List.foldl, List.set]) rfl ?_
         refine w_seq (w_region ?_)
         refine w_op (a := .raw (.bool (decide (s4.2 < 256)))) rfl rfl rfl rfl (by dsimp only [aput, List.set]) ?_
         refine w_seq ?_
         refine bif_e h (fun hc8 h => ?_) (fun hc8 h => ?_)
         ·
          refine w_condT hc8 rfl ?_
          refine w_cutF h [4, 15, 16, 17, 18, 80, 81, 82, 83, 84, 85, 86, 87, 88, 89, 90, 91, 92, 93, 94, 95, 96, 97, 98, 99, 100, 101, 102, 103, 104, 105, 106, 107, 108, 109, 110, 111, 112] (fun j5 => [(15, .raw (.int .i64 j5))]) (fun j5 => (ownSt [(57, (Enc.cells (j1 : Ar))), (56, (Enc.cells (x7 : Ar)))] 57 (List.length (j2 : List Ar)) 256)) ?_ ?_
          ·
           intro or5 h hr5
           refine w_block ?_
           refine w_seq (w_region ?_)
           refine w_op (a := .raw (.int .i64 s4.2)) rfl rfl rfl rfl (by dsimp only [aput, List.set]) ?_
           refine w_op (a := .raw (.int .i64 s4.2)) rfl rfl rfl rfl (by dsimp only [aput, List.set]) ?_
           refine w_seq ?_
           refine w_seq (w_region ?_)
           refine w_op (a := .raw (.int .i64 s4.2)) rfl rfl rfl rfl (by dsimp only [aput, List.set]) ?_
           obtain ⟨g11, h⟩ := chk_e h
           refine w_op (a := .ptr 1 (0 + Int.toNat s4.2 * 1)) rfl rfl rfl (op_q (q_idxA g11 rfl rfl rfl rfl rfl)) (by dsimp only [aput, List.set]) ?_
           refine w_op (a := .raw (.int .i64 (rdA x7 s4.2))) rfl rfl rfl (op_q (q_loadA x7 g11 rfl rfl rfl)) (by dsimp only [aput, List.set]) ?_
           refine w_op (a := .raw (.int .i64 s4.2)) rfl rfl rfl rfl (by dsimp only [aput, List.set]) ?_
           refine w_op (a := .raw (.bool ((rdA x7 s4.2) != s4.2))) rfl rfl rfl rfl (by dsimp only [aput, List.set]) ?_
           refine bif_e h (fun hc9 h => ?_) (fun hc9 h => ?_)
           ·
            refine w_condT hc9 rfl ?_
            refine cut_done (o := or5) (s4.1) h ?_
            exact wm_of [true, true, true, true, false, true, true, true, true, true, true, true, true, true, true, true, false, false, false, true, true, true, true, true, true, true, true, true, true, true, true, true, true, true, true, true, true, true, true, true, true, true, true, true, true, true, true, true, true, true, true, true, true, true, true, true, true, true, true, true, true, true, true, true, true, true, true, true, true, true, true, true, true, true, true, true, true, true, true, true, false, false, false, false, false, false, false, false, false, false, false, false, false, false, false, false, false, false, false, false, false, false, false, false, false, false, false, false, false, false, false, false, false, true, true, true, true, true] (by kernel_rfl) (by kernel_rfl)
           ·
            refine w_condF hc9 rfl ?_
            refine w_seq (w_region ?_)
            refine w_opm (a := .ptr 2 0) (σ'' := (ownSt [(57, (Enc.cells (j1 : Ar))), (56, (Enc.cells (x7 : Ar))), (57, (Enc.cells (zeroA : Ar)))] 57 (List.length (j2 : List Ar)) 256)) rfl rfl rfl (op_allocA (by decide) rfl) (by dsimp only [aput, List.set]) rfl ?_
            refine w_cutF h [16, 18, 80, 81, 82, 83, 84, 85, 86, 87, 88, 89, 90, 91, 92, 93, 94, 95, 96, 97] (fun j6 => []) (fun j6 => (ownSt [(57, (Enc.cells (j1 : Ar))), (56, (Enc.cells (x7 : Ar))), (57, (Enc.cells (j6 : Ar)))] 57 (List.length (j2 : List Ar)) 256)) ?_ ?_
            ·
             intro or6 h hr6
             refine w_seq (w_region ?_)
             refine w_op (a := .raw (.int .i64 0)) rfl rfl rfl rfl (by dsimp only [aput, List.set]) ?_
             refine w_block ?_
             refine w_loopF h [18, 80, 81, 82, 83, 84, 85, 86, 87, 88, 89, 90, 91, 92, 93, 94, 95, 96, 97] (fun s5 => [(87, .raw (.int .i64 s5.1))]) (fun s5 => (ownSt [(57, (Enc.cells (j1 : Ar))), (56, (Enc.cells (x7 : Ar))), (57, (Enc.cells (s5.2 : Ar)))] 57 (List.length (j2 : List Ar)) 256)) ?_ ?_
             ·
              exact wm_of [true, true, true, true, true, true, true, true, true, true, true, true, true, true, true, true, true, true, false, true, true, true, true, true, true, true, true, true, true, true, true, true, true, true, true, true, true, true, true, true, true, true, true, true, true, true, true, true, true, true, true, true, true, true, true, true, true, true, true, true, true, true, true, true, true, true, true, true, true, true, true, true, true, true, true, true, true, true, true, true, false, false, false, false, false, false, false, true, false, false, false, false, false, false, false, false, false, false, true, true, true, true, true, true, true, true, true, true, true, true, true, true, true, true, true, true, true, true] (by kernel_rfl) (by kernel_rfl)
             ·
              intro s5 p5 h
              refine w_start (by dsimp only [setAll, topAll, List.foldl, List.set]) rfl ?_
              refine w_seq (w_region ?_)
              refine w_op (a := .raw (.bool (decide (s5.1 < 256)))) rfl rfl rfl rfl (by dsimp only [aput, List.set]) ?_
              refine w_seq ?_
              refine bif_e h (fun hc10 h => ?_) (fun hc10 h => ?_)
              ·
               refine w_condT hc10 rfl ?_
               refine w_cutF h [18, 88, 89, 90, 91, 92, 93, 94, 95, 96] (fun j7 => []) (fun j7 => (ownSt [(57, (Enc.cells (j1 : Ar))), (56, (Enc.cells (x7 : Ar))), (57, (Enc.cells (j7 : Ar)))] 57 (List.length (j2 : List Ar)) 256)) ?_ ?_
               ·
                intro or7 h hr7
                refine w_block ?_
                refine w_seq (w_region ?_)
                refine w_op (a := .raw (.int .i64 s5.1)) rfl rfl rfl rfl (by dsimp only [aput, List.set]) ?_
                refine w_op (a := .raw (.int .i64 s5.1)) rfl rfl rfl rfl (by dsimp only [aput, List.set]) ?_
                refine w_seq (w_region ?_)
                refine w_op (a := .raw (.int .i64 s5.1)) rfl rfl rfl rfl (by dsimp only [aput, List.set]) ?_
                obtain ⟨g12, h⟩ := chk_e h
                refine w_op (a := .ptr 1 (0 + Int.toNat s5.1 * 1)) rfl rfl rfl (op_q (q_idxA g12 rfl rfl rfl rfl rfl)) (by dsimp only [aput, List.set]) ?_
                refine w_op (a := .raw (.int .i64 (rdA x7 s5.1))) rfl rfl rfl (op_q (q_loadA x7 g12 rfl rfl rfl)) (by dsimp only [aput, List.set]) ?_
                refine w_op (a := .raw (.int .i64 s4.2)) rfl rfl rfl rfl (by dsimp only [aput, List.set]) ?_
                refine w_op (a := .raw (.bool ((rdA x7 s5.1) == s4.2))) rfl rfl rfl rfl (by dsimp only [aput, List.set]) ?_
                refine bif_e h (fun hc11 h => ?_) (fun hc11 h => ?_)
                ·
                 refine w_condT hc11 rfl ?_
                 refine w_region (id := 35) ?_
                 refine w_op (a := .raw (.int .i64 s5.1)) rfl rfl rfl rfl (by dsimp only [aput, List.set]) ?_
                 obtain ⟨g13, h⟩ := chk_e h
                 refine w_op (a := .ptr 2 (0 + Int.toNat s5.1 * 1)) rfl rfl rfl (op_q (q_idxA g13 rfl rfl rfl rfl rfl)) (by dsimp only [aput, List.set]) ?_
                 refine w_opm (σ'' := (ownSt [(57, (Enc.cells (j1 : Ar))), (56, (Enc.cells (x7 : Ar))), (57, (Enc.cells ((wrA s5.2 s5.1 1) : Ar)))] 57 (List.length (j2 : List Ar)) 256)) rfl rfl rfl (op_storeA s5.2 g13 rfl rfl rfl rfl) (by dsimp only [aput, List.set]) rfl ?_
                 refine cut_done (o := or7) ((wrA s5.2 s5.1 1)) h ?_
                 exact wm_of [true, true, true, true, true, true, true, true, true, true, true, true, true, true, true, true, true, true, false, true, true, true, true, true, true, true, true, true, true, true, true, true, true, true, true, true, true, true, true, true, true, true, true, true, true, true, true, true, true, true, true, true, true, true, true, true, true, true, true, true, true, true, true, true, true, true, true, true, true, true, true, true, true, true, true, true, true, true, true, true, true, true, true, true, true, true, true, true, false, false, false, false, false, false, false, false, false, true, true, true, true, true, true, true, true, true, true, true, true, true, true, true, true, true, true, true, true, true] (by kernel_rfl) (by kernel_rfl)
                ·
                 refine w_condF hc11 rfl ?_
                 refine cut_done (o := or7) (s5.2) h ?_
                 exact wm_of [true, true, true, true, true, true, true, true, true, true, true, true, true, true, true, true, true, true, false, true, true, true, true, true, true, true, true, true, true, true, true, true, true, true, true, true, true, true, true, true, true, true, true, true, true, true, true, true, true, true, true, true, true, true, true, true, true, true, true, true, true, true, true, true, true, true, true, true, true, true, true, true, true, true, true, true, true, true, true, true, true, true, true, true, true, true, true, true, false, false, false, false, false, false, false, false, false, true, true, true, true, true, true, true, true, true, true, true, true, true, true, true, true, true, true, true, true, true] (by kernel_rfl) (by kernel_rfl)
               ·
                intro j7 h
                refine w_start (by dsimp only [setAll, topAll, List.foldl, List.set]) rfl ?_
                refine w_region (id := 36) ?_
                obtain ⟨g14, h⟩ := chk_e h
                refine w_op (a := .raw (.int .i64 (s5.1 + 1))) rfl rfl rfl (op_q (q_add rfl rfl rfl rfl g14.1 g14.2)) (by dsimp only [aput, List.set]) ?_
                refine w_op (a := .raw (.int .i64 (s5.1 + 1))) rfl rfl rfl rfl (by dsimp only [aput, List.set]) ?_
                refine loop_next (p := p5) ((s5.1 + 1), j7) h ?_
                exact wm_of [true, true, true, true, true, true, true, true, true, true, true, true, true, true, true, true, true, true, false, true, true, true, true, true, true, true, true, true, true, true, true, true, true, true, true, true, true, true, true, true, true, true, true, true, true, true, true, true, true, true, true, true, true, true, true, true, true, true, true, true, true, true, true, true, true, true, true, true, true, true, true, true, true, true, true, true, true, true, true, true, false, false, false, false, false, false, false, true, false, false, false, false, false, false, false, false, false, false, true, true, true, true, true, true, true, true, true, true, true, true, true, true, true, true, true, true, true, true] (by kernel_rfl) (by kernel_rfl)
              ·
               refine w_condF hc10 rfl ?_
               refine loop_exit h (fun h => ?_)
               refine cut_done (o := or6) (s5.2) h ?_
               exact wm_of [true, true, true, true, true, true, true, true, true, true, true, true, true, true, true, true, false, true, false, true, true, true, true, true, true, true, true, true, true, true, true, true, true, true, true, true, true, true, true, true, true, true, true, true, true, true, true, true, true, true, true, true, true, true, true, true, true, true, true, true, true, true, true, true, true, true, true, true, true, true, true, true, true, true, true, true, true, true, true, true, false, false, false, false, false, false, false, false, false, false, false, false, false, false, false, false, false, false, true, true, true, true, true, true, true, true, true, true, true, true, true, true, true, true, true, true, true, true] (by kernel_rfl) (by kernel_rfl)
            ·
             intro j6 h
             refine w_start (by dsimp only [setAll, topAll, List.foldl, List.set]) rfl ?_
             refine w_seq ?_
             refine w_seq ?_
             refine w_draw (id := 37) 10 (by kernel_rfl) (by kernel_rfl) ?_
             refine h_op (a := .raw (.int .i64 s4.1)) rfl rfl rfl rfl (by dsimp only [aput, List.set]) ?_
             refine h_op (a := .list (List.length (x6 : List BS)) (Enc.cellsL (x6 : List BS)) .none) rfl rfl rfl rfl (by dsimp only [aput, List.set]) ?_
             refine h_op (a := .raw (.int .i64 (List.length x6 : Int))) rfl rfl rfl rfl (by dsimp only [aput, List.set]) ?_
             refine h_op (a := .raw (.bool (decide (s4.1 ≥ (List.length x6 : Int))))) rfl rfl rfl rfl (by dsimp only [aput, List.set]) ?_
             refine bif_e h (fun hc12 h => ?_) (fun hc12 h => ?_)
             ·
              refine h_op (a := .raw (.bool true)) rfl rfl rfl (q_bool rfl hc12) (by dsimp only [aput, List.set]) ?_
              refine h_pass rfl rfl rfl (by decide) (by dsimp only [aput, List.set]) ?_
              refine h_pass rfl rfl rfl (by decide) (by dsimp only [aput, List.set]) ?_
              refine h_pass rfl rfl rfl (by decide) (by dsimp only [aput, List.set]) ?_
              refine h_pass rfl rfl rfl (by decide) (by dsimp only [aput, List.set]) ?_
              refine h_pass rfl rfl rfl (by decide) (by dsimp only [aput, List.set]) ?_
              refine h_end ?_
              refine w_pass rfl rfl (by decide) (by dsimp only [aput, List.set]) ?_
              refine w_pass rfl rfl (by decide) (by dsimp only [aput, List.set]) ?_
              refine w_op (a := .raw (.bool true)) rfl rfl rfl rfl (by dsimp only [aput, List.set]) ?_
              refine w_true rfl ?_
              refine w_seq (w_region ?_)
              refine w_op (a := .raw (.bool false)) rfl rfl rfl rfl (by dsimp only [aput, List.set]) ?_
              replace h := cut_inr h hr5
              refine loop_exit h (fun h => ?_)
              replace h := cut_inr h hr4
              exact end_pureF (fun (r : Bool) => (.raw (.bool r) : AV)) h (a := .raw (.bool false)) rfl rfl rfl
             ·
              refine h_op (a := .raw (.bool false)) rfl rfl rfl (q_bool rfl hc12) (by dsimp only [aput, List.set]) ?_
              refine h_met rfl rfl ?_
              refine h_op (a := .list (List.length (x6 : List BS)) (Enc.cellsL (x6 : List BS)) .none) rfl rfl rfl rfl (by dsimp only [aput, List.set]) ?_
              refine h_met rfl rfl ?_
              refine h_op (a := .raw (.int .i64 s4.1)) rfl rfl rfl rfl (by dsimp only [aput, List.set]) ?_
              refine h_met rfl rfl ?_
              obtain ⟨g15, h⟩ := chk_e h
              obtain ⟨x12, hx12, h⟩ := letE_e h
              refine h_op (a := .iptr (Enc.cells x12 ++ Enc.cellsL (List.drop (Int.toNat s4.1 + 1) x6))) rfl rfl rfl (by rw [← hx12]; exact (q_idx (α := BS) (l := x6) g15 rfl rfl rfl rfl rfl)) (by dsimp only [aput, List.set]) ?_
              refine h_met rfl rfl ?_
              refine h_op (a := .agg (Enc.cells (x12 : BS))) rfl rfl rfl rfl (by dsimp only [aput, List.set]) ?_
              refine h_met rfl rfl ?_
              refine h_op (a := .agg (Enc.cells (j6 : Ar))) rfl rfl rfl (q_loadArr j6 (by decide) rfl rfl rfl) (by dsimp only [aput, List.set]) ?_
              refine h_end ?_
              refine w_met rfl rfl ?_
              obtain ⟨x13, hx13, h⟩ := bindE_e h
              refine w_callc (args' := [.agg (Enc.cells (x12 : BS)), .agg (Enc.cells (j6 : Ar))]) (r := .raw (.bool x13)) (is_sh fuel x12 j6 x13 hx13) rfl rfl (stripL_cons (strip_c (clo_agg (Enc.clo _))) (stripL_cons (strip_c (clo_agg (Enc.clo _))) rfl)) (okTrimL_cons (okTrim_clo _ _ (clo_agg (Enc.clo _))) (okTrimL_cons (okTrim_clo _ _ (clo_agg (Enc.clo _))) rfl)) (by dsimp only [aput, List.set]) ?_
              refine w_met rfl rfl ?_
              refine w_op (a := .raw (.bool (!x13))) rfl rfl rfl rfl (by dsimp only [aput, List.set]) ?_
              refine w_op (a := .raw (.bool (!x13))) rfl rfl rfl rfl (by dsimp only [aput, List.set]) ?_
              refine bif_e h (fun hc13 h => ?_) (fun hc13 h => ?_)
              ·
               refine w_condT hc13 rfl ?_
               refine w_seq (w_region ?_)
               refine w_op (a := .raw (.bool false)) rfl rfl rfl rfl (by dsimp only [aput, List.set]) ?_
               replace h := cut_inr h hr5
               refine loop_exit h (fun h => ?_)
               replace h := cut_inr h hr4
               exact end_pureF (fun (r : Bool) => (.raw (.bool r) : AV)) h (a := .raw (.bool false)) rfl rfl rfl
              ·
               refine w_condF hc13 rfl ?_
               refine w_region (id := 39) ?_
               refine w_op (a := .raw (.int .i64 s4.1)) rfl rfl rfl rfl (by dsimp only [aput, List.set]) ?_
               obtain ⟨g16, h⟩ := chk_e h
               refine w_op (a := .raw (.int .i64 (s4.1 + 1))) rfl rfl rfl (op_q (q_add rfl rfl rfl rfl g16.1 g16.2)) (by dsimp only [aput, List.set]) ?_
               refine w_op (a := .raw (.int .i64 (s4.1 + 1))) rfl rfl rfl rfl (by dsimp only [aput, List.set]) ?_
               refine cut_done (o := or5) ((s4.1 + 1)) h ?_
               exact wm_trim [true, true, true, true, false, true, true, true, true, true, true, true, true, true, true, true, false, false, false, true, true, true, true, true, true, true, true, true, true, true, true, true, true, true, true, true, true, true, true, true, true, true, true, true, true, true, true, true, true, true, true, true, true, true, true, true, true, true, true, true, true, true, true, true, true, true, true, true, true, true, true, true, true, true, true, true, true, true, true, true, false, false, false, false, false, false, false, false, false, false, false, false, false, false, false, false, false, false, false, false, false, false, false, false, false, false, false, false, false, false, false, false, false, true, true, true, true, true] 2 (by kernel_rfl) (Nat.le_of_ble_eq_true rfl) (okSt_of (okB_cons (okTrimL_clo _ _ (Enc.clo _)) (okB_cons (okTrimL_clo _ _ (Enc.clo _)) rfl))) (by dsimp only [setAll, topAll, List.foldl, List.set]; exact (okTrimL_cons rfl (okTrimL_cons rfl (okTrimL_cons rfl (okTrimL_cons rfl (okTrimL_cons rfl (okTrimL_cons rfl (okTrimL_cons rfl (okTrimL_cons rfl (okTrimL_cons rfl (okTrimL_cons rfl (okTrimL_cons rfl (okTrimL_cons rfl (okTrimL_cons (okTrim_l (Enc.cloL _)) (okTrimL_cons (by decide) (okTrimL_cons rfl (okTrimL_cons rfl (okTrimL_cons rfl (okTrimL_cons rfl (okTrimL_cons rfl (okTrimL_cons rfl (okTrimL_cons rfl (okTrimL_cons rfl (okTrimL_cons rfl (okTrimL_cons rfl (okTrimL_cons rfl (okTrimL_cons rfl (okTrimL_cons rfl (okTrimL_cons rfl (okTrimL_cons rfl (okTrimL_cons rfl (okTrimL_cons rfl (okTrimL_cons rfl (okTrimL_cons rfl (okTrimL_cons rfl (okTrimL_cons rfl (okTrimL_cons rfl (okTrimL_cons rfl (okTrimL_cons rfl (okTrimL_cons rfl (okTrimL_cons rfl (okTrimL_cons rfl (okTrimL_cons rfl (okTrimL_cons rfl (okTrimL_cons rfl (okTrimL_cons rfl (okTrimL_cons rfl (okTrimL_cons rfl (okTrimL_cons rfl (okTrimL_cons rfl (okTrimL_cons rfl (okTrimL_cons rfl (okTrimL_cons rfl (okTrimL_cons rfl (okTrimL_cons rfl (okTrimL_cons rfl (okTrimL_cons rfl (okTrimL_cons rfl (okTrimL_cons rfl (okTrimL_cons rfl (okTrimL_cons rfl (okTrimL_cons rfl (okTrimL_cons rfl (okTrimL_cons rfl (okTrimL_cons rfl (okTrimL_cons rfl (okTrimL_cons rfl (okTrimL_cons rfl (okTrimL_cons rfl (okTrimL_cons rfl (okTrimL_cons rfl (okTrimL_cons rfl (okTrimL_cons rfl (okTrimL_cons rfl (okTrimL_cons rfl (okTrimL_cons rfl (okTrimL_cons rfl (okTrimL_cons rfl (okTrimL_cons rfl (okTrimL_cons rfl (okTrimL_cons rfl (okTrimL_cons rfl (okTrimL_cons rfl (okTrimL_cons rfl (okTrimL_cons rfl (okTrimL_cons rfl (okTrimL_cons rfl (okTrimL_cons rfl (okTrimL_cons rfl (okTrimL_cons rfl (okTrimL_cons rfl (okTrimL_cons rfl (okTrimL_cons rfl (okTrimL_cons rfl (okTrimL_cons rfl (okTrimL_cons rfl (okTrimL_cons rfl (okTrimL_cons rfl (okTrimL_cons rfl (okTrimL_cons rfl (okTrimL_cons rfl (okTrimL_cons rfl (okTrimL_cons rfl (okTrimL_cons rfl (okTrimL_cons rfl (okTrimL_cons rfl (okTrimL_cons rfl (okTrimL_cons rfl (okTrimL_cons rfl (okTrimL_cons rfl (okTrimL_cons rfl (okTrimL_cons rfl (okTrimL_cons rfl (okTrimL_cons rfl (okTrimL_cons rfl (okTrimL_cons rfl (okTrimL_cons rfl (okTrimL_cons rfl (okTrimL_cons rfl rfl))))))))))))))))))))))))))))))))))))))))))))))))))))))))))))))))))))))))))))))))))))))))))))))))))))))))))))))))))))))) (by kernel_rfl)
          ·
           intro j5 h
           refine w_start (by dsimp only [setAll, topAll, List.foldl, List.set]) rfl ?_
           refine w_region (id := 40) ?_
           obtain ⟨g17, h⟩ := chk_e h
           refine w_op (a := .raw (.int .i64 (s4.2 + 1))) rfl rfl rfl (op_q (q_add rfl rfl rfl rfl g17.1 g17.2)) (by dsimp only [aput, List.set]) ?_
           refine w_op (a := .raw (.int .i64 (s4.2 + 1))) rfl rfl rfl rfl (by dsimp only [aput, List.set]) ?_
           refine loop_next (p := p4) (j5, (s4.2 + 1)) h ?_
           exact wm_of [true, true, true, true, false, true, true, true, true, true, true, true, true, true, true, true, false, false, false, true, true, true, true, true, true, true, true, true, true, true, true, true, true, true, true, true, true, true, true, true, true, true, true, true, true, true, true, true, true, true, true, true, true, true, true, true, true, true, true, true, true, true, true, true, true, true, true, true, true, true, true, true, true, true, true, true, true, true, true, true, false, false, false, false, false, false, false, false, false, false, false, false, false, false, false, false, false, false, false, false, false, false, false, false, false, false, false, false, false, false, false, false, false, false, true, true, true, true] (by kernel_rfl) (by kernel_rfl)
         ·
          refine w_condF hc8 rfl ?_
          refine loop_exit h (fun h => ?_)
          refine cut_done (o := or4) (s4.1) h ?_
          exact wm_of [true, true, true, true, false, true, true, true, true, true, true, true, true, false, true, true, false, false, false, true, true, true, true, true, true, true, true, true, true, true, true, true, true, true, true, true, true, true, true, true, true, true, true, true, true, true, true, true, true, true, true, true, true, true, true, true, true, true, true, true, true, true, true, true, true, true, true, true, true, true, true, true, true, true, true, true, true, true, true, false, false, false, false, false, false, false, false, false, false, false, false, false, false, false, false, false, false, false, false, false, false, false, false, false, false, false, false, false, false, false, false, false, false, false, true, true, true, true] (by kernel_rfl) (by kernel_rfl)
       ·
        intro j4 h
        refine w_start (by dsimp only [setAll, topAll, List.foldl, List.set]) rfl ?_
        refine w_seq (w_region ?_)
        refine w_op (a := .raw (.int .i64 j4)) rfl rfl rfl rfl (by dsimp only [aput, List.set]) ?_
        refine w_op (a := .list (List.length (x6 : List BS)) (Enc.cellsL (x6 : List BS)) .none) rfl rfl rfl rfl (by dsimp only [aput, List.set]) ?_
        refine w_op (a := .raw (.int .i64 (List.length x6 : Int))) rfl rfl rfl rfl (by dsimp only [aput, List.set]) ?_
        refine w_op (a := .raw (.bool (j4 == (List.length x6 : Int)))) rfl rfl rfl rfl (by dsimp only [aput, List.set]) ?_
        refine w_op (a := .raw (.bool (j4 == (List.length x6 : Int)))) rfl rfl rfl rfl (by dsimp only [aput, List.set]) ?_
        exact end_pureF (fun (r : Bool) => (.raw (.bool r) : AV)) h (a := .raw (.bool (j4 == (List.length x6 : Int)))) rfl rfl rfl
end Go.Ab
