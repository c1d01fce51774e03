/-
  SetsParts: the walk.
-/
import Derived.Test.YtjmhbbbpjbgmjaaZsePu
set_option linter.unusedSimpArgs false
set_option linter.unusedVariables false
namespace Go.Ab
open Go Go.RowKit Go.Fwd Go.Proofs Go.Proofs.Ytjmhbbbpjbgmjaa
def F_setsparts (fuel : Nat) (l : (List BS)) : Option Bool :=
  (chk (0 ≤ 0 ∧ 0 ≤ (min (List.length l : Int) 8) ∧ (min (List.length l : Int) 8) ≤ (List.length l : Int)) (chk ((sub l 0 (min (List.length l : Int) 8)).length ≤ 12) (letE (partsS (sub l 0 (min (List.length l : Int) 8))) (fun x1 => (cutE (τ := BS) (loopE (β := Int × Int × BS) (fun s1 => (bif (decide (s1.2.1 < (List.length x1 : Int))) then (cutE (τ := Int × BS) (chk (0 ≤ s1.2.1 ∧ s1.2.1 < (List.length x1 : Int)) (letE (ix x1 s1.2.1) (fun x2 => (letE (leastS x2, someS x2) (fun x3 => (bif (!x3.2) then (some (Sum.inr (Sum.inr (Sum.inr false)))) else (chk (-9223372036854775808 ≤ x3.1 ∧ x3.1 < 9223372036854775808) (bif (decide (x3.1 ≤ s1.1)) then (some (Sum.inr (Sum.inr (Sum.inr false)))) else (letE (!(s1.2.2 &&& x2 == 0#256)) (fun x4 => (bif x4 then (some (Sum.inr (Sum.inr (Sum.inr false)))) else (chk (-9223372036854775808 ≤ x3.1 ∧ x3.1 < 9223372036854775808) (letE (s1.2.2 ||| x2) (fun x5 => (cutE (τ := Unit) (loopE (β := Int) (fun s2 => (bif (decide (s2 < (List.length (sub l 0 (min (List.length l : Int) 8)) : Int))) then (cutE (τ := Unit) (chk (0 ≤ s2 ∧ s2 < (List.length (sub l 0 (min (List.length l : Int) 8)) : Int)) (letE (ix (sub l 0 (min (List.length l : Int) 8)) s2) (fun x6 => (letE (!(x6 &&& x2 == 0#256)) (fun x7 => (bif x7 then (letE (x2 &&& ~~~x6 == 0#256) (fun x8 => (bif (!x8) then (some (Sum.inr (Sum.inr (Sum.inr (Sum.inr (Sum.inr (Sum.inr false))))))) else (some (Sum.inl ()))))) else (some (Sum.inl ())))))))) (fun j4 => (chk (-9223372036854775808 ≤ (s2 + 1) ∧ (s2 + 1) < 9223372036854775808) (some (Sum.inl ((s2 + 1))))))) else (some (Sum.inr (Sum.inl ()))))) fuel (0)) (fun j3 => (chk (0 ≤ 0 ∧ 0 ≤ s1.2.1 ∧ s1.2.1 ≤ (List.length x1 : Int)) (loopE (β := Int) (fun s3 => (bif (decide (s3 < (List.length (sub x1 0 s1.2.1) : Int))) then (cutE (τ := Unit) (chk (0 ≤ s3 ∧ s3 < (List.length (sub x1 0 s1.2.1) : Int)) (letE (ix (sub x1 0 s1.2.1) s3) (fun x9 => (cutE (τ := Bool) (loopE (β := Bool × Int) (fun s4 => (bif (decide (s4.2 < (List.length (sub l 0 (min (List.length l : Int) 8)) : Int))) then (cutE (τ := Bool) (chk (0 ≤ s4.2 ∧ s4.2 < (List.length (sub l 0 (min (List.length l : Int) 8)) : Int)) (letE (ix (sub l 0 (min (List.length l : Int) 8)) s4.2) (fun x10 => (bif s4.1 then (some (Sum.inl (true))) else (letE (x2 &&& ~~~x10 == 0#256) (fun x11 => (letE (x9 &&& ~~~x10 == 0#256) (fun x12 => (some (Sum.inl ((!(x11 == x12))))))))))))) (fun j7 => (chk (-9223372036854775808 ≤ (s4.2 + 1) ∧ (s4.2 + 1) < 9223372036854775808) (some (Sum.inl (j7, (s4.2 + 1))))))) else (some (Sum.inr (Sum.inl (s4.1)))))) fuel (false, 0)) (fun j6 => (bif (!j6) then (some (Sum.inr (Sum.inr (Sum.inr (Sum.inr (Sum.inr false)))))) else (some (Sum.inl ())))))))) (fun j5 => (chk (-9223372036854775808 ≤ (s3 + 1) ∧ (s3 + 1) < 9223372036854775808) (some (Sum.inl ((s3 + 1))))))) else (some (Sum.inr (Sum.inl (x3.1, x5)))))) fuel (0))))))))))))))))))) (fun j2 => (chk (-9223372036854775808 ≤ (s1.2.1 + 1) ∧ (s1.2.1 + 1) < 9223372036854775808) (some (Sum.inl (j2.1, (s1.2.1 + 1), j2.2)))))) else (some (Sum.inr (Sum.inl (s1.2.2)))))) fuel ((-1), 0, 0#256)) (fun j1 => (letE (BitVec.allOnes 256) (fun x13 => (some (decide (j1 = x13)))))))))))
theorem ent6 : Ent Try.prog 6 := enters_of Try.func6 (by kernel_rfl) rfl
set_option maxRecDepth 100000 in
set_option maxHeartbeats 4000000 in
theorem setsparts_sh (fuel : Nat) (l : (List BS)) (r : Bool) (h : F_setsparts fuel l = some r) : Pure (ITP Try.prog) Try.prog 6 [.list (List.length (l : List BS)) (Enc.cellsL (l : List BS)) .none] (.raw (.bool r)) := by
  obtain ⟨d, hd⟩ : ∃ d, Try.f6.body = some d := ⟨_, rfl⟩
  refine pure_of mix Try.func6 hd ent6 ?_
  cases hd
  unfold F_setsparts at h
  refine w_start (by dsimp only [abeginS, Try.f6, List.length_cons, List.length_nil, Nat.zero_add, Nat.reduceAdd, Nat.reduceSub, List.replicate, List.cons_append, List.nil_append]) (by dsimp only [St.empty]) ?_
  refine w_seq (w_region ?_)
  refine w_op (a := .raw (.bool false)) rfl rfl rfl rfl (by dsimp only [aput, List.set]) ?_
  refine w_seq ?_
  refine w_seq (w_region ?_)
  refine w_callc (args' := []) (r := .raw (.bool true)) k_awake rfl rfl rfl rfl (by dsimp only [aput, List.set]) ?_
  refine w_op (a := .raw (.bool false)) rfl rfl rfl rfl (by dsimp only [aput, List.set]) ?_
  refine w_false rfl ?_
  refine w_seq (w_region ?_)
  refine w_op (a := .list (List.length (l : List BS)) (Enc.cellsL (l : List BS)) .none) rfl rfl rfl rfl (by dsimp only [aput, List.set]) ?_
  refine w_op (a := .list (List.length (l : List BS)) (Enc.cellsL (l : List BS)) .none) rfl rfl rfl rfl (by dsimp only [aput, List.set]) ?_
  refine w_op (a := .raw (.int .i64 (List.length l : Int))) rfl rfl rfl rfl (by dsimp only [aput, List.set]) ?_
  refine w_op (a := .raw (.int .i64 (min (List.length l : Int) 8))) rfl rfl rfl (op_q (q_min rfl rfl rfl rfl rfl)) (by dsimp only [aput, List.set]) ?_
  obtain ⟨g1, h⟩ := chk_e h
  refine w_qs (.list (List.length ((sub l 0 (min (List.length l : Int) 8)) : List BS)) (Enc.cellsL ((sub l 0 (min (List.length l : Int) 8)) : List BS)) .none) rfl rfl rfl (q_sub_H (α := BS) (l := l) g1 rfl rfl rfl rfl rfl) (strip_sub _ _ _) (by dsimp only [aput, List.set]) ?_
  refine w_op (a := .list (List.length ((sub l 0 (min (List.length l : Int) 8)) : List BS)) (Enc.cellsL ((sub l 0 (min (List.length l : Int) 8)) : List BS)) .none) rfl rfl rfl rfl (by dsimp only [aput, List.set]) ?_
  refine w_seq (w_region ?_)
  refine w_op (a := .list (List.length ((sub l 0 (min (List.length l : Int) 8)) : List BS)) (Enc.cellsL ((sub l 0 (min (List.length l : Int) 8)) : List BS)) .none) rfl rfl rfl rfl (by dsimp only [aput, List.set]) ?_
  obtain ⟨g2, h⟩ := chk_e h
  obtain ⟨x1, hx1, h⟩ := letE_e h
  refine w_callc (args' := [.list (List.length ((sub l 0 (min (List.length l : Int) 8)) : List BS)) (Enc.cellsL ((sub l 0 (min (List.length l : Int) 8)) : List BS)) .none]) (r := .list (List.length (x1 : List BS)) (Enc.cellsL (x1 : List BS)) .none) (by rw [← hx1]; exact (k_parts (sub l 0 (min (List.length l : Int) 8)) g2)) rfl rfl (stripL_cons (strip_l (Enc.cloL _)) rfl) (okTrimL_cons (okTrim_l (Enc.cloL _)) rfl) (by dsimp only [aput, List.set]) ?_
  refine w_op (a := .list (List.length (x1 : List BS)) (Enc.cellsL (x1 : List BS)) .none) rfl rfl rfl rfl (by dsimp only [aput, List.set]) ?_
  refine w_seq (w_region ?_)
  refine w_opm (a := .ptr 0 0) (σ'' := ⟨[(24, (Enc.cells (0#256 : BS)))], [], [], 0, false⟩) rfl rfl rfl rfl (by dsimp only [aput, List.set]) rfl ?_
  refine w_seq (w_region ?_)
  refine w_op (a := .raw (.int .i64 (-1))) rfl rfl rfl rfl (by dsimp only [aput, List.set]) ?_
  refine w_cutF h [0, 1, 2, 3, 5, 6, 7, 8, 9, 10, 11, 12, 13, 14, 15, 16, 17, 18, 19, 20, 21, 22, 23, 24, 25, 26, 27, 28, 29, 30, 31, 32, 33, 34, 35, 36, 37, 38, 39, 40, 41, 42, 43, 44, 45, 46, 47, 48, 49, 50, 51, 52, 53, 54, 55, 56, 57, 58, 59, 60, 61, 62, 63, 64, 65, 66, 67, 68, 69, 70, 71, 72, 73, 74, 75, 76, 77, 78, 79, 80, 81, 82, 83, 84, 85, 86, 87, 88, 89, 90, 91, 92, 93, 94, 95, 96, 97, 98, 99, 100, 101, 102, 103] (fun j1 => []) (fun j1 => ⟨[(24, (Enc.cells (j1 : BS)))], [], [], 0, false⟩) ?_ ?_
  ·
    intro or1 h hr1
    refine w_seq (w_region ?_)
    refine w_op (a := .list (List.length (x1 : List BS)) (Enc.cellsL (x1 : List BS)) .none) rfl rfl rfl rfl (by dsimp only [aput, List.set]) ?_
    refine w_op (a := .raw (.int .i64 (List.length x1 : Int))) rfl rfl rfl rfl (by dsimp only [aput, List.set]) ?_
    refine w_op (a := .raw (.int .i64 0)) rfl rfl rfl rfl (by dsimp only [aput, List.set]) ?_
    refine w_block ?_
    refine w_loopF h [1, 2, 5, 6, 7, 8, 9, 10, 11, 12, 13, 14, 15, 16, 17, 18, 19, 20, 21, 22, 23, 24, 25, 28, 29, 30, 31, 32, 33, 34, 35, 36, 37, 38, 39, 40, 41, 42, 43, 44, 45, 46, 47, 48, 49, 50, 51, 52, 53, 54, 55, 56, 57, 58, 59, 60, 61, 62, 63, 64, 65, 66, 67, 68, 69, 70, 71, 72, 73, 74, 75, 76, 77, 78, 79, 80, 81, 82, 83, 84, 85, 86, 87, 88, 89, 90, 91, 92, 93, 94, 95, 96, 97, 98, 99, 100, 101, 102, 103] (fun s1 => [(5, .raw (.int .i64 s1.1)), (28, .raw (.int .i64 s1.2.1))]) (fun s1 => ⟨[(24, (Enc.cells (s1.2.2 : BS)))], [], [], 0, false⟩) ?_ ?_
    · exact wm_of [true, false, false, true, true, true, false, false, false, false, false, false, false, false, false, false, false, false, false, false, false, false, false, false, false, false, true, true, true, false, false, false, false, false, false, false, false, false, false, false, false, false, false, false, false, false, false, false, false, false, false, false, false, false, false, false, false, false, false, false, false, false, false, false, false, false, false, false, false, false, false, false, false, false, false, false, false, false, false, false, false, false, false, false, false, false, false, false, false, false, false, false, false, false, false, false, false, false, false, false, false, false, false, false] (by kernel_rfl) (by kernel_rfl)
    · intro s1 p1 h
      refine w_start (by dsimp only [setAll, topAll, List.foldl, List.set]) rfl ?_
      refine w_seq (w_region ?_)
      refine w_op (a := .raw (.bool (decide (s1.2.1 < (List.length x1 : Int))))) rfl rfl rfl rfl (by dsimp only [aput, List.set]) ?_
      refine w_seq ?_
      refine bif_e h (fun hc1 h => ?_) (fun hc1 h => ?_)
      ·
        refine w_condT hc1 rfl ?_
        refine w_cutF h [2, 5, 6, 7, 8, 9, 11, 13, 14, 16, 29, 30, 31, 32, 33, 34, 35, 36, 37, 38, 39, 40, 41, 42, 43, 44, 45, 46, 47, 48, 49, 50, 51, 52, 53, 54, 55, 56, 57, 58, 59, 60, 61, 62, 63, 64, 65, 66, 67, 68, 69, 70, 71, 72, 73, 74, 75, 76, 77, 78, 79, 80, 81, 82, 83, 84, 85, 86, 87, 88, 89, 90, 91, 92, 93, 94, 95, 96, 97, 98, 99] (fun j2 => [(5, .raw (.int .i64 j2.1))]) (fun j2 => ⟨[(24, (Enc.cells (j2.2 : BS)))], [], [], 0, false⟩) ?_ ?_
        ·
          intro or2 h hr2
          refine w_block ?_
          refine w_seq (w_region ?_)
          refine w_op (a := .raw (.int .i64 s1.2.1)) rfl rfl rfl rfl (by dsimp only [aput, List.set]) ?_
          obtain ⟨g3, h⟩ := chk_e h
          obtain ⟨x2, hx2, h⟩ := letE_e h
          refine w_op (a := .iptr (Enc.cells x2 ++ Enc.cellsL (List.drop (Int.toNat s1.2.1 + 1) x1))) rfl rfl rfl (op_q (by rw [← hx2]; exact (q_idx (α := BS) (l := x1) g3 rfl rfl rfl rfl rfl))) (by dsimp only [aput, List.set]) ?_
          refine w_op (a := .agg (Enc.cells (x2 : BS))) rfl rfl rfl rfl (by dsimp only [aput, List.set]) ?_
          refine w_opm (a := .ptr 1 0) (σ'' := ⟨[(24, (Enc.cells (s1.2.2 : BS))), (24, (Enc.cells (0#256 : BS)))], [], [], 0, false⟩) rfl rfl rfl rfl (by dsimp only [aput, List.set]) rfl ?_
          refine w_op (a := .raw (.int .i64 s1.2.1)) rfl rfl rfl rfl (by dsimp only [aput, List.set]) ?_
          refine w_opm (σ'' := ⟨[(24, (Enc.cells (s1.2.2 : BS))), (24, (Enc.cells (x2 : BS)))], [], [], 0, false⟩) rfl rfl rfl (op_storeW (n := 4) rfl rfl rfl rfl rfl rfl rfl rfl (by decide)) (by dsimp only [aput, List.set]) rfl ?_
          refine w_seq (w_region ?_)
          refine w_op (a := .agg (Enc.cells (x2 : BS))) rfl rfl rfl rfl (by dsimp only [aput, List.set]) ?_
          obtain ⟨x3, hx3, h⟩ := letE_e h
          refine w_callc (args' := [.agg (Enc.cells (x2 : BS))]) (r := .tup [.raw (.int .u8 x3.1), .raw (.bool x3.2)]) (by rw [← hx3]; exact (k_first x2)) rfl rfl (stripL_cons (strip_c (clo_agg (Enc.clo _))) rfl) (okTrimL_cons (okTrim_clo _ _ (clo_agg (Enc.clo _))) rfl) (by dsimp only [aput, List.set]) ?_
          refine w_op (a := .tup [.raw (.int .u8 x3.1), .raw (.bool x3.2)]) rfl rfl rfl rfl (by dsimp only [aput, List.set]) ?_
          refine w_op (a := .raw (.int .u8 x3.1)) rfl rfl rfl rfl (by dsimp only [aput, List.set]) ?_
          refine w_op (a := .raw (.bool x3.2)) rfl rfl rfl rfl (by dsimp only [aput, List.set]) ?_
          refine w_op (a := .raw (.int .u8 x3.1)) rfl rfl rfl rfl (by dsimp only [aput, List.set]) ?_
          refine w_op (a := .raw (.bool x3.2)) rfl rfl rfl rfl (by dsimp only [aput, List.set]) ?_
          refine w_seq ?_
          refine w_seq (w_region ?_)
          refine w_op (a := .raw (.bool x3.2)) rfl rfl rfl rfl (by dsimp only [aput, List.set]) ?_
          refine w_op (a := .raw (.bool (!x3.2))) rfl rfl rfl rfl (by dsimp only [aput, List.set]) ?_
          refine bif_e h (fun hc2 h => ?_) (fun hc2 h => ?_)
          ·
            refine w_op (a := .raw (.bool true)) rfl rfl rfl (op_q (q_bool rfl hc2)) (by dsimp only [aput, List.set]) ?_
            refine w_pass rfl rfl (by decide) (by dsimp only [aput, List.set]) ?_
            refine w_pass rfl rfl (by decide) (by dsimp only [aput, List.set]) ?_
            refine w_pass rfl rfl (by decide) (by dsimp only [aput, List.set]) ?_
            refine w_pass rfl rfl (by decide) (by dsimp only [aput, List.set]) ?_
            refine w_op (a := .raw (.bool true)) rfl rfl rfl rfl (by dsimp only [aput, List.set]) ?_
            refine w_op (a := .raw (.bool true)) rfl rfl rfl rfl (by dsimp only [aput, List.set]) ?_
            refine w_pass rfl rfl (by decide) (by dsimp only [aput, List.set]) ?_
            refine w_pass rfl rfl (by decide) (by dsimp only [aput, List.set]) ?_
            refine w_pass rfl rfl (by decide) (by dsimp only [aput, List.set]) ?_
            refine w_op (a := .raw (.bool true)) rfl rfl rfl rfl (by dsimp only [aput, List.set]) ?_
            refine w_true rfl ?_
            refine w_seq (w_region ?_)
            refine w_op (a := .raw (.bool false)) rfl rfl rfl rfl (by dsimp only [aput, List.set]) ?_
            replace h := cut_inr h hr2
            refine loop_exit h (fun h => ?_)
            replace h := cut_inr h hr1
            exact end_pureF (fun (r : Bool) => (.raw (.bool r) : AV)) h (a := .raw (.bool false)) rfl rfl rfl
          ·
            refine w_op (a := .raw (.bool false)) rfl rfl rfl (op_q (q_bool rfl hc2)) (by dsimp only [aput, List.set]) ?_
            refine w_met rfl rfl ?_
            refine w_op (a := .raw (.int .u8 x3.1)) rfl rfl rfl rfl (by dsimp only [aput, List.set]) ?_
            refine w_met rfl rfl ?_
            obtain ⟨g4, h⟩ := chk_e h
            refine w_op (a := .raw (.int .i64 x3.1)) rfl rfl rfl (op_q (q_conv64 g4 rfl rfl rfl)) (by dsimp only [aput, List.set]) ?_
            refine w_met rfl rfl ?_
            refine w_op (a := .raw (.int .i64 s1.1)) rfl rfl rfl rfl (by dsimp only [aput, List.set]) ?_
            refine w_met rfl rfl ?_
            refine w_op (a := .raw (.bool (decide (x3.1 ≤ s1.1)))) rfl rfl rfl rfl (by dsimp only [aput, List.set]) ?_
            refine w_op (a := .raw (.bool (decide (x3.1 ≤ s1.1)))) rfl rfl rfl rfl (by dsimp only [aput, List.set]) ?_
            refine bif_e h (fun hc3 h => ?_) (fun hc3 h => ?_)
            ·
              refine w_op (a := .raw (.bool true)) rfl rfl rfl (op_q (q_bool rfl hc3)) (by dsimp only [aput, List.set]) ?_
              refine w_pass rfl rfl (by decide) (by dsimp only [aput, List.set]) ?_
              refine w_pass rfl rfl (by decide) (by dsimp only [aput, List.set]) ?_
              refine w_pass rfl rfl (by decide) (by dsimp only [aput, List.set]) ?_
              refine w_op (a := .raw (.bool true)) rfl rfl rfl rfl (by dsimp only [aput, List.set]) ?_
              refine w_true rfl ?_
              refine w_seq (w_region ?_)
              refine w_op (a := .raw (.bool false)) rfl rfl rfl rfl (by dsimp only [aput, List.set]) ?_
              replace h := cut_inr h hr2
              refine loop_exit h (fun h => ?_)
              replace h := cut_inr h hr1
              exact end_pureF (fun (r : Bool) => (.raw (.bool r) : AV)) h (a := .raw (.bool false)) rfl rfl rfl
            ·
              refine w_op (a := .raw (.bool false)) rfl rfl rfl (op_q (q_bool rfl hc3)) (by dsimp only [aput, List.set]) ?_
              refine w_met rfl rfl ?_
              refine w_op (a := .agg (Enc.cells (s1.2.2 : BS))) rfl rfl rfl rfl (by dsimp only [aput, List.set]) ?_
              refine w_met rfl rfl ?_
              refine w_op (a := .agg (Enc.cells (x2 : BS))) rfl rfl rfl rfl (by dsimp only [aput, List.set]) ?_
              refine w_met rfl rfl ?_
              obtain ⟨x4, hx4, h⟩ := letE_e h
              refine w_callc (args' := [.agg (Enc.cells (s1.2.2 : BS)), .agg (Enc.cells (x2 : BS))]) (r := .raw (.bool x4)) (by rw [← hx4]; exact (k_meets s1.2.2 x2)) rfl rfl (stripL_cons (strip_c (clo_agg (Enc.clo _))) (stripL_cons (strip_c (clo_agg (Enc.clo _))) rfl)) (okTrimL_cons (okTrim_clo _ _ (clo_agg (Enc.clo _))) (okTrimL_cons (okTrim_clo _ _ (clo_agg (Enc.clo _))) rfl)) (by dsimp only [aput, List.set]) ?_
              refine w_op (a := .raw (.bool x4)) rfl rfl rfl rfl (by dsimp only [aput, List.set]) ?_
              refine bif_e h (fun hc4 h => ?_) (fun hc4 h => ?_)
              ·
                refine w_condT hc4 rfl ?_
                refine w_seq (w_region ?_)
                refine w_op (a := .raw (.bool false)) rfl rfl rfl rfl (by dsimp only [aput, List.set]) ?_
                replace h := cut_inr h hr2
                refine loop_exit h (fun h => ?_)
                replace h := cut_inr h hr1
                exact end_pureF (fun (r : Bool) => (.raw (.bool r) : AV)) h (a := .raw (.bool false)) rfl rfl rfl
              ·
                refine w_condF hc4 rfl ?_
                refine w_seq (w_region ?_)
                refine w_op (a := .raw (.int .u8 x3.1)) rfl rfl rfl rfl (by dsimp only [aput, List.set]) ?_
                obtain ⟨g5, h⟩ := chk_e h
                refine w_op (a := .raw (.int .i64 x3.1)) rfl rfl rfl (op_q (q_conv64 g5 rfl rfl rfl)) (by dsimp only [aput, List.set]) ?_
                refine w_op (a := .raw (.int .i64 x3.1)) rfl rfl rfl rfl (by dsimp only [aput, List.set]) ?_
                refine w_seq (w_region ?_)
                refine w_op (a := .agg (Enc.cells (s1.2.2 : BS))) rfl rfl rfl rfl (by dsimp only [aput, List.set]) ?_
                refine w_op (a := .agg (Enc.cells (x2 : BS))) rfl rfl rfl rfl (by dsimp only [aput, List.set]) ?_
                obtain ⟨x5, hx5, h⟩ := letE_e h
                refine w_callc (args' := [.agg (Enc.cells (s1.2.2 : BS)), .agg (Enc.cells (x2 : BS))]) (r := .agg (Enc.cells (x5 : BS))) (by rw [← hx5]; exact (k_or s1.2.2 x2)) rfl rfl (stripL_cons (strip_c (clo_agg (Enc.clo _))) (stripL_cons (strip_c (clo_agg (Enc.clo _))) rfl)) (okTrimL_cons (okTrim_clo _ _ (clo_agg (Enc.clo _))) (okTrimL_cons (okTrim_clo _ _ (clo_agg (Enc.clo _))) rfl)) (by dsimp only [aput, List.set]) ?_
                refine w_opm (σ'' := ⟨[(24, (Enc.cells (x5 : BS))), (24, (Enc.cells (x2 : BS)))], [], [], 0, false⟩) rfl rfl rfl (op_storeW (n := 4) rfl rfl rfl rfl rfl rfl rfl rfl (by decide)) (by dsimp only [aput, List.set]) rfl ?_
                refine w_cutF h [2, 8, 9, 11, 29, 30, 31, 32, 33, 34, 35, 36, 37, 38, 39, 40, 41, 42, 43, 44, 45, 46, 47, 48, 49, 50, 51, 52, 53, 54, 55, 56, 57, 58, 59, 60, 61, 62, 63, 64, 65, 66, 67, 68, 69, 70, 71] (fun j3 => []) (fun j3 => ⟨[(24, (Enc.cells (x5 : BS))), (24, (Enc.cells (x2 : BS)))], [], [], 0, false⟩) ?_ ?_
                ·
                  intro or3 h hr3
                  refine w_seq (w_region ?_)
                  refine w_op (a := .list (List.length ((sub l 0 (min (List.length l : Int) 8)) : List BS)) (Enc.cellsL ((sub l 0 (min (List.length l : Int) 8)) : List BS)) .none) rfl rfl rfl rfl (by dsimp only [aput, List.set]) ?_
                  refine w_op (a := .raw (.int .i64 (List.length (sub l 0 (min (List.length l : Int) 8)) : Int))) rfl rfl rfl rfl (by dsimp only [aput, List.set]) ?_
                  refine w_op (a := .raw (.int .i64 0)) rfl rfl rfl rfl (by dsimp only [aput, List.set]) ?_
                  refine w_block ?_
                  refine w_loopF h [2, 8, 9, 11, 29, 30, 31, 32, 33, 34, 35, 36, 37, 38, 39, 40, 41, 42, 43, 44, 45, 46, 47, 48, 49, 50, 51, 52, 53, 54, 55, 58, 59, 60, 61, 62, 63, 64, 65, 66, 67, 68, 69, 70, 71] (fun s2 => [(58, .raw (.int .i64 s2))]) (fun s2 => ⟨[(24, (Enc.cells (x5 : BS))), (24, (Enc.cells (x2 : BS)))], [], [], 0, false⟩) ?_ ?_
                  · exact wm_of [true, true, false, true, true, true, true, true, false, false, true, false, true, true, true, true, true, true, true, true, true, true, true, true, true, true, true, true, true, false, false, false, false, false, false, false, false, false, false, false, false, false, false, false, false, false, false, false, false, false, false, false, false, false, false, false, true, true, true, false, false, false, false, false, false, false, false, false, false, false, false, false, true, true, true, true, true, true, true, true, true, true, true, true, true, true, true, true, true, true, true, true, true, true, true, true, true, true, true, true, true, true, true, true] (by kernel_rfl) (by kernel_rfl)
                  · intro s2 p2 h
                    refine w_start (by dsimp only [setAll, topAll, List.foldl, List.set]) rfl ?_
                    refine w_seq (w_region ?_)
                    refine w_op (a := .raw (.bool (decide (s2 < (List.length (sub l 0 (min (List.length l : Int) 8)) : Int))))) rfl rfl rfl rfl (by dsimp only [aput, List.set]) ?_
                    refine w_seq ?_
                    refine bif_e h (fun hc5 h => ?_) (fun hc5 h => ?_)
                    ·
                      refine w_condT hc5 rfl ?_
                      refine w_cutF h [2, 11, 59, 60, 61, 62, 63, 64, 65, 66, 67, 68, 69, 70] (fun j4 => []) (fun j4 => ⟨[(24, (Enc.cells (x5 : BS))), (24, (Enc.cells (x2 : BS)))], [], [], 0, false⟩) ?_ ?_
                      ·
                        intro or4 h hr4
                        refine w_block ?_
                        refine w_seq (w_region ?_)
                        obtain ⟨g6, h⟩ := chk_e h
                        obtain ⟨x6, hx6, h⟩ := letE_e h
                        refine w_op (a := .iptr (Enc.cells x6 ++ Enc.cellsL (List.drop (Int.toNat s2 + 1) (sub l 0 (min (List.length l : Int) 8))))) rfl rfl rfl (op_q (by rw [← hx6]; exact (q_idx (α := BS) (l := (sub l 0 (min (List.length l : Int) 8))) g6 rfl rfl rfl rfl rfl))) (by dsimp only [aput, List.set]) ?_
                        refine w_op (a := .agg (Enc.cells (x6 : BS))) rfl rfl rfl rfl (by dsimp only [aput, List.set]) ?_
                        refine w_opm (a := .ptr 2 0) (σ'' := ⟨[(24, (Enc.cells (x5 : BS))), (24, (Enc.cells (x2 : BS))), (24, (Enc.cells (0#256 : BS)))], [], [], 0, false⟩) rfl rfl rfl rfl (by dsimp only [aput, List.set]) rfl ?_
                        refine w_opm (σ'' := ⟨[(24, (Enc.cells (x5 : BS))), (24, (Enc.cells (x2 : BS))), (24, (Enc.cells (x6 : BS)))], [], [], 0, false⟩) rfl rfl rfl (op_storeW (n := 4) rfl rfl rfl rfl rfl rfl rfl rfl (by decide)) (by dsimp only [aput, List.set]) rfl ?_
                        refine w_seq (w_region ?_)
                        refine w_op (a := .agg (Enc.cells (x6 : BS))) rfl rfl rfl rfl (by dsimp only [aput, List.set]) ?_
                        refine w_op (a := .agg (Enc.cells (x2 : BS))) rfl rfl rfl rfl (by dsimp only [aput, List.set]) ?_
                        obtain ⟨x7, hx7, h⟩ := letE_e h
                        refine w_callc (args' := [.agg (Enc.cells (x6 : BS)), .agg (Enc.cells (x2 : BS))]) (r := .raw (.bool x7)) (by rw [← hx7]; exact (k_meets x6 x2)) rfl rfl (stripL_cons (strip_c (clo_agg (Enc.clo _))) (stripL_cons (strip_c (clo_agg (Enc.clo _))) rfl)) (okTrimL_cons (okTrim_clo _ _ (clo_agg (Enc.clo _))) (okTrimL_cons (okTrim_clo _ _ (clo_agg (Enc.clo _))) rfl)) (by dsimp only [aput, List.set]) ?_
                        refine bif_e h (fun hc6 h => ?_) (fun hc6 h => ?_)
                        ·
                          refine w_op (a := .raw (.bool true)) rfl rfl rfl (op_q (q_bool rfl hc6)) (by dsimp only [aput, List.set]) ?_
                          refine w_met rfl rfl ?_
                          refine w_op (a := .agg (Enc.cells (x2 : BS))) rfl rfl rfl rfl (by dsimp only [aput, List.set]) ?_
                          refine w_met rfl rfl ?_
                          refine w_op (a := .agg (Enc.cells (x6 : BS))) rfl rfl rfl rfl (by dsimp only [aput, List.set]) ?_
                          refine w_met rfl rfl ?_
                          obtain ⟨x8, hx8, h⟩ := letE_e h
                          refine w_callc (args' := [.agg (Enc.cells (x2 : BS)), .agg (Enc.cells (x6 : BS))]) (r := .raw (.bool x8)) (by rw [← hx8]; exact (k_within x2 x6)) rfl rfl (stripL_cons (strip_c (clo_agg (Enc.clo _))) (stripL_cons (strip_c (clo_agg (Enc.clo _))) rfl)) (okTrimL_cons (okTrim_clo _ _ (clo_agg (Enc.clo _))) (okTrimL_cons (okTrim_clo _ _ (clo_agg (Enc.clo _))) rfl)) (by dsimp only [aput, List.set]) ?_
                          refine w_met rfl rfl ?_
                          refine w_op (a := .raw (.bool (!x8))) rfl rfl rfl rfl (by dsimp only [aput, List.set]) ?_
                          refine w_op (a := .raw (.bool (!x8))) rfl rfl rfl rfl (by dsimp only [aput, List.set]) ?_
                          refine bif_e h (fun hc7 h => ?_) (fun hc7 h => ?_)
                          ·
                            refine w_condT hc7 rfl ?_
                            refine w_seq (w_region ?_)
                            refine w_op (a := .raw (.bool false)) rfl rfl rfl rfl (by dsimp only [aput, List.set]) ?_
                            replace h := cut_inr h hr4
                            refine loop_exit h (fun h => ?_)
                            replace h := cut_inr h hr3
                            replace h := cut_inr h hr2
                            refine loop_exit h (fun h => ?_)
                            replace h := cut_inr h hr1
                            exact end_pureF (fun (r : Bool) => (.raw (.bool r) : AV)) h (a := .raw (.bool false)) rfl rfl rfl
                          ·
                            refine w_condF hc7 rfl ?_
                            refine cut_done (o := or4) () h ?_
                            exact wm_trim [true, true, false, true, true, true, true, true, true, true, true, false, true, true, true, true, true, true, true, true, true, true, true, true, true, true, true, true, true, true, true, true, true, true, true, true, true, true, true, true, true, true, true, true, true, true, true, true, true, true, true, true, true, true, true, true, true, true, true, false, false, false, false, false, false, false, false, false, false, false, false, true, true, true, true, true, true, true, true, true, true, true, true, true, true, true, true, true, true, true, true, true, true, true, true, true, true, true, true, true, true, true, true, true] 2 (by kernel_rfl) (Nat.le_of_ble_eq_true rfl) (okSt_of (okB_cons (okTrimL_clo _ _ (Enc.clo _)) (okB_cons (okTrimL_clo _ _ (Enc.clo _)) rfl))) (by dsimp only [setAll, topAll, List.foldl, List.set]; exact (okTrimL_cons (okTrim_l (Enc.cloL _)) (okTrimL_cons rfl (okTrimL_cons rfl (okTrimL_cons (okTrim_l (Enc.cloL _)) (okTrimL_cons (by decide) (okTrimL_cons rfl (okTrimL_cons rfl (okTrimL_cons (by decide) (okTrimL_cons rfl (okTrimL_cons rfl (okTrimL_cons rfl (okTrimL_cons rfl (okTrimL_cons rfl (okTrimL_cons rfl (okTrimL_cons rfl (okTrimL_cons rfl (okTrimL_cons rfl (okTrimL_cons rfl (okTrimL_cons rfl (okTrimL_cons rfl (okTrimL_cons rfl (okTrimL_cons rfl (okTrimL_cons rfl (okTrimL_cons rfl (okTrimL_cons rfl (okTrimL_cons rfl (okTrimL_cons (okTrim_l (Enc.cloL _)) (okTrimL_cons rfl (okTrimL_cons rfl (okTrimL_cons rfl (okTrimL_cons rfl (okTrimL_cons rfl (okTrimL_cons rfl (okTrimL_cons rfl (okTrimL_cons rfl (okTrimL_cons rfl (okTrimL_cons rfl (okTrimL_cons rfl (okTrimL_cons rfl (okTrimL_cons rfl (okTrimL_cons rfl (okTrimL_cons rfl (okTrimL_cons rfl (okTrimL_cons rfl (okTrimL_cons rfl (okTrimL_cons rfl (okTrimL_cons rfl (okTrimL_cons rfl (okTrimL_cons rfl (okTrimL_cons rfl (okTrimL_cons rfl (okTrimL_cons rfl (okTrimL_cons rfl (okTrimL_cons rfl (okTrimL_cons rfl (okTrimL_cons rfl (okTrimL_cons (okTrim_l (Enc.cloL _)) (okTrimL_cons rfl (okTrimL_cons rfl (okTrimL_cons rfl (okTrimL_cons rfl (okTrimL_cons rfl (okTrimL_cons rfl (okTrimL_cons rfl (okTrimL_cons rfl (okTrimL_cons rfl (okTrimL_cons rfl (okTrimL_cons rfl (okTrimL_cons rfl (okTrimL_cons rfl (okTrimL_cons rfl (okTrimL_cons rfl (okTrimL_cons rfl (okTrimL_cons rfl (okTrimL_cons rfl (okTrimL_cons rfl (okTrimL_cons rfl (okTrimL_cons rfl (okTrimL_cons rfl (okTrimL_cons rfl (okTrimL_cons rfl (okTrimL_cons rfl (okTrimL_cons rfl (okTrimL_cons rfl (okTrimL_cons rfl (okTrimL_cons rfl (okTrimL_cons rfl (okTrimL_cons rfl (okTrimL_cons rfl (okTrimL_cons rfl (okTrimL_cons rfl (okTrimL_cons rfl (okTrimL_cons rfl (okTrimL_cons rfl (okTrimL_cons rfl (okTrimL_cons rfl (okTrimL_cons rfl (okTrimL_cons rfl (okTrimL_cons rfl (okTrimL_cons rfl (okTrimL_cons rfl (okTrimL_cons rfl (okTrimL_cons rfl (okTrimL_cons rfl rfl))))))))))))))))))))))))))))))))))))))))))))))))))))))))))))))))))))))))))))))))))))))))))))))))))))))))) (by kernel_rfl)
                        ·
                          refine w_op (a := .raw (.bool false)) rfl rfl rfl (op_q (q_bool rfl hc6)) (by dsimp only [aput, List.set]) ?_
                          refine w_pass rfl rfl (by decide) (by dsimp only [aput, List.set]) ?_
                          refine w_pass rfl rfl (by decide) (by dsimp only [aput, List.set]) ?_
                          refine w_pass rfl rfl (by decide) (by dsimp only [aput, List.set]) ?_
                          refine w_pass rfl rfl (by decide) (by dsimp only [aput, List.set]) ?_
                          refine w_op (a := .raw (.bool false)) rfl rfl rfl rfl (by dsimp only [aput, List.set]) ?_
                          refine w_false rfl ?_
                          refine cut_done (o := or4) () h ?_
                          exact wm_trim [true, true, false, true, true, true, true, true, true, true, true, false, true, true, true, true, true, true, true, true, true, true, true, true, true, true, true, true, true, true, true, true, true, true, true, true, true, true, true, true, true, true, true, true, true, true, true, true, true, true, true, true, true, true, true, true, true, true, true, false, false, false, false, false, false, false, false, false, false, false, false, true, true, true, true, true, true, true, true, true, true, true, true, true, true, true, true, true, true, true, true, true, true, true, true, true, true, true, true, true, true, true, true, true] 2 (by kernel_rfl) (Nat.le_of_ble_eq_true rfl) (okSt_of (okB_cons (okTrimL_clo _ _ (Enc.clo _)) (okB_cons (okTrimL_clo _ _ (Enc.clo _)) rfl))) (by dsimp only [setAll, topAll, List.foldl, List.set]; exact (okTrimL_cons (okTrim_l (Enc.cloL _)) (okTrimL_cons rfl (okTrimL_cons rfl (okTrimL_cons (okTrim_l (Enc.cloL _)) (okTrimL_cons (by decide) (okTrimL_cons rfl (okTrimL_cons rfl (okTrimL_cons (by decide) (okTrimL_cons rfl (okTrimL_cons rfl (okTrimL_cons rfl (okTrimL_cons rfl (okTrimL_cons rfl (okTrimL_cons rfl (okTrimL_cons rfl (okTrimL_cons rfl (okTrimL_cons rfl (okTrimL_cons rfl (okTrimL_cons rfl (okTrimL_cons rfl (okTrimL_cons rfl (okTrimL_cons rfl (okTrimL_cons rfl (okTrimL_cons rfl (okTrimL_cons rfl (okTrimL_cons rfl (okTrimL_cons (okTrim_l (Enc.cloL _)) (okTrimL_cons rfl (okTrimL_cons rfl (okTrimL_cons rfl (okTrimL_cons rfl (okTrimL_cons rfl (okTrimL_cons rfl (okTrimL_cons rfl (okTrimL_cons rfl (okTrimL_cons rfl (okTrimL_cons rfl (okTrimL_cons rfl (okTrimL_cons rfl (okTrimL_cons rfl (okTrimL_cons rfl (okTrimL_cons rfl (okTrimL_cons rfl (okTrimL_cons rfl (okTrimL_cons rfl (okTrimL_cons rfl (okTrimL_cons rfl (okTrimL_cons rfl (okTrimL_cons rfl (okTrimL_cons rfl (okTrimL_cons rfl (okTrimL_cons rfl (okTrimL_cons rfl (okTrimL_cons rfl (okTrimL_cons rfl (okTrimL_cons rfl (okTrimL_cons (okTrim_l (Enc.cloL _)) (okTrimL_cons rfl (okTrimL_cons rfl (okTrimL_cons rfl (okTrimL_cons rfl (okTrimL_cons rfl (okTrimL_cons rfl (okTrimL_cons rfl (okTrimL_cons rfl (okTrimL_cons rfl (okTrimL_cons rfl (okTrimL_cons rfl (okTrimL_cons rfl (okTrimL_cons rfl (okTrimL_cons rfl (okTrimL_cons rfl (okTrimL_cons rfl (okTrimL_cons rfl (okTrimL_cons rfl (okTrimL_cons rfl (okTrimL_cons rfl (okTrimL_cons rfl (okTrimL_cons rfl (okTrimL_cons rfl (okTrimL_cons rfl (okTrimL_cons rfl (okTrimL_cons rfl (okTrimL_cons rfl (okTrimL_cons rfl (okTrimL_cons rfl (okTrimL_cons rfl (okTrimL_cons rfl (okTrimL_cons rfl (okTrimL_cons rfl (okTrimL_cons rfl (okTrimL_cons rfl (okTrimL_cons rfl (okTrimL_cons rfl (okTrimL_cons rfl (okTrimL_cons rfl (okTrimL_cons rfl (okTrimL_cons rfl (okTrimL_cons rfl (okTrimL_cons rfl (okTrimL_cons rfl (okTrimL_cons rfl (okTrimL_cons rfl (okTrimL_cons rfl rfl))))))))))))))))))))))))))))))))))))))))))))))))))))))))))))))))))))))))))))))))))))))))))))))))))))))))) (by kernel_rfl)
                      ·
                        intro j4 h
                        refine w_start (by dsimp only [setAll, topAll, List.foldl, List.set]) rfl ?_
                        refine w_region (id := 20) ?_
                        obtain ⟨g7, h⟩ := chk_e h
                        refine w_op (a := .raw (.int .i64 (s2 + 1))) rfl rfl rfl (op_q (q_add rfl rfl rfl rfl g7.1 g7.2)) (by dsimp only [aput, List.set]) ?_
                        refine w_op (a := .raw (.int .i64 (s2 + 1))) rfl rfl rfl rfl (by dsimp only [aput, List.set]) ?_
                        refine loop_next (p := p2) ((s2 + 1)) h ?_
                        exact wm_of [true, true, false, true, true, true, true, true, false, false, true, false, true, true, true, true, true, true, true, true, true, true, true, true, true, true, true, true, true, false, false, false, false, false, false, false, false, false, false, false, false, false, false, false, false, false, false, false, false, false, false, false, false, false, false, false, true, true, true, false, false, false, false, false, false, false, false, false, false, false, false, false, true, true, true, true, true, true, true, true, true, true, true, true, true, true, true, true, true, true, true, true, true, true, true, true, true, true, true, true, true, true, true, true] (by kernel_rfl) (by kernel_rfl)
                    ·
                      refine w_condF hc5 rfl ?_
                      refine loop_exit h (fun h => ?_)
                      refine cut_done (o := or3) () h ?_
                      exact wm_of [true, true, false, true, true, true, true, true, false, false, true, false, true, true, true, true, true, true, true, true, true, true, true, true, true, true, true, true, true, false, false, false, false, false, false, false, false, false, false, false, false, false, false, false, false, false, false, false, false, false, false, false, false, false, false, false, false, false, false, false, false, false, false, false, false, false, false, false, false, false, false, false, true, true, true, true, true, true, true, true, true, true, true, true, true, true, true, true, true, true, true, true, true, true, true, true, true, true, true, true, true, true, true, true] (by kernel_rfl) (by kernel_rfl)
                ·
                  intro j3 h
                  refine w_start (by dsimp only [setAll, topAll, List.foldl, List.set]) rfl ?_
                  refine w_seq (w_region ?_)
                  refine w_op (a := .list (List.length (x1 : List BS)) (Enc.cellsL (x1 : List BS)) .none) rfl rfl rfl rfl (by dsimp only [aput, List.set]) ?_
                  refine w_op (a := .raw (.int .i64 s1.2.1)) rfl rfl rfl rfl (by dsimp only [aput, List.set]) ?_
                  obtain ⟨g8, h⟩ := chk_e h
                  refine w_qs (.list (List.length ((sub x1 0 s1.2.1) : List BS)) (Enc.cellsL ((sub x1 0 s1.2.1) : List BS)) .none) rfl rfl rfl (q_sub_H (α := BS) (l := x1) g8 rfl rfl rfl rfl rfl) (strip_sub _ _ _) (by dsimp only [aput, List.set]) ?_
                  refine w_op (a := .raw (.int .i64 (List.length (sub x1 0 s1.2.1) : Int))) rfl rfl rfl rfl (by dsimp only [aput, List.set]) ?_
                  refine w_op (a := .raw (.int .i64 0)) rfl rfl rfl rfl (by dsimp only [aput, List.set]) ?_
                  refine w_block ?_
                  refine w_loopF h [2, 6, 13, 14, 16, 72, 73, 76, 77, 78, 79, 80, 81, 82, 83, 84, 85, 86, 87, 88, 89, 90, 91, 92, 93, 94, 95, 96, 97, 98, 99] (fun s3 => [(76, .raw (.int .i64 s3))]) (fun s3 => ⟨[(24, (Enc.cells (x5 : BS))), (24, (Enc.cells (x2 : BS)))], [], [], 0, false⟩) ?_ ?_
                  · exact wm_of [true, true, false, true, true, true, false, true, true, true, true, true, true, false, false, true, false, true, true, true, true, true, true, true, true, true, true, true, true, true, true, true, true, true, true, true, true, true, true, true, true, true, true, true, true, true, true, true, true, true, true, true, true, true, true, true, true, true, true, true, true, true, true, true, true, true, true, true, true, true, true, true, false, false, true, true, true, false, false, false, false, false, false, false, false, false, false, false, false, false, false, false, false, false, false, false, false, false, false, false, true, true, true, true] (by kernel_rfl) (by kernel_rfl)
                  · intro s3 p3 h
                    refine w_start (by dsimp only [setAll, topAll, List.foldl, List.set]) rfl ?_
                    refine w_seq (w_region ?_)
                    refine w_op (a := .raw (.bool (decide (s3 < (List.length (sub x1 0 s1.2.1) : Int))))) rfl rfl rfl rfl (by dsimp only [aput, List.set]) ?_
                    refine w_seq ?_
                    refine bif_e h (fun hc8 h => ?_) (fun hc8 h => ?_)
                    ·
                      refine w_condT hc8 rfl ?_
                      refine w_cutF h [2, 13, 14, 16, 77, 78, 79, 80, 81, 82, 83, 84, 85, 86, 87, 88, 89, 90, 91, 92, 93, 94, 95, 96, 97, 98] (fun j5 => []) (fun j5 => ⟨[(24, (Enc.cells (x5 : BS))), (24, (Enc.cells (x2 : BS)))], [], [], 0, false⟩) ?_ ?_
                      ·
                        intro or5 h hr5
                        refine w_block ?_
                        refine w_seq (w_region ?_)
                        obtain ⟨g9, h⟩ := chk_e h
                        obtain ⟨x9, hx9, h⟩ := letE_e h
                        refine w_op (a := .iptr (Enc.cells x9 ++ Enc.cellsL (List.drop (Int.toNat s3 + 1) (sub x1 0 s1.2.1)))) rfl rfl rfl (op_q (by rw [← hx9]; exact (q_idx (α := BS) (l := (sub x1 0 s1.2.1)) g9 rfl rfl rfl rfl rfl))) (by dsimp only [aput, List.set]) ?_
                        refine w_op (a := .agg (Enc.cells (x9 : BS))) rfl rfl rfl rfl (by dsimp only [aput, List.set]) ?_
                        refine w_opm (a := .ptr 2 0) (σ'' := ⟨[(24, (Enc.cells (x5 : BS))), (24, (Enc.cells (x2 : BS))), (24, (Enc.cells (0#256 : BS)))], [], [], 0, false⟩) rfl rfl rfl rfl (by dsimp only [aput, List.set]) rfl ?_
                        refine w_opm (σ'' := ⟨[(24, (Enc.cells (x5 : BS))), (24, (Enc.cells (x2 : BS))), (24, (Enc.cells (x9 : BS)))], [], [], 0, false⟩) rfl rfl rfl (op_storeW (n := 4) rfl rfl rfl rfl rfl rfl rfl rfl (by decide)) (by dsimp only [aput, List.set]) rfl ?_
                        refine w_seq (w_region ?_)
                        refine w_op (a := .raw (.bool false)) rfl rfl rfl rfl (by dsimp only [aput, List.set]) ?_
                        refine w_cutF h [13, 14, 16, 77, 78, 79, 80, 81, 82, 83, 84, 85, 86, 87, 88, 89, 90, 91, 92, 93, 94, 95, 96] (fun j6 => [(14, .raw (.bool j6))]) (fun j6 => ⟨[(24, (Enc.cells (x5 : BS))), (24, (Enc.cells (x2 : BS))), (24, (Enc.cells (x9 : BS)))], [], [], 0, false⟩) ?_ ?_
                        ·
                          intro or6 h hr6
                          refine w_seq (w_region ?_)
                          refine w_op (a := .list (List.length ((sub l 0 (min (List.length l : Int) 8)) : List BS)) (Enc.cellsL ((sub l 0 (min (List.length l : Int) 8)) : List BS)) .none) rfl rfl rfl rfl (by dsimp only [aput, List.set]) ?_
                          refine w_op (a := .raw (.int .i64 (List.length (sub l 0 (min (List.length l : Int) 8)) : Int))) rfl rfl rfl rfl (by dsimp only [aput, List.set]) ?_
                          refine w_op (a := .raw (.int .i64 0)) rfl rfl rfl rfl (by dsimp only [aput, List.set]) ?_
                          refine w_block ?_
                          refine w_loopF h [14, 16, 77, 78, 79, 82, 83, 84, 85, 86, 87, 88, 89, 90, 91, 92, 93, 94, 95, 96] (fun s4 => [(14, .raw (.bool s4.1)), (82, .raw (.int .i64 s4.2))]) (fun s4 => ⟨[(24, (Enc.cells (x5 : BS))), (24, (Enc.cells (x2 : BS))), (24, (Enc.cells (x9 : BS)))], [], [], 0, false⟩) ?_ ?_
                          · exact wm_of [true, true, true, true, true, true, true, true, true, true, true, true, true, true, true, true, false, true, true, true, true, true, true, true, true, true, true, true, true, true, true, true, true, true, true, true, true, true, true, true, true, true, true, true, true, true, true, true, true, true, true, true, true, true, true, true, true, true, true, true, true, true, true, true, true, true, true, true, true, true, true, true, true, true, true, true, true, false, false, false, true, true, true, false, false, false, false, false, false, false, false, false, false, false, false, false, false, true, true, true, true, true, true, true] (by kernel_rfl) (by kernel_rfl)
                          · intro s4 p4 h
                            refine w_start (by dsimp only [setAll, topAll, List.foldl, List.set]) rfl ?_
                            refine w_seq (w_region ?_)
                            refine w_op (a := .raw (.bool (decide (s4.2 < (List.length (sub l 0 (min (List.length l : Int) 8)) : Int))))) rfl rfl rfl rfl (by dsimp only [aput, List.set]) ?_
                            refine w_seq ?_
                            refine bif_e h (fun hc9 h => ?_) (fun hc9 h => ?_)
                            ·
                              refine w_condT hc9 rfl ?_
                              refine w_cutF h [14, 16, 83, 84, 85, 86, 87, 88, 89, 90, 91, 92, 93, 94, 95] (fun j7 => [(14, .raw (.bool j7))]) (fun j7 => ⟨[(24, (Enc.cells (x5 : BS))), (24, (Enc.cells (x2 : BS))), (24, (Enc.cells (x9 : BS)))], [], [], 0, false⟩) ?_ ?_
                              ·
                                intro or7 h hr7
                                refine w_block ?_
                                refine w_seq (w_region ?_)
                                obtain ⟨g10, h⟩ := chk_e h
                                obtain ⟨x10, hx10, h⟩ := letE_e h
                                refine w_op (a := .iptr (Enc.cells x10 ++ Enc.cellsL (List.drop (Int.toNat s4.2 + 1) (sub l 0 (min (List.length l : Int) 8))))) rfl rfl rfl (op_q (by rw [← hx10]; exact (q_idx (α := BS) (l := (sub l 0 (min (List.length l : Int) 8))) g10 rfl rfl rfl rfl rfl))) (by dsimp only [aput, List.set]) ?_
                                refine w_op (a := .agg (Enc.cells (x10 : BS))) rfl rfl rfl rfl (by dsimp only [aput, List.set]) ?_
                                refine w_opm (a := .ptr 3 0) (σ'' := ⟨[(24, (Enc.cells (x5 : BS))), (24, (Enc.cells (x2 : BS))), (24, (Enc.cells (x9 : BS))), (24, (Enc.cells (0#256 : BS)))], [], [], 0, false⟩) rfl rfl rfl rfl (by dsimp only [aput, List.set]) rfl ?_
                                refine w_opm (σ'' := ⟨[(24, (Enc.cells (x5 : BS))), (24, (Enc.cells (x2 : BS))), (24, (Enc.cells (x9 : BS))), (24, (Enc.cells (x10 : BS)))], [], [], 0, false⟩) rfl rfl rfl (op_storeW (n := 4) rfl rfl rfl rfl rfl rfl rfl rfl (by decide)) (by dsimp only [aput, List.set]) rfl ?_
                                refine w_draw (id := 28) 7 (by kernel_rfl) (by kernel_rfl) ?_
                                refine h_op (a := .raw (.bool s4.1)) rfl rfl rfl rfl (by dsimp only [aput, List.set]) ?_
                                refine bif_e h (fun hc10 h => ?_) (fun hc10 h => ?_)
                                ·
                                  refine h_op (a := .raw (.bool true)) rfl rfl rfl (q_bool rfl hc10) (by dsimp only [aput, List.set]) ?_
                                  refine h_pass rfl rfl rfl (by decide) (by dsimp only [aput, List.set]) ?_
                                  refine h_pass rfl rfl rfl (by decide) (by dsimp only [aput, List.set]) ?_
                                  refine h_pass rfl rfl rfl (by decide) (by dsimp only [aput, List.set]) ?_
                                  refine h_pass rfl rfl rfl (by decide) (by dsimp only [aput, List.set]) ?_
                                  refine h_pass rfl rfl rfl (by decide) (by dsimp only [aput, List.set]) ?_
                                  refine h_end ?_
                                  refine w_pass rfl rfl (by decide) (by dsimp only [aput, List.set]) ?_
                                  refine w_pass rfl rfl (by decide) (by dsimp only [aput, List.set]) ?_
                                  refine w_op (a := .raw (.bool true)) rfl rfl rfl rfl (by dsimp only [aput, List.set]) ?_
                                  refine w_op (a := .raw (.bool true)) rfl rfl rfl rfl (by dsimp only [aput, List.set]) ?_
                                  refine cut_done (o := or7) (true) h ?_
                                  exact wm_trim [true, true, true, true, true, true, true, true, true, true, true, true, true, true, true, true, false, true, true, true, true, true, true, true, true, true, true, true, true, true, true, true, true, true, true, true, true, true, true, true, true, true, true, true, true, true, true, true, true, true, true, true, true, true, true, true, true, true, true, true, true, true, true, true, true, true, true, true, true, true, true, true, true, true, true, true, true, true, true, true, true, true, true, false, false, false, false, false, false, false, false, false, false, false, false, false, true, true, true, true, true, true, true, true] 3 (by kernel_rfl) (Nat.le_of_ble_eq_true rfl) (okSt_of (okB_cons (okTrimL_clo _ _ (Enc.clo _)) (okB_cons (okTrimL_clo _ _ (Enc.clo _)) (okB_cons (okTrimL_clo _ _ (Enc.clo _)) rfl)))) (by dsimp only [setAll, topAll, List.foldl, List.set]; exact (okTrimL_cons (okTrim_l (Enc.cloL _)) (okTrimL_cons rfl (okTrimL_cons rfl (okTrimL_cons (okTrim_l (Enc.cloL _)) (okTrimL_cons (by decide) (okTrimL_cons rfl (okTrimL_cons rfl (okTrimL_cons (by decide) (okTrimL_cons rfl (okTrimL_cons rfl (okTrimL_cons rfl (okTrimL_cons rfl (okTrimL_cons rfl (okTrimL_cons (by decide) (okTrimL_cons rfl (okTrimL_cons rfl (okTrimL_cons rfl (okTrimL_cons rfl (okTrimL_cons rfl (okTrimL_cons rfl (okTrimL_cons rfl (okTrimL_cons rfl (okTrimL_cons rfl (okTrimL_cons rfl (okTrimL_cons rfl (okTrimL_cons rfl (okTrimL_cons (okTrim_l (Enc.cloL _)) (okTrimL_cons rfl (okTrimL_cons rfl (okTrimL_cons rfl (okTrimL_cons rfl (okTrimL_cons rfl (okTrimL_cons rfl (okTrimL_cons rfl (okTrimL_cons rfl (okTrimL_cons rfl (okTrimL_cons rfl (okTrimL_cons rfl (okTrimL_cons rfl (okTrimL_cons rfl (okTrimL_cons rfl (okTrimL_cons rfl (okTrimL_cons rfl (okTrimL_cons rfl (okTrimL_cons rfl (okTrimL_cons rfl (okTrimL_cons rfl (okTrimL_cons rfl (okTrimL_cons rfl (okTrimL_cons rfl (okTrimL_cons rfl (okTrimL_cons rfl (okTrimL_cons rfl (okTrimL_cons rfl (okTrimL_cons rfl (okTrimL_cons rfl (okTrimL_cons rfl (okTrimL_cons rfl (okTrimL_cons rfl (okTrimL_cons rfl (okTrimL_cons rfl (okTrimL_cons rfl (okTrimL_cons rfl (okTrimL_cons rfl (okTrimL_cons rfl (okTrimL_cons rfl (okTrimL_cons rfl (okTrimL_cons rfl (okTrimL_cons rfl (okTrimL_cons rfl (okTrimL_cons rfl (okTrimL_cons rfl (okTrimL_cons rfl (okTrimL_cons rfl (okTrimL_cons (okTrim_l (Enc.cloL _)) (okTrimL_cons rfl (okTrimL_cons rfl (okTrimL_cons rfl (okTrimL_cons rfl (okTrimL_cons rfl (okTrimL_cons (okTrim_l (Enc.cloL _)) (okTrimL_cons rfl (okTrimL_cons rfl (okTrimL_cons rfl (okTrimL_cons rfl (okTrimL_cons rfl (okTrimL_cons rfl (okTrimL_cons rfl (okTrimL_cons rfl (okTrimL_cons rfl (okTrimL_cons rfl (okTrimL_cons rfl (okTrimL_cons rfl (okTrimL_cons rfl (okTrimL_cons rfl (okTrimL_cons rfl (okTrimL_cons rfl (okTrimL_cons rfl (okTrimL_cons rfl (okTrimL_cons rfl (okTrimL_cons rfl (okTrimL_cons rfl (okTrimL_cons rfl (okTrimL_cons rfl rfl))))))))))))))))))))))))))))))))))))))))))))))))))))))))))))))))))))))))))))))))))))))))))))))))))))))))) (by kernel_rfl)
                                ·
                                  refine h_op (a := .raw (.bool false)) rfl rfl rfl (q_bool rfl hc10) (by dsimp only [aput, List.set]) ?_
                                  refine h_met rfl rfl ?_
                                  refine h_op (a := .agg (Enc.cells (x2 : BS))) rfl rfl rfl rfl (by dsimp only [aput, List.set]) ?_
                                  refine h_met rfl rfl ?_
                                  refine h_op (a := .agg (Enc.cells (x10 : BS))) rfl rfl rfl rfl (by dsimp only [aput, List.set]) ?_
                                  refine h_met rfl rfl ?_
                                  obtain ⟨x11, hx11, h⟩ := letE_e h
                                  refine h_call (args' := [.agg (Enc.cells (x2 : BS)), .agg (Enc.cells (x10 : BS))]) (r := .raw (.bool x11)) (by rw [← hx11]; exact (k_within x2 x10)) rfl rfl rfl (stripL_cons (strip_c (clo_agg (Enc.clo _))) (stripL_cons (strip_c (clo_agg (Enc.clo _))) rfl)) (okTrimL_cons (okTrim_clo _ _ (clo_agg (Enc.clo _))) (okTrimL_cons (okTrim_clo _ _ (clo_agg (Enc.clo _))) rfl)) (by dsimp only [aput, List.set]) ?_
                                  refine h_met rfl rfl ?_
                                  refine h_op (a := .agg (Enc.cells (x9 : BS))) rfl rfl rfl rfl (by dsimp only [aput, List.set]) ?_
                                  refine h_met rfl rfl ?_
                                  refine h_op (a := .agg (Enc.cells (x10 : BS))) rfl rfl rfl rfl (by dsimp only [aput, List.set]) ?_
                                  refine h_end ?_
                                  refine w_met rfl rfl ?_
                                  obtain ⟨x12, hx12, h⟩ := letE_e h
                                  refine w_callc (args' := [.agg (Enc.cells (x9 : BS)), .agg (Enc.cells (x10 : BS))]) (r := .raw (.bool x12)) (by rw [← hx12]; exact (k_within x9 x10)) rfl rfl (stripL_cons (strip_c (clo_agg (Enc.clo _))) (stripL_cons (strip_c (clo_agg (Enc.clo _))) rfl)) (okTrimL_cons (okTrim_clo _ _ (clo_agg (Enc.clo _))) (okTrimL_cons (okTrim_clo _ _ (clo_agg (Enc.clo _))) rfl)) (by dsimp only [aput, List.set]) ?_
                                  refine w_met rfl rfl ?_
                                  refine w_op (a := .raw (.bool (!(x11 == x12)))) rfl rfl rfl (op_q (by kernel_rfl)) (by dsimp only [aput, List.set]) ?_
                                  refine w_op (a := .raw (.bool (!(x11 == x12)))) rfl rfl rfl rfl (by dsimp only [aput, List.set]) ?_
                                  refine w_op (a := .raw (.bool (!(x11 == x12)))) rfl rfl rfl rfl (by dsimp only [aput, List.set]) ?_
                                  refine cut_done (o := or7) ((!(x11 == x12))) h ?_
                                  exact wm_trim [true, true, true, true, true, true, true, true, true, true, true, true, true, true, true, true, false, true, true, true, true, true, true, true, true, true, true, true, true, true, true, true, true, true, true, true, true, true, true, true, true, true, true, true, true, true, true, true, true, true, true, true, true, true, true, true, true, true, true, true, true, true, true, true, true, true, true, true, true, true, true, true, true, true, true, true, true, true, true, true, true, true, true, false, false, false, false, false, false, false, false, false, false, false, false, false, true, true, true, true, true, true, true, true] 3 (by kernel_rfl) (Nat.le_of_ble_eq_true rfl) (okSt_of (okB_cons (okTrimL_clo _ _ (Enc.clo _)) (okB_cons (okTrimL_clo _ _ (Enc.clo _)) (okB_cons (okTrimL_clo _ _ (Enc.clo _)) rfl)))) (by dsimp only [setAll, topAll, List.foldl, List.set]; exact (okTrimL_cons (okTrim_l (Enc.cloL _)) (okTrimL_cons rfl (okTrimL_cons rfl (okTrimL_cons (okTrim_l (Enc.cloL _)) (okTrimL_cons (by decide) (okTrimL_cons rfl (okTrimL_cons rfl (okTrimL_cons (by decide) (okTrimL_cons rfl (okTrimL_cons rfl (okTrimL_cons rfl (okTrimL_cons rfl (okTrimL_cons rfl (okTrimL_cons (by decide) (okTrimL_cons rfl (okTrimL_cons rfl (okTrimL_cons rfl (okTrimL_cons rfl (okTrimL_cons rfl (okTrimL_cons rfl (okTrimL_cons rfl (okTrimL_cons rfl (okTrimL_cons rfl (okTrimL_cons rfl (okTrimL_cons rfl (okTrimL_cons rfl (okTrimL_cons (okTrim_l (Enc.cloL _)) (okTrimL_cons rfl (okTrimL_cons rfl (okTrimL_cons rfl (okTrimL_cons rfl (okTrimL_cons rfl (okTrimL_cons rfl (okTrimL_cons rfl (okTrimL_cons rfl (okTrimL_cons rfl (okTrimL_cons rfl (okTrimL_cons rfl (okTrimL_cons rfl (okTrimL_cons rfl (okTrimL_cons rfl (okTrimL_cons rfl (okTrimL_cons rfl (okTrimL_cons rfl (okTrimL_cons rfl (okTrimL_cons rfl (okTrimL_cons rfl (okTrimL_cons rfl (okTrimL_cons rfl (okTrimL_cons rfl (okTrimL_cons rfl (okTrimL_cons rfl (okTrimL_cons rfl (okTrimL_cons rfl (okTrimL_cons rfl (okTrimL_cons rfl (okTrimL_cons rfl (okTrimL_cons rfl (okTrimL_cons rfl (okTrimL_cons rfl (okTrimL_cons rfl (okTrimL_cons rfl (okTrimL_cons rfl (okTrimL_cons rfl (okTrimL_cons rfl (okTrimL_cons rfl (okTrimL_cons rfl (okTrimL_cons rfl (okTrimL_cons rfl (okTrimL_cons rfl (okTrimL_cons rfl (okTrimL_cons rfl (okTrimL_cons rfl (okTrimL_cons rfl (okTrimL_cons (okTrim_l (Enc.cloL _)) (okTrimL_cons rfl (okTrimL_cons rfl (okTrimL_cons rfl (okTrimL_cons rfl (okTrimL_cons rfl (okTrimL_cons (okTrim_l (Enc.cloL _)) (okTrimL_cons rfl (okTrimL_cons rfl (okTrimL_cons rfl (okTrimL_cons rfl (okTrimL_cons rfl (okTrimL_cons rfl (okTrimL_cons rfl (okTrimL_cons rfl (okTrimL_cons rfl (okTrimL_cons rfl (okTrimL_cons rfl (okTrimL_cons rfl (okTrimL_cons rfl (okTrimL_cons rfl (okTrimL_cons rfl (okTrimL_cons rfl (okTrimL_cons rfl (okTrimL_cons rfl (okTrimL_cons rfl (okTrimL_cons rfl (okTrimL_cons rfl (okTrimL_cons rfl (okTrimL_cons rfl rfl))))))))))))))))))))))))))))))))))))))))))))))))))))))))))))))))))))))))))))))))))))))))))))))))))))))))) (by kernel_rfl)
                              ·
                                intro j7 h
                                refine w_start (by dsimp only [setAll, topAll, List.foldl, List.set]) rfl ?_
                                refine w_region (id := 29) ?_
                                obtain ⟨g11, h⟩ := chk_e h
                                refine w_op (a := .raw (.int .i64 (s4.2 + 1))) rfl rfl rfl (op_q (q_add rfl rfl rfl rfl g11.1 g11.2)) (by dsimp only [aput, List.set]) ?_
                                refine w_op (a := .raw (.int .i64 (s4.2 + 1))) rfl rfl rfl rfl (by dsimp only [aput, List.set]) ?_
                                refine loop_next (p := p4) (j7, (s4.2 + 1)) h ?_
                                exact wm_of [true, true, true, true, true, true, true, true, true, true, true, true, true, true, true, true, false, true, true, true, true, true, true, true, true, true, true, true, true, true, true, true, true, true, true, true, true, true, true, true, true, true, true, true, true, true, true, true, true, true, true, true, true, true, true, true, true, true, true, true, true, true, true, true, true, true, true, true, true, true, true, true, true, true, true, true, true, false, false, false, true, true, true, false, false, false, false, false, false, false, false, false, false, false, false, false, false, true, true, true, true, true, true, true] (by kernel_rfl) (by kernel_rfl)
                            ·
                              refine w_condF hc9 rfl ?_
                              refine loop_exit h (fun h => ?_)
                              refine cut_done (o := or6) (s4.1) h ?_
                              exact wm_of [true, true, true, true, true, true, true, true, true, true, true, true, true, false, true, true, false, true, true, true, true, true, true, true, true, true, true, true, true, true, true, true, true, true, true, true, true, true, true, true, true, true, true, true, true, true, true, true, true, true, true, true, true, true, true, true, true, true, true, true, true, true, true, true, true, true, true, true, true, true, true, true, true, true, true, true, true, false, false, false, false, false, false, false, false, false, false, false, false, false, false, false, false, false, false, false, false, true, true, true, true, true, true, true] (by kernel_rfl) (by kernel_rfl)
                        ·
                          intro j6 h
                          refine w_start (by dsimp only [setAll, topAll, List.foldl, List.set]) rfl ?_
                          refine w_seq (w_region ?_)
                          refine w_op (a := .raw (.bool j6)) rfl rfl rfl rfl (by dsimp only [aput, List.set]) ?_
                          refine w_op (a := .raw (.bool (!j6))) rfl rfl rfl rfl (by dsimp only [aput, List.set]) ?_
                          refine bif_e h (fun hc11 h => ?_) (fun hc11 h => ?_)
                          ·
                            refine w_condT hc11 rfl ?_
                            refine w_seq (w_region ?_)
                            refine w_op (a := .raw (.bool false)) rfl rfl rfl rfl (by dsimp only [aput, List.set]) ?_
                            replace h := cut_inr h hr5
                            refine loop_exit h (fun h => ?_)
                            replace h := cut_inr h hr2
                            refine loop_exit h (fun h => ?_)
                            replace h := cut_inr h hr1
                            exact end_pureF (fun (r : Bool) => (.raw (.bool r) : AV)) h (a := .raw (.bool false)) rfl rfl rfl
                          ·
                            refine w_condF hc11 rfl ?_
                            refine cut_done (o := or5) () h ?_
                            exact wm_trim [true, true, false, true, true, true, true, true, true, true, true, true, true, false, false, true, false, true, true, true, true, true, true, true, true, true, true, true, true, true, true, true, true, true, true, true, true, true, true, true, true, true, true, true, true, true, true, true, true, true, true, true, true, true, true, true, true, true, true, true, true, true, true, true, true, true, true, true, true, true, true, true, true, true, true, true, true, false, false, false, false, false, false, false, false, false, false, false, false, false, false, false, false, false, false, false, false, false, false, true, true, true, true, true] 2 (by kernel_rfl) (Nat.le_of_ble_eq_true rfl) (okSt_of (okB_cons (okTrimL_clo _ _ (Enc.clo _)) (okB_cons (okTrimL_clo _ _ (Enc.clo _)) rfl))) (by dsimp only [setAll, topAll, List.foldl, List.set]; exact (okTrimL_cons (okTrim_l (Enc.cloL _)) (okTrimL_cons rfl (okTrimL_cons rfl (okTrimL_cons (okTrim_l (Enc.cloL _)) (okTrimL_cons (by decide) (okTrimL_cons rfl (okTrimL_cons rfl (okTrimL_cons (by decide) (okTrimL_cons rfl (okTrimL_cons rfl (okTrimL_cons rfl (okTrimL_cons rfl (okTrimL_cons rfl (okTrimL_cons rfl (okTrimL_cons rfl (okTrimL_cons rfl (okTrimL_cons rfl (okTrimL_cons rfl (okTrimL_cons rfl (okTrimL_cons rfl (okTrimL_cons rfl (okTrimL_cons rfl (okTrimL_cons rfl (okTrimL_cons rfl (okTrimL_cons rfl (okTrimL_cons rfl (okTrimL_cons (okTrim_l (Enc.cloL _)) (okTrimL_cons rfl (okTrimL_cons rfl (okTrimL_cons rfl (okTrimL_cons rfl (okTrimL_cons rfl (okTrimL_cons rfl (okTrimL_cons rfl (okTrimL_cons rfl (okTrimL_cons rfl (okTrimL_cons rfl (okTrimL_cons rfl (okTrimL_cons rfl (okTrimL_cons rfl (okTrimL_cons rfl (okTrimL_cons rfl (okTrimL_cons rfl (okTrimL_cons rfl (okTrimL_cons rfl (okTrimL_cons rfl (okTrimL_cons rfl (okTrimL_cons rfl (okTrimL_cons rfl (okTrimL_cons rfl (okTrimL_cons rfl (okTrimL_cons rfl (okTrimL_cons rfl (okTrimL_cons rfl (okTrimL_cons rfl (okTrimL_cons rfl (okTrimL_cons rfl (okTrimL_cons rfl (okTrimL_cons rfl (okTrimL_cons rfl (okTrimL_cons rfl (okTrimL_cons rfl (okTrimL_cons rfl (okTrimL_cons rfl (okTrimL_cons rfl (okTrimL_cons rfl (okTrimL_cons rfl (okTrimL_cons rfl (okTrimL_cons rfl (okTrimL_cons rfl (okTrimL_cons rfl (okTrimL_cons rfl (okTrimL_cons rfl (okTrimL_cons rfl (okTrimL_cons (okTrim_l (Enc.cloL _)) (okTrimL_cons rfl (okTrimL_cons rfl (okTrimL_cons rfl (okTrimL_cons rfl (okTrimL_cons rfl (okTrimL_cons rfl (okTrimL_cons rfl (okTrimL_cons rfl (okTrimL_cons rfl (okTrimL_cons rfl (okTrimL_cons rfl (okTrimL_cons rfl (okTrimL_cons rfl (okTrimL_cons rfl (okTrimL_cons rfl (okTrimL_cons rfl (okTrimL_cons rfl (okTrimL_cons rfl (okTrimL_cons rfl (okTrimL_cons rfl (okTrimL_cons rfl (okTrimL_cons rfl (okTrimL_cons rfl (okTrimL_cons rfl (okTrimL_cons rfl (okTrimL_cons rfl (okTrimL_cons rfl (okTrimL_cons rfl (okTrimL_cons rfl rfl))))))))))))))))))))))))))))))))))))))))))))))))))))))))))))))))))))))))))))))))))))))))))))))))))))))))) (by kernel_rfl)
                      ·
                        intro j5 h
                        refine w_start (by dsimp only [setAll, topAll, List.foldl, List.set]) rfl ?_
                        refine w_region (id := 32) ?_
                        obtain ⟨g12, h⟩ := chk_e h
                        refine w_op (a := .raw (.int .i64 (s3 + 1))) rfl rfl rfl (op_q (q_add rfl rfl rfl rfl g12.1 g12.2)) (by dsimp only [aput, List.set]) ?_
                        refine w_op (a := .raw (.int .i64 (s3 + 1))) rfl rfl rfl rfl (by dsimp only [aput, List.set]) ?_
                        refine loop_next (p := p3) ((s3 + 1)) h ?_
                        exact wm_of [true, true, false, true, true, true, false, true, true, true, true, true, true, false, false, true, false, true, true, true, true, true, true, true, true, true, true, true, true, true, true, true, true, true, true, true, true, true, true, true, true, true, true, true, true, true, true, true, true, true, true, true, true, true, true, true, true, true, true, true, true, true, true, true, true, true, true, true, true, true, true, true, false, false, true, true, true, false, false, false, false, false, false, false, false, false, false, false, false, false, false, false, false, false, false, false, false, false, false, false, true, true, true, true] (by kernel_rfl) (by kernel_rfl)
                    ·
                      refine w_condF hc8 rfl ?_
                      refine loop_exit h (fun h => ?_)
                      refine cut_done (o := or2) (x3.1, x5) h ?_
                      exact wm_trim [true, true, false, true, true, true, false, false, false, false, true, false, true, false, false, true, false, true, true, true, true, true, true, true, true, true, true, true, true, false, false, false, false, false, false, false, false, false, false, false, false, false, false, false, false, false, false, false, false, false, false, false, false, false, false, false, false, false, false, false, false, false, false, false, false, false, false, false, false, false, false, false, false, false, false, false, false, false, false, false, false, false, false, false, false, false, false, false, false, false, false, false, false, false, false, false, false, false, false, false, true, true, true, true] 1 (by kernel_rfl) (Nat.le_of_ble_eq_true rfl) (okSt_of (okB_cons (okTrimL_clo _ _ (Enc.clo _)) rfl)) (by dsimp only [setAll, topAll, List.foldl, List.set]; exact (okTrimL_cons (okTrim_l (Enc.cloL _)) (okTrimL_cons rfl (okTrimL_cons rfl (okTrimL_cons (okTrim_l (Enc.cloL _)) (okTrimL_cons (by decide) (okTrimL_cons rfl (okTrimL_cons rfl (okTrimL_cons rfl (okTrimL_cons rfl (okTrimL_cons rfl (okTrimL_cons rfl (okTrimL_cons rfl (okTrimL_cons rfl (okTrimL_cons rfl (okTrimL_cons rfl (okTrimL_cons rfl (okTrimL_cons rfl (okTrimL_cons rfl (okTrimL_cons rfl (okTrimL_cons rfl (okTrimL_cons rfl (okTrimL_cons rfl (okTrimL_cons rfl (okTrimL_cons rfl (okTrimL_cons rfl (okTrimL_cons rfl (okTrimL_cons (okTrim_l (Enc.cloL _)) (okTrimL_cons rfl (okTrimL_cons rfl (okTrimL_cons rfl (okTrimL_cons rfl (okTrimL_cons rfl (okTrimL_cons rfl (okTrimL_cons rfl (okTrimL_cons rfl (okTrimL_cons rfl (okTrimL_cons rfl (okTrimL_cons rfl (okTrimL_cons rfl (okTrimL_cons rfl (okTrimL_cons rfl (okTrimL_cons rfl (okTrimL_cons rfl (okTrimL_cons rfl (okTrimL_cons rfl (okTrimL_cons rfl (okTrimL_cons rfl (okTrimL_cons rfl (okTrimL_cons rfl (okTrimL_cons rfl (okTrimL_cons rfl (okTrimL_cons rfl (okTrimL_cons rfl (okTrimL_cons rfl (okTrimL_cons rfl (okTrimL_cons rfl (okTrimL_cons rfl (okTrimL_cons rfl (okTrimL_cons rfl (okTrimL_cons rfl (okTrimL_cons rfl (okTrimL_cons rfl (okTrimL_cons rfl (okTrimL_cons rfl (okTrimL_cons rfl (okTrimL_cons rfl (okTrimL_cons rfl (okTrimL_cons rfl (okTrimL_cons rfl (okTrimL_cons rfl (okTrimL_cons rfl (okTrimL_cons rfl (okTrimL_cons rfl (okTrimL_cons rfl (okTrimL_cons rfl (okTrimL_cons rfl (okTrimL_cons rfl (okTrimL_cons rfl (okTrimL_cons rfl (okTrimL_cons rfl (okTrimL_cons rfl (okTrimL_cons rfl (okTrimL_cons rfl (okTrimL_cons rfl (okTrimL_cons rfl (okTrimL_cons rfl (okTrimL_cons rfl (okTrimL_cons rfl (okTrimL_cons rfl (okTrimL_cons rfl (okTrimL_cons rfl (okTrimL_cons rfl (okTrimL_cons rfl (okTrimL_cons rfl (okTrimL_cons rfl (okTrimL_cons rfl (okTrimL_cons rfl (okTrimL_cons rfl (okTrimL_cons rfl (okTrimL_cons rfl (okTrimL_cons rfl (okTrimL_cons rfl (okTrimL_cons rfl (okTrimL_cons rfl rfl))))))))))))))))))))))))))))))))))))))))))))))))))))))))))))))))))))))))))))))))))))))))))))))))))))))))) (by kernel_rfl)
        ·
          intro j2 h
          refine w_start (by dsimp only [setAll, topAll, List.foldl, List.set]) rfl ?_
          refine w_region (id := 33) ?_
          obtain ⟨g13, h⟩ := chk_e h
          refine w_op (a := .raw (.int .i64 (s1.2.1 + 1))) rfl rfl rfl (op_q (q_add rfl rfl rfl rfl g13.1 g13.2)) (by dsimp only [aput, List.set]) ?_
          refine w_op (a := .raw (.int .i64 (s1.2.1 + 1))) rfl rfl rfl rfl (by dsimp only [aput, List.set]) ?_
          refine loop_next (p := p1) (j2.1, (s1.2.1 + 1), j2.2) h ?_
          exact wm_of [true, false, false, true, true, true, false, false, false, false, false, false, false, false, false, false, false, false, false, false, false, false, false, false, false, false, true, true, true, false, false, false, false, false, false, false, false, false, false, false, false, false, false, false, false, false, false, false, false, false, false, false, false, false, false, false, false, false, false, false, false, false, false, false, false, false, false, false, false, false, false, false, false, false, false, false, false, false, false, false, false, false, false, false, false, false, false, false, false, false, false, false, false, false, false, false, false, false, false, false, false, false, false, false] (by kernel_rfl) (by kernel_rfl)
      ·
        refine w_condF hc1 rfl ?_
        refine loop_exit h (fun h => ?_)
        refine cut_done (o := or1) (s1.2.2) h ?_
        exact wm_of [false, false, false, false, true, false, false, false, false, false, false, false, false, false, false, false, false, false, false, false, false, false, false, false, false, false, false, false, false, false, false, false, false, false, false, false, false, false, false, false, false, false, false, false, false, false, false, false, false, false, false, false, false, false, false, false, false, false, false, false, false, false, false, false, false, false, false, false, false, false, false, false, false, false, false, false, false, false, false, false, false, false, false, false, false, false, false, false, false, false, false, false, false, false, false, false, false, false, false, false, false, false, false, false] (by kernel_rfl) (by kernel_rfl)
  ·
    intro j1 h
    refine w_start (by dsimp only [setAll, topAll, List.foldl, List.set]) rfl ?_
    refine w_seq ?_
    refine w_draw (id := 34) 2 (by kernel_rfl) (by kernel_rfl) ?_
    refine h_op (a := .agg (Enc.cells (j1 : BS))) rfl rfl rfl rfl (by dsimp only [aput, List.set]) ?_
    obtain ⟨x13, hx13, h⟩ := letE_e h
    refine h_call (args' := []) (r := .agg (Enc.cells (x13 : BS))) (by rw [← hx13]; exact k_all) rfl rfl rfl rfl rfl (by dsimp only [aput, List.set]) ?_
    refine h_end ?_
    refine w_run (.raw (.bool (decide (j1 = x13)))) rfl rfl rfl (rs_eqset j1 x13 rfl rfl rfl) (by dsimp only [aput, List.set]) ?_
    refine w_op (a := .raw (.bool (decide (j1 = x13)))) rfl rfl rfl rfl (by dsimp only [aput, List.set]) ?_
    exact end_pureF (fun (r : Bool) => (.raw (.bool r) : AV)) h (a := .raw (.bool (decide (j1 = x13)))) rfl rfl rfl
end Go.Ab
