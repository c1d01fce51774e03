/-
  RxOrder: the walks.
-/
import Derived.Test.YtaocggpaiafeeaaZrxOp
set_option linter.unusedSimpArgs false
set_option linter.unusedVariables false
namespace Go.Ab
open Go Go.RowKit Go.Fwd Go.Proofs

def F_cmpf (fuel : Nat) (n : Nat) (a : (List Tr)) (b : (List Tr)) : Option Int :=
  (cutE (τ := Unit) (loopE (β := Int) (fun s1 => (bif (decide (s1 < (List.length a : Int))) then (chk (0 ≤ s1 ∧ s1 < (List.length a : Int)) (letE (ix a s1) (fun x1 => (bif (decide (s1 ≥ (List.length b : Int))) then (some (Sum.inr (Sum.inr 1))) else (chk (0 ≤ s1 ∧ s1 < (List.length b : Int)) (letE (ix b s1) (fun x2 => (chk ((pre x1).length < n ∧ (pre x2).length < n) (letE (cmpT x1 x2) (fun x3 => (bif (x3 != 0) then (some (Sum.inr (Sum.inr x3))) else (chk (-9223372036854775808 ≤ (s1 + 1) ∧ (s1 + 1) < 9223372036854775808) (some (Sum.inl ((s1 + 1)))))))))))))))) else (some (Sum.inr (Sum.inl ()))))) fuel (0)) (fun j1 => (bif (decide ((List.length a : Int) < (List.length b : Int))) then (some (-1)) else (some 0))))
theorem ent55 : Ent Try.prog 55 := enters_of Try.func55 (by kernel_rfl) rfl
set_option maxRecDepth 100000 in
set_option maxHeartbeats 4000000 in
theorem cmpf_sh (fuel : Nat) (n : Nat) (a : (List Tr)) (b : (List Tr)) (r : Int) (ih : ∀ x y : Tr, (pre x).length < n ∧ (pre y).length < n → Pure (ITP Try.prog) Try.prog 44 [.agg (Enc.cells x), .agg (Enc.cells y)] (.raw (.int .i64 (cmpT x y)))) (h : F_cmpf fuel n a b = some r) : Pure (ITP Try.prog) Try.prog 55 [.list (List.length (a : List Tr)) (Enc.cellsL (a : List Tr)) .none, .list (List.length (b : List Tr)) (Enc.cellsL (b : List Tr)) .none, .clos 44 []] (.raw (.int .i64 r)) := by
  obtain ⟨d, hd⟩ : ∃ d, Try.f55.body = some d := ⟨_, rfl⟩
  refine pure_of mix Try.func55 hd ent55 ?_
  cases hd
  unfold F_cmpf at h
  refine w_start (by dsimp only [abeginS, Try.f55, List.length_cons, List.length_nil, Nat.zero_add, Nat.reduceAdd, Nat.reduceSub, List.replicate, List.cons_append, List.nil_append]) (by dsimp only [St.empty]) ?_
  refine w_seq (w_region ?_)
  refine w_op (a := .raw (.int .i64 0)) rfl rfl rfl rfl (by dsimp only [aput, List.set]) ?_
  refine w_cutF h [2, 3, 4, 5, 6, 7, 8, 9, 10, 11, 12, 13, 14, 15, 16, 17, 18, 19, 20, 21, 22, 23, 24, 25, 26, 27, 28, 29, 30, 31, 32, 33, 34, 35, 36, 37, 38] (fun j1 => []) (fun j1 => ⟨[], [], [], 0, false⟩) ?_ ?_
  ·
    intro or1 h hr1
    refine w_seq (w_region ?_)
    refine w_op (a := .list (List.length (a : List Tr)) (Enc.cellsL (a : List Tr)) .none) rfl rfl rfl rfl (by dsimp only [aput, List.set]) ?_
    refine w_op (a := .raw (.int .i64 (List.length a : Int))) rfl rfl rfl rfl (by dsimp only [aput, List.set]) ?_
    refine w_op (a := .raw (.int .i64 0)) rfl rfl rfl rfl (by dsimp only [aput, List.set]) ?_
    refine w_block ?_
    refine w_loopF h [3, 4, 5, 6, 7, 8, 9, 10, 13, 14, 15, 16, 17, 18, 19, 20, 21, 22, 23, 24, 25, 26, 27, 28, 29, 30, 31, 32, 33, 34, 35, 36, 37, 38] (fun s1 => [(13, .raw (.int .i64 s1))]) (fun s1 => ⟨[], [], [], 0, false⟩) ?_ ?_
    · exact wm_of [true, true, true, false, false, false, false, false, false, false, false, true, true, true, false, false, false, false, false, false, false, false, false, false, false, false, false, false, false, false, false, false, false, false, false, false, false, false, false] (by kernel_rfl) (by kernel_rfl)
    · intro s1 p1 h
      refine w_start (by dsimp only [setAll, topAll, List.foldl, List.set]) rfl ?_
      refine w_seq (w_region ?_)
      refine w_op (a := .raw (.bool (decide (s1 < (List.length a : Int))))) rfl rfl rfl rfl (by dsimp only [aput, List.set]) ?_
      refine w_seq ?_
      refine bif_e h (fun hc1 h => ?_) (fun hc1 h => ?_)
      ·
        refine w_condT hc1 rfl ?_
        refine w_seq ?_
        refine w_block ?_
        refine w_seq (w_region ?_)
        refine w_op (a := .raw (.int .i64 s1)) rfl rfl rfl rfl (by dsimp only [aput, List.set]) ?_
        obtain ⟨g1, h⟩ := chk_e h
        obtain ⟨x1, hx1, h⟩ := letE_e h
        refine w_op (a := .iptr (Enc.cells x1 ++ Enc.cellsL (List.drop (Int.toNat s1 + 1) a))) rfl rfl rfl (op_q (by rw [← hx1]; exact (q_idx (α := Tr) (l := a) g1 rfl rfl rfl rfl rfl))) (by dsimp only [aput, List.set]) ?_
        refine w_op (a := .agg (Enc.cells (x1 : Tr))) rfl rfl rfl rfl (by dsimp only [aput, List.set]) ?_
        refine w_opm (a := .ptr 0 0) (σ'' := ⟨[(29, [.raw (.int .u8 0), .raw (.int .u64 0), .raw (.int .u64 0), .raw (.int .u64 0), .raw (.int .u64 0), .raw (.int .i64 0), .raw (.int .i64 0), .list 0 [] .full])], [], [], 0, false⟩) rfl rfl rfl rfl (by dsimp only [aput, List.set]) rfl ?_
        refine w_op (a := .raw (.int .i64 s1)) rfl rfl rfl rfl (by dsimp only [aput, List.set]) ?_
        refine w_opm (σ'' := ⟨[(29, (Enc.cells (x1 : Tr)))], [], [], 0, false⟩) rfl rfl rfl (op_storeW (n := 8) rfl rfl rfl rfl rfl rfl rfl rfl (by decide)) (by dsimp only [aput, List.set]) rfl ?_
        refine w_seq ?_
        refine w_seq (w_region ?_)
        refine w_op (a := .raw (.int .i64 s1)) rfl rfl rfl rfl (by dsimp only [aput, List.set]) ?_
        refine w_op (a := .list (List.length (b : List Tr)) (Enc.cellsL (b : List Tr)) .none) rfl rfl rfl rfl (by dsimp only [aput, List.set]) ?_
        refine w_op (a := .raw (.int .i64 (List.length b : Int))) rfl rfl rfl rfl (by dsimp only [aput, List.set]) ?_
        refine w_op (a := .raw (.bool (decide (s1 ≥ (List.length b : Int))))) rfl rfl rfl rfl (by dsimp only [aput, List.set]) ?_
        refine bif_e h (fun hc2 h => ?_) (fun hc2 h => ?_)
        ·
          refine w_condT hc2 rfl ?_
          refine w_seq (w_region ?_)
          refine w_op (a := .raw (.int .i64 1)) rfl rfl rfl rfl (by dsimp only [aput, List.set]) ?_
          refine loop_exit h (fun h => ?_)
          replace h := cut_inr h hr1
          exact end_pureF (fun (r : Int) => (.raw (.int .i64 r) : AV)) h (a := .raw (.int .i64 1)) rfl rfl rfl
        ·
          refine w_condF hc2 rfl ?_
          refine w_seq (w_region ?_)
          refine w_op (a := .list (List.length (b : List Tr)) (Enc.cellsL (b : List Tr)) .none) rfl rfl rfl rfl (by dsimp only [aput, List.set]) ?_
          refine w_op (a := .raw (.int .i64 s1)) rfl rfl rfl rfl (by dsimp only [aput, List.set]) ?_
          obtain ⟨g2, h⟩ := chk_e h
          obtain ⟨x2, hx2, h⟩ := letE_e h
          refine w_op (a := .iptr (Enc.cells x2 ++ Enc.cellsL (List.drop (Int.toNat s1 + 1) b))) rfl rfl rfl (op_q (by rw [← hx2]; exact (q_idx (α := Tr) (l := b) g2 rfl rfl rfl rfl rfl))) (by dsimp only [aput, List.set]) ?_
          refine w_op (a := .agg (Enc.cells (x2 : Tr))) rfl rfl rfl rfl (by dsimp only [aput, List.set]) ?_
          refine w_opm (a := .ptr 1 0) (σ'' := ⟨[(29, (Enc.cells (x1 : Tr))), (29, [.raw (.int .u8 0), .raw (.int .u64 0), .raw (.int .u64 0), .raw (.int .u64 0), .raw (.int .u64 0), .raw (.int .i64 0), .raw (.int .i64 0), .list 0 [] .full])], [], [], 0, false⟩) rfl rfl rfl rfl (by dsimp only [aput, List.set]) rfl ?_
          refine w_opm (σ'' := ⟨[(29, (Enc.cells (x1 : Tr))), (29, (Enc.cells (x2 : Tr)))], [], [], 0, false⟩) rfl rfl rfl (op_storeW (n := 8) rfl rfl rfl rfl rfl rfl rfl rfl (by decide)) (by dsimp only [aput, List.set]) rfl ?_
          refine w_seq (w_region ?_)
          refine w_op (a := .clos 44 []) rfl rfl rfl rfl (by dsimp only [aput, List.set]) ?_
          refine w_op (a := .agg (Enc.cells (x1 : Tr))) rfl rfl rfl rfl (by dsimp only [aput, List.set]) ?_
          refine w_op (a := .agg (Enc.cells (x2 : Tr))) rfl rfl rfl rfl (by dsimp only [aput, List.set]) ?_
          obtain ⟨g3, h⟩ := chk_e h
          obtain ⟨x3, hx3, h⟩ := letE_e h
          refine w_callc (args' := [.agg (Enc.cells (x1 : Tr)), .agg (Enc.cells (x2 : Tr))]) (r := .raw (.int .i64 x3)) (by rw [← hx3]; exact (ih x1 x2 g3)) rfl rfl (stripL_cons (strip_c (clo_agg (Enc.clo _))) (stripL_cons (strip_c (clo_agg (Enc.clo _))) rfl)) (okTrimL_cons (okTrim_clo _ _ (clo_agg (Enc.clo _))) (okTrimL_cons (okTrim_clo _ _ (clo_agg (Enc.clo _))) rfl)) (by dsimp only [aput, List.set]) ?_
          refine w_op (a := .raw (.int .i64 x3)) rfl rfl rfl rfl (by dsimp only [aput, List.set]) ?_
          refine w_seq (w_region ?_)
          refine w_op (a := .raw (.int .i64 x3)) rfl rfl rfl rfl (by dsimp only [aput, List.set]) ?_
          refine w_op (a := .raw (.bool (x3 != 0))) rfl rfl rfl rfl (by dsimp only [aput, List.set]) ?_
          refine bif_e h (fun hc3 h => ?_) (fun hc3 h => ?_)
          ·
            refine w_condT hc3 rfl ?_
            refine w_seq (w_region ?_)
            refine w_op (a := .raw (.int .i64 x3)) rfl rfl rfl rfl (by dsimp only [aput, List.set]) ?_
            refine w_op (a := .raw (.int .i64 x3)) rfl rfl rfl rfl (by dsimp only [aput, List.set]) ?_
            refine loop_exit h (fun h => ?_)
            replace h := cut_inr h hr1
            exact end_pureF (fun (r : Int) => (.raw (.int .i64 r) : AV)) h (a := .raw (.int .i64 x3)) rfl rfl rfl
          ·
            refine w_condF hc3 rfl ?_
            refine w_region (id := 10) ?_
            obtain ⟨g4, h⟩ := chk_e h
            refine w_op (a := .raw (.int .i64 (s1 + 1))) rfl rfl rfl (op_q (q_add rfl rfl rfl rfl g4.1 g4.2)) (by dsimp only [aput, List.set]) ?_
            refine w_op (a := .raw (.int .i64 (s1 + 1))) rfl rfl rfl rfl (by dsimp only [aput, List.set]) ?_
            refine loop_next (p := p1) ((s1 + 1)) h ?_
            exact wm_trim [true, true, true, false, false, false, false, false, false, false, false, true, true, true, false, false, false, false, false, false, false, false, false, false, false, false, false, false, false, false, false, false, false, false, false, false, false, false, false] 0 (by kernel_rfl) (Nat.le_of_ble_eq_true rfl) (okSt_of rfl) (by dsimp only [setAll, topAll, List.foldl, List.set]; exact (okTrimL_cons (okTrim_l (Enc.cloL _)) (okTrimL_cons (okTrim_l (Enc.cloL _)) (okTrimL_cons (show okTrimL _ _ = true from rfl) (okTrimL_cons rfl (okTrimL_cons rfl (okTrimL_cons rfl (okTrimL_cons rfl (okTrimL_cons rfl (okTrimL_cons rfl (okTrimL_cons rfl (okTrimL_cons rfl (okTrimL_cons (okTrim_l (Enc.cloL _)) (okTrimL_cons rfl (okTrimL_cons rfl (okTrimL_cons rfl (okTrimL_cons rfl (okTrimL_cons rfl (okTrimL_cons rfl (okTrimL_cons rfl (okTrimL_cons rfl (okTrimL_cons rfl (okTrimL_cons rfl (okTrimL_cons rfl (okTrimL_cons rfl (okTrimL_cons rfl (okTrimL_cons rfl (okTrimL_cons rfl (okTrimL_cons rfl (okTrimL_cons rfl (okTrimL_cons rfl (okTrimL_cons rfl (okTrimL_cons rfl (okTrimL_cons rfl (okTrimL_cons rfl (okTrimL_cons rfl (okTrimL_cons rfl (okTrimL_cons rfl (okTrimL_cons rfl (okTrimL_cons rfl rfl)))))))))))))))))))))))))))))))))))))))) (by kernel_rfl)
      ·
        refine w_condF hc1 rfl ?_
        refine loop_exit h (fun h => ?_)
        refine cut_done (o := or1) () h ?_
        exact wm_of [true, true, false, false, false, false, false, false, false, false, false, false, false, false, false, false, false, false, false, false, false, false, false, false, false, false, false, false, false, false, false, false, false, false, false, false, false, false, false] (by kernel_rfl) (by kernel_rfl)
  ·
    intro j1 h
    refine w_start (by dsimp only [setAll, topAll, List.foldl, List.set]) rfl ?_
    refine w_seq ?_
    refine w_seq (w_region ?_)
    refine w_op (a := .list (List.length (a : List Tr)) (Enc.cellsL (a : List Tr)) .none) rfl rfl rfl rfl (by dsimp only [aput, List.set]) ?_
    refine w_op (a := .raw (.int .i64 (List.length a : Int))) rfl rfl rfl rfl (by dsimp only [aput, List.set]) ?_
    refine w_op (a := .list (List.length (b : List Tr)) (Enc.cellsL (b : List Tr)) .none) rfl rfl rfl rfl (by dsimp only [aput, List.set]) ?_
    refine w_op (a := .raw (.int .i64 (List.length b : Int))) rfl rfl rfl rfl (by dsimp only [aput, List.set]) ?_
    refine w_op (a := .raw (.bool (decide ((List.length a : Int) < (List.length b : Int))))) rfl rfl rfl rfl (by dsimp only [aput, List.set]) ?_
    refine bif_e h (fun hc4 h => ?_) (fun hc4 h => ?_)
    ·
      refine w_condT hc4 rfl ?_
      refine w_seq (w_region ?_)
      refine w_op (a := .raw (.int .i64 (-1))) rfl rfl rfl rfl (by dsimp only [aput, List.set]) ?_
      exact end_pureF (fun (r : Int) => (.raw (.int .i64 r) : AV)) h (a := .raw (.int .i64 (-1))) rfl rfl rfl
    ·
      refine w_condF hc4 rfl ?_
      refine w_seq (w_region ?_)
      refine w_op (a := .raw (.int .i64 0)) rfl rfl rfl rfl (by dsimp only [aput, List.set]) ?_
      exact end_pureF (fun (r : Int) => (.raw (.int .i64 r) : AV)) h (a := .raw (.int .i64 0)) rfl rfl rfl
def F_cmpt (fuel : Nat) (n : Nat) (a : Tr) (b : Tr) : Option Int :=
  (bif (((a.k : Nat) : Int) != ((b.k : Nat) : Int)) then (bindE (F_cmp8 ((a.k : Nat) : Int) ((b.k : Nat) : Int)) (fun x1 => (some x1))) else (cutE (τ := Unit) (bif (((a.k : Nat) : Int) == 2) then (bindE (F_setcmp a.s b.s) (fun x2 => (some (Sum.inr x2)))) else (bif (((a.k : Nat) : Int) == 5) then (bindE (F_cmp64 a.mn b.mn) (fun x3 => (bindE (F_most a) (fun x4 => (bindE (F_most b) (fun x5 => (bindE (F_cmp64 x4 x5) (fun x6 => (bindE (F_cmpOr fuel [x3, x6]) (fun x7 => (bif (x7 != 0) then (some (Sum.inr x7)) else (some (Sum.inl ()))))))))))))) else (cutE (τ := Bool) (bif (((a.k : Nat) : Int) == 0) then (some (Sum.inl ((((a.k : Nat) : Int) == 0)))) else (some (Sum.inl ((((a.k : Nat) : Int) == 1))))) (fun j2 => (bif j2 then (some (Sum.inr 0)) else (some (Sum.inl ()))))))) (fun j1 => (bindE (F_cmpf fuel n a.l b.l) (fun x8 => (some x8))))))
theorem ent44 : Ent Try.prog 44 := enters_of Try.func44 (by kernel_rfl) rfl
set_option maxRecDepth 100000 in
set_option maxHeartbeats 4000000 in
theorem cmpt_sh (fuel : Nat) (n : Nat) (a : Tr) (b : Tr) (r : Int) (ih : ∀ x y : Tr, (pre x).length < n ∧ (pre y).length < n → Pure (ITP Try.prog) Try.prog 44 [.agg (Enc.cells x), .agg (Enc.cells y)] (.raw (.int .i64 (cmpT x y)))) (h : F_cmpt fuel n a b = some r) : Pure (ITP Try.prog) Try.prog 44 [.agg (Enc.cells (a : Tr)), .agg (Enc.cells (b : Tr))] (.raw (.int .i64 r)) := by
  obtain ⟨d, hd⟩ : ∃ d, Try.f44.body = some d := ⟨_, rfl⟩
  refine pure_of mix Try.func44 hd ent44 ?_
  cases hd
  unfold F_cmpt at h
  refine w_start (by dsimp only [abeginS, Try.f44, List.length_cons, List.length_nil, Nat.zero_add, Nat.reduceAdd, Nat.reduceSub, List.replicate, List.cons_append, List.nil_append]) (by dsimp only [St.empty]) ?_
  refine w_seq (w_region ?_)
  refine w_opm (a := .ptr 0 0) (σ'' := ⟨[(29, (Enc.cells (a : Tr)))], [], [], 0, false⟩) rfl rfl rfl rfl (by dsimp only [aput, List.set]) rfl ?_
  refine w_opm (a := .ptr 1 0) (σ'' := ⟨[(29, (Enc.cells (a : Tr))), (29, (Enc.cells (b : Tr)))], [], [], 0, false⟩) rfl rfl rfl rfl (by dsimp only [aput, List.set]) rfl ?_
  refine w_op (a := .raw (.int .i64 0)) rfl rfl rfl rfl (by dsimp only [aput, List.set]) ?_
  refine w_seq ?_
  refine w_seq (w_region ?_)
  refine w_op (a := .ptr 0 0) rfl rfl rfl rfl (by dsimp only [aput, List.set]) ?_
  refine w_op (a := .raw (.int .u8 ((a.k : Nat) : Int))) rfl rfl rfl rfl (by dsimp only [aput, List.set]) ?_
  refine w_op (a := .ptr 1 0) rfl rfl rfl rfl (by dsimp only [aput, List.set]) ?_
  refine w_op (a := .raw (.int .u8 ((b.k : Nat) : Int))) rfl rfl rfl rfl (by dsimp only [aput, List.set]) ?_
  refine w_op (a := .raw (.bool (((a.k : Nat) : Int) != ((b.k : Nat) : Int)))) rfl rfl rfl rfl (by dsimp only [aput, List.set]) ?_
  refine bif_e h (fun hc1 h => ?_) (fun hc1 h => ?_)
  ·
    refine w_condT hc1 rfl ?_
    refine w_seq (w_region ?_)
    refine w_op (a := .ptr 0 0) rfl rfl rfl rfl (by dsimp only [aput, List.set]) ?_
    refine w_op (a := .raw (.int .u8 ((a.k : Nat) : Int))) rfl rfl rfl rfl (by dsimp only [aput, List.set]) ?_
    refine w_op (a := .ptr 1 0) rfl rfl rfl rfl (by dsimp only [aput, List.set]) ?_
    refine w_op (a := .raw (.int .u8 ((b.k : Nat) : Int))) rfl rfl rfl rfl (by dsimp only [aput, List.set]) ?_
    obtain ⟨x1, hx1, h⟩ := bindE_e h
    refine w_callc (args' := [.raw (.int .u8 ((a.k : Nat) : Int)), .raw (.int .u8 ((b.k : Nat) : Int))]) (r := .raw (.int .i64 x1)) (cmp8_sh ((a.k : Nat) : Int) ((b.k : Nat) : Int) x1 hx1) rfl rfl (stripL_cons rfl (stripL_cons rfl rfl)) (okTrimL_cons rfl (okTrimL_cons rfl rfl)) (by dsimp only [aput, List.set]) ?_
    refine w_op (a := .raw (.int .i64 x1)) rfl rfl rfl rfl (by dsimp only [aput, List.set]) ?_
    exact end_pureF (fun (r : Int) => (.raw (.int .i64 r) : AV)) h (a := .raw (.int .i64 x1)) rfl rfl rfl
  ·
    refine w_condF hc1 rfl ?_
    refine w_cutF h [0, 1, 4, 5, 6, 7, 8, 9, 10, 11, 12, 13, 14, 15, 16, 17, 18, 19, 20, 21, 22, 23, 24, 25, 26, 27, 28, 29, 30, 31, 32, 33, 34, 35, 36, 37, 38, 39, 40, 41, 42, 43, 44, 45, 46, 47, 48, 49] (fun j1 => []) (fun j1 => ⟨[(29, (Enc.cells (a : Tr))), (29, (Enc.cells (b : Tr)))], [], [], 0, false⟩) ?_ ?_
    ·
      intro or1 h hr1
      refine w_seq (w_region ?_)
      refine w_op (a := .ptr 0 0) rfl rfl rfl rfl (by dsimp only [aput, List.set]) ?_
      refine w_op (a := .raw (.int .u8 ((a.k : Nat) : Int))) rfl rfl rfl rfl (by dsimp only [aput, List.set]) ?_
      refine w_block ?_
      refine w_seq (w_region ?_)
      refine w_op (a := .raw (.bool (((a.k : Nat) : Int) == 2))) rfl rfl rfl rfl (by dsimp only [aput, List.set]) ?_
      refine w_op (a := .raw (.bool (((a.k : Nat) : Int) == 2))) rfl rfl rfl rfl (by dsimp only [aput, List.set]) ?_
      refine bif_e h (fun hc2 h => ?_) (fun hc2 h => ?_)
      ·
        refine w_condT hc2 rfl ?_
        refine w_seq (w_region ?_)
        refine w_op (a := .ptr 0 1) rfl rfl rfl rfl (by dsimp only [aput, List.set]) ?_
        refine w_op (a := .agg (Enc.cells (a.s : BS))) rfl rfl rfl rfl (by dsimp only [aput, List.set]) ?_
        refine w_op (a := .ptr 1 1) rfl rfl rfl rfl (by dsimp only [aput, List.set]) ?_
        refine w_op (a := .agg (Enc.cells (b.s : BS))) rfl rfl rfl rfl (by dsimp only [aput, List.set]) ?_
        obtain ⟨x2, hx2, h⟩ := bindE_e h
        refine w_callc (args' := [.agg (Enc.cells (a.s : BS)), .agg (Enc.cells (b.s : BS))]) (r := .raw (.int .i64 x2)) (setcmp_sh a.s b.s x2 hx2) rfl rfl (stripL_cons (strip_c (clo_agg (Enc.clo _))) (stripL_cons (strip_c (clo_agg (Enc.clo _))) rfl)) (okTrimL_cons (okTrim_clo _ _ (clo_agg (Enc.clo _))) (okTrimL_cons (okTrim_clo _ _ (clo_agg (Enc.clo _))) rfl)) (by dsimp only [aput, List.set]) ?_
        refine w_op (a := .raw (.int .i64 x2)) rfl rfl rfl rfl (by dsimp only [aput, List.set]) ?_
        replace h := cut_inr h hr1
        exact end_pureF (fun (r : Int) => (.raw (.int .i64 r) : AV)) h (a := .raw (.int .i64 x2)) rfl rfl rfl
      ·
        refine w_condF hc2 rfl ?_
        refine w_seq (w_region ?_)
        refine w_op (a := .raw (.bool (((a.k : Nat) : Int) == 5))) rfl rfl rfl rfl (by dsimp only [aput, List.set]) ?_
        refine w_op (a := .raw (.bool (((a.k : Nat) : Int) == 5))) rfl rfl rfl rfl (by dsimp only [aput, List.set]) ?_
        refine bif_e h (fun hc3 h => ?_) (fun hc3 h => ?_)
        ·
          refine w_condT hc3 rfl ?_
          refine w_seq ?_
          refine w_draw (id := 7) 8 (by kernel_rfl) (by kernel_rfl) ?_
          refine h_op (a := .ptr 0 5) rfl rfl rfl rfl (by dsimp only [aput, List.set]) ?_
          refine h_op (a := .raw (.int .i64 a.mn)) rfl rfl rfl rfl (by dsimp only [aput, List.set]) ?_
          refine h_op (a := .ptr 1 5) rfl rfl rfl rfl (by dsimp only [aput, List.set]) ?_
          refine h_op (a := .raw (.int .i64 b.mn)) rfl rfl rfl rfl (by dsimp only [aput, List.set]) ?_
          obtain ⟨x3, hx3, h⟩ := bindE_e h
          refine h_call (args' := [.raw (.int .i64 a.mn), .raw (.int .i64 b.mn)]) (r := .raw (.int .i64 x3)) (cmp64_sh a.mn b.mn x3 hx3) rfl rfl rfl (stripL_cons rfl (stripL_cons rfl rfl)) (okTrimL_cons rfl (okTrimL_cons rfl rfl)) (by dsimp only [aput, List.set]) ?_
          refine h_op (a := .agg (Enc.cells (a : Tr))) rfl rfl rfl rfl (by dsimp only [aput, List.set]) ?_
          obtain ⟨x4, hx4, h⟩ := bindE_e h
          refine h_call (args' := [.agg (Enc.cells (a : Tr))]) (r := .raw (.int .i64 x4)) (most_sh a x4 hx4) rfl rfl rfl (stripL_cons (strip_c (clo_agg (Enc.clo _))) rfl) (okTrimL_cons (okTrim_clo _ _ (clo_agg (Enc.clo _))) rfl) (by dsimp only [aput, List.set]) ?_
          refine h_op (a := .agg (Enc.cells (b : Tr))) rfl rfl rfl rfl (by dsimp only [aput, List.set]) ?_
          refine h_end ?_
          obtain ⟨x5, hx5, h⟩ := bindE_e h
          refine w_callc (args' := [.agg (Enc.cells (b : Tr))]) (r := .raw (.int .i64 x5)) (most_sh b x5 hx5) rfl rfl (stripL_cons (strip_c (clo_agg (Enc.clo _))) rfl) (okTrimL_cons (okTrim_clo _ _ (clo_agg (Enc.clo _))) rfl) (by dsimp only [aput, List.set]) ?_
          obtain ⟨x6, hx6, h⟩ := bindE_e h
          refine w_callc (args' := [.raw (.int .i64 x4), .raw (.int .i64 x5)]) (r := .raw (.int .i64 x6)) (cmp64_sh x4 x5 x6 hx6) rfl rfl (stripL_cons rfl (stripL_cons rfl rfl)) (okTrimL_cons rfl (okTrimL_cons rfl rfl)) (by dsimp only [aput, List.set]) ?_
          refine w_op (a := .list (List.length ([x3, x6] : List Int)) (Enc.cellsL ([x3, x6] : List Int)) .full) rfl rfl rfl (op_q (q_lit (α := Int) (l := [x3, x6]) (cs := Enc.cells (x3 : Int) ++ (Enc.cells (x6 : Int) ++ [])) rfl (by rw [Enc.cons, Enc.cons, Enc.nil]))) (by dsimp only [aput, List.set]) ?_
          obtain ⟨x7, hx7, h⟩ := bindE_e h
          refine w_callc (args' := [.list (List.length ([x3, x6] : List Int)) (Enc.cellsL ([x3, x6] : List Int)) .none]) (r := .raw (.int .i64 x7)) (cmpOr_sh fuel [x3, x6] x7 hx7) rfl rfl (stripL_cons (strip_l (Enc.cloL _)) rfl) (okTrimL_cons (okTrim_l (Enc.cloL _)) rfl) (by dsimp only [aput, List.set]) ?_
          refine w_op (a := .raw (.int .i64 x7)) rfl rfl rfl rfl (by dsimp only [aput, List.set]) ?_
          refine w_seq (w_region ?_)
          refine w_op (a := .raw (.int .i64 x7)) rfl rfl rfl rfl (by dsimp only [aput, List.set]) ?_
          refine w_op (a := .raw (.bool (x7 != 0))) rfl rfl rfl rfl (by dsimp only [aput, List.set]) ?_
          refine bif_e h (fun hc4 h => ?_) (fun hc4 h => ?_)
          ·
            refine w_condT hc4 rfl ?_
            refine w_seq (w_region ?_)
            refine w_op (a := .raw (.int .i64 x7)) rfl rfl rfl rfl (by dsimp only [aput, List.set]) ?_
            refine w_op (a := .raw (.int .i64 x7)) rfl rfl rfl rfl (by dsimp only [aput, List.set]) ?_
            replace h := cut_inr h hr1
            exact end_pureF (fun (r : Int) => (.raw (.int .i64 r) : AV)) h (a := .raw (.int .i64 x7)) rfl rfl rfl
          ·
            refine w_condF hc4 rfl ?_
            refine cut_done (o := or1) () h ?_
            exact wm_of [false, false, true, true, false, false, false, false, false, false, false, false, false, false, false, false, false, false, false, false, false, false, false, false, false, false, false, false, false, false, false, false, false, false, false, false, false, false, false, false, false, false, false, false, false, false, false, false, false, false] (by kernel_rfl) (by kernel_rfl)
        ·
          refine w_condF hc3 rfl ?_
          refine w_cutF h [0, 1, 4, 5, 6, 7, 8, 9, 10, 11, 12, 13, 14, 15, 16, 17, 18, 19, 20, 21, 22, 23, 24, 25, 26, 27, 28, 29, 30, 31, 32, 33, 34, 35, 36, 37, 38, 39, 40, 41, 42, 43, 44, 45, 46, 47, 48, 49] (fun j2 => [(42, .raw (.bool j2))]) (fun j2 => ⟨[(29, (Enc.cells (a : Tr))), (29, (Enc.cells (b : Tr)))], [], [], 0, false⟩) ?_ ?_
          ·
            intro or2 h hr2
            refine w_seq (w_region ?_)
            refine w_op (a := .raw (.bool (((a.k : Nat) : Int) == 0))) rfl rfl rfl rfl (by dsimp only [aput, List.set]) ?_
            refine w_op (a := .raw (.bool (((a.k : Nat) : Int) == 0))) rfl rfl rfl rfl (by dsimp only [aput, List.set]) ?_
            refine bif_e h (fun hc5 h => ?_) (fun hc5 h => ?_)
            ·
              refine w_condT hc5 rfl ?_
              refine cut_done (o := or2) ((((a.k : Nat) : Int) == 0)) h ?_
              exact wm_of [false, false, true, true, false, false, false, false, false, false, false, false, false, false, false, false, false, false, false, false, false, false, false, false, false, false, false, false, false, false, false, false, false, false, false, false, false, false, false, false, false, false, true, false, false, false, false, false, false, false] (by kernel_rfl) (by kernel_rfl)
            ·
              refine w_condF hc5 rfl ?_
              refine w_region (id := 11) ?_
              refine w_op (a := .raw (.bool (((a.k : Nat) : Int) == 1))) rfl rfl rfl rfl (by dsimp only [aput, List.set]) ?_
              refine w_op (a := .raw (.bool (((a.k : Nat) : Int) == 1))) rfl rfl rfl rfl (by dsimp only [aput, List.set]) ?_
              refine cut_done (o := or2) ((((a.k : Nat) : Int) == 1)) h ?_
              exact wm_of [false, false, true, true, false, false, false, false, false, false, false, false, false, false, false, false, false, false, false, false, false, false, false, false, false, false, false, false, false, false, false, false, false, false, false, false, false, false, false, false, false, false, true, false, false, false, false, false, false, false] (by kernel_rfl) (by kernel_rfl)
          ·
            intro j2 h
            refine w_start (by dsimp only [setAll, topAll, List.foldl, List.set]) rfl ?_
            refine bif_e h (fun hc6 h => ?_) (fun hc6 h => ?_)
            ·
              refine w_condT hc6 rfl ?_
              refine w_seq (w_region ?_)
              refine w_op (a := .raw (.int .i64 0)) rfl rfl rfl rfl (by dsimp only [aput, List.set]) ?_
              replace h := cut_inr h hr1
              exact end_pureF (fun (r : Int) => (.raw (.int .i64 r) : AV)) h (a := .raw (.int .i64 0)) rfl rfl rfl
            ·
              refine w_condF hc6 rfl ?_
              refine cut_done (o := or1) () h ?_
              exact wm_of [false, false, true, true, false, false, false, false, false, false, false, false, false, false, false, false, false, false, false, false, false, false, false, false, false, false, false, false, false, false, false, false, false, false, false, false, false, false, false, false, false, false, false, false, false, false, false, false, false, false] (by kernel_rfl) (by kernel_rfl)
    ·
      intro j1 h
      refine w_start (by dsimp only [setAll, topAll, List.foldl, List.set]) rfl ?_
      refine w_seq (w_region ?_)
      refine w_op (a := .ptr 0 7) rfl rfl rfl rfl (by dsimp only [aput, List.set]) ?_
      refine w_op (a := .list (List.length (a.l : List Tr)) (Enc.cellsL (a.l : List Tr)) .none) rfl rfl rfl rfl (by dsimp only [aput, List.set]) ?_
      refine w_op (a := .ptr 1 7) rfl rfl rfl rfl (by dsimp only [aput, List.set]) ?_
      refine w_op (a := .list (List.length (b.l : List Tr)) (Enc.cellsL (b.l : List Tr)) .none) rfl rfl rfl rfl (by dsimp only [aput, List.set]) ?_
      obtain ⟨x8, hx8, h⟩ := bindE_e h
      refine w_callc (args' := [.list (List.length (a.l : List Tr)) (Enc.cellsL (a.l : List Tr)) .none, .list (List.length (b.l : List Tr)) (Enc.cellsL (b.l : List Tr)) .none, .clos 44 []]) (r := .raw (.int .i64 x8)) (cmpf_sh fuel n a.l b.l x8 ih hx8) rfl rfl (stripL_cons (strip_l (Enc.cloL _)) (stripL_cons (strip_l (Enc.cloL _)) (stripL_cons (show AV.clos _ (stripL _) = _ from congrArg (AV.clos _) rfl) rfl))) (okTrimL_cons (okTrim_l (Enc.cloL _)) (okTrimL_cons (okTrim_l (Enc.cloL _)) (okTrimL_cons (show okTrimL _ _ = true from rfl) rfl))) (by dsimp only [aput, List.set]) ?_
      refine w_op (a := .raw (.int .i64 x8)) rfl rfl rfl rfl (by dsimp only [aput, List.set]) ?_
      exact end_pureF (fun (r : Int) => (.raw (.int .i64 r) : AV)) h (a := .raw (.int .i64 x8)) rfl rfl rfl
theorem first_eq (s : BS) : F_first s = some (match els s with | [] => (0, false) | c :: _ => (c, true)) := by
  unfold F_first
  rw [letE]
  generalize els s = l
  cases l with
  | nil => rfl
  | cons c l => rfl
theorem setcmp_eq (a b : BS) : F_setcmp a b = some (cmpS a b) := by
  unfold F_setcmp
  rw [letE, letE, letE, first_eq]
  generalize hd : (a &&& ~~~b) ||| (b &&& ~~~a) = d
  have hf := cmpB_first a.getLsbD b.getLsbD d.getLsbD (List.range 256) (fun j hj => by
    have hj := List.mem_range.1 hj
    rw [← hd]
    simp only [BitVec.getLsbD_or, BitVec.getLsbD_and, BitVec.getLsbD_not, hj, decide_true, Bool.true_and]
    cases a.getLsbD j <;> cases b.getLsbD j <;> rfl)
  rw [cmpS, hf]
  have he : els d = ((List.range 256).filter fun j => d.getLsbD j).map fun (j : Nat) => (j : Int) := rfl
  rw [he]
  have hm : ∀ c ∈ (List.range 256).filter (fun j => d.getLsbD j), c < 256 := fun c hc => List.mem_range.1 (List.mem_filter.1 hc).1
  rw [show (List.range 256).filter d.getLsbD = (List.range 256).filter (fun j => d.getLsbD j) from rfl]
  revert hm
  generalize (List.range 256).filter (fun j => d.getLsbD j) = l
  intro hm
  cases l with
  | nil => rfl
  | cons c l =>
    refine bindE_i _ rfl (bif_f rfl ?_)
    refine bindE_i (a.getLsbD c) (has_eq a c (hm c (by simp))) ?_
    cases h : a.getLsbD c
    · simp [h]
    · simp [h]
theorem cmp64_eq (x y : Int) : F_cmp64 x y = some (cmpI x y) := by
  unfold F_cmp64 F_isNaN cmpI
  simp only [bindE_some, bne_self_eq_false, cond_false]
  by_cases h : x < y
  · simp [h]
  · by_cases h2 : x > y
    · simp [h, h2]
    · simp [h, h2]
theorem cmp8_eq (x y : Int) : F_cmp8 x y = some (cmpI x y) := by
  unfold F_cmp8 F_isNaN8 cmpI
  simp only [bindE_some, bne_self_eq_false, cond_false]
  by_cases h : x < y
  · simp [h]
  · by_cases h2 : x > y
    · simp [h, h2]
    · simp [h, h2]
theorem most_eq (t : Tr) : F_most t = some (mostN t.mx) := by
  unfold F_most mostN
  by_cases h : t.mx = -1
  · simp [h]
  · rw [show (t.mx == -1) = false by simpa using h, if_neg h]; rfl
theorem cmpOr_eq (n : Nat) (x y : Int) : F_cmpOr (n + 3) [x, y] = some (thenC x y) := by
  unfold F_cmpOr thenC
  by_cases hx : x = 0
  · by_cases hy : y = 0
    · subst hx hy; rfl
    · subst hx
      have : (y != 0) = true := by simpa using hy
      simp [loopE, chk, ix, this]
  · have : (x != 0) = true := by simpa using hx
    simp [loopE, chk, ix, this, hx]
theorem ix_nat {α : Type} [Enc α] {l : List α} {i : Nat} (h : i < l.length) : ix l (i : Int) = l[i] := by simp [ix, h]
theorem cmpf_eq (n : Nat) (a b : List Tr) (ha : ∀ x ∈ a, (pre x).length < n) (hb : ∀ x ∈ b, (pre x).length < n) (hl : a.length < 2 ^ 60) (m : Nat) (hm : a.length < m) : F_cmpf m n a b = some (cmpL a b) := by
  unfold F_cmpf
  refine loopC_i a.length (fun i => (i : Int)) (fun i => some (cmpL (a.drop i) (b.drop i))) hm fun i hi => ?_
  by_cases h : i < a.length
  · have ea : a.drop i = a[i] :: a.drop (i + 1) := List.drop_eq_getElem_cons h
    by_cases h2 : i < b.length
    · have eb : b.drop i = b[i] :: b.drop (i + 1) := List.drop_eq_getElem_cons h2
      have hA := ha a[i] (List.getElem_mem h)
      have hB := hb b[i] (List.getElem_mem h2)
      by_cases h0 : cmpT a[i] b[i] = 0
      · refine .inl ⟨h, ?_, by simp only [ea, eb, cmpL, thenC, h0]; simp⟩
        refine bif_t (by simpa using h) (chk_i ⟨by omega, by omega⟩ (letE_i fun x1 e1 => bif_f (by simp; omega) (chk_i ⟨by omega, by omega⟩ (letE_i fun x2 e2 => ?_))))
        rw [ix_nat h] at e1
        rw [ix_nat h2] at e2
        subst e1 e2
        refine chk_i ⟨hA, hB⟩ (letE_i fun x3 e3 => bif_f (by rw [← e3, h0]; rfl) (chk_i (by omega) ?_))
        simp
      · refine .inr ⟨.inr (cmpT a[i] b[i]), ?_, by simp only [ea, eb, cmpL, thenC]; rw [if_pos h0]; rfl⟩
        refine bif_t (by simpa using h) (chk_i ⟨by omega, by omega⟩ (letE_i fun x1 e1 => bif_f (by simp; omega) (chk_i ⟨by omega, by omega⟩ (letE_i fun x2 e2 => ?_))))
        rw [ix_nat h] at e1
        rw [ix_nat h2] at e2
        subst e1 e2
        refine chk_i ⟨hA, hB⟩ (letE_i fun x3 e3 => bif_t (by rw [← e3]; simpa using h0) ?_)
        rw [← e3]
    · refine .inr ⟨.inr 1, ?_, ?_⟩
      · exact bif_t (by simpa using h) (chk_i ⟨by omega, by omega⟩ (letE_i fun x1 e1 => bif_t (by simp; omega) rfl))
      · show some 1 = some (cmpL (a.drop i) (b.drop i))
        rw [ea, List.drop_of_length_le (show b.length ≤ i by omega), cmpL]
  · refine .inr ⟨.inl (), bif_f (by simp; omega) rfl, ?_⟩
    have ea : a.drop i = [] := List.drop_of_length_le (by omega)
    show (bif decide ((a.length : Int) < (b.length : Int)) then some (-1) else some 0) = some (cmpL (a.drop i) (b.drop i))
    rw [ea]
    by_cases h2 : a.length < b.length
    · have eb : b.drop i = b[i] :: b.drop (i + 1) := List.drop_eq_getElem_cons (by omega)
      rw [eb, cmpL, show decide ((a.length : Int) < (b.length : Int)) = true by simp; omega]; rfl
    · rw [List.drop_of_length_le (show b.length ≤ i by omega), cmpL, show decide ((a.length : Int) < (b.length : Int)) = false by simp; omega]; rfl
theorem cmpt_eq (n : Nat) (a b : Tr) (ha : (pre a).length < n + 1) (hb : (pre b).length < n + 1) (hn : n < 2 ^ 60) : F_cmpt (n + 4) n a b = some (cmpT a b) := by
  obtain ⟨k, s, mn, mx, l⟩ := a
  obtain ⟨k', s', mn', mx', l'⟩ := b
  have sub : ∀ (k : Nat) (s : BS) (mn mx : Int) (l : List Tr), (pre (Tr.mk k s mn mx l)).length < n + 1 → (∀ x ∈ l, (pre x).length < n) ∧ l.length < n := fun k s mn mx l h => by
    rw [pre, List.length_cons] at h
    exact ⟨fun x hx => by have := pre_le_preL hx; omega, by have := length_le_preL l; omega⟩
  obtain ⟨a1, a2⟩ := sub _ _ _ _ _ ha
  obtain ⟨b1, b2⟩ := sub _ _ _ _ _ hb
  have hf := cmpf_eq n l l' a1 b1 (by omega) (n + 4) (by omega)
  unfold F_cmpt
  simp only [Tr.k, Tr.s, Tr.mn, Tr.mx, Tr.l, cmp8_eq, cmp64_eq, setcmp_eq, most_eq, bindE_some, hf]
  rw [show n + 4 = (n + 1) + 3 by omega, cmpOr_eq, cmpT]
  simp only [bindE_some]
  by_cases e : k = k'
  · subst e
    refine bif_f (by simp) ?_
    simp only [ne_eq, not_true_eq_false, if_false]
    by_cases h2 : k = 2
    · subst h2; rfl
    · have e2 : (((k : Nat) : Int) == 2) = false := by simp; omega
      rw [e2, cond_false, if_neg h2]
      by_cases h5 : k = 5
      · subst h5
        rw [if_pos rfl]
        rw [show ((((5 : Nat) : Int)) == 5) = true from rfl, cond_true]
        generalize thenC (cmpI mn mn') (cmpI (mostN mx) (mostN mx')) = c
        by_cases hc : c = 0
        · subst hc; rfl
        · rw [show (c != 0) = true by simpa using hc, thenC, if_pos hc]; rfl
      · have e5 : (((k : Nat) : Int) == 5) = false := by simp; omega
        rw [e5, cond_false, if_neg h5]
        by_cases h0 : k = 0
        · subst h0; rfl
        · have e0 : (((k : Nat) : Int) == 0) = false := by simp; omega
          rw [e0, cond_false]
          by_cases h1 : k = 1
          · subst h1; rfl
          · have e1 : (((k : Nat) : Int) == 1) = false := by simp; omega
            rw [e1, if_neg (by omega)]; rfl
  · refine bif_t (by simp; omega) ?_
    rw [if_pos e]
theorem cmp_at0 : ∀ (n : Nat), n < 2 ^ 60 + 1 → ∀ a b : Tr, (pre a).length < n ∧ (pre b).length < n → Pure (ITP Try.prog) Try.prog 44 [.agg (Enc.cells a), .agg (Enc.cells b)] (.raw (.int .i64 (cmpT a b)))
  | 0, _ => fun a b h => by omega
  | n + 1, hn => fun a b h => cmpt_sh (n + 4) n a b _ (fun x y hxy => cmp_at0 n (by omega) x y hxy) (cmpt_eq n a b h.1 h.2 (by omega))
theorem cmp_at (a b : Tr) (h : (pre a).length < 2 ^ 60 ∧ (pre b).length < 2 ^ 60) : Pure (ITP Try.prog) Try.prog 44 [.agg (Enc.cells a), .agg (Enc.cells b)] (.raw (.int .i64 (cmpT a b))) := cmp_at0 (2 ^ 60) (by decide) a b h

def F_compare (a : Tr) (b : Tr) : Option Int :=
  (chk ((pre a).length < 2 ^ 61) (letE (lightT a) (fun x1 => (bif (!x1) then (some 0) else (chk ((pre b).length < 2 ^ 61) (letE (lightT b) (fun x2 => (bif (!x2) then (some 0) else (chk ((pre a).length < 2 ^ 60 ∧ (pre b).length < 2 ^ 60) (letE (cmpT a b) (fun x3 => (some x3))))))))))))
theorem ent30 : Ent Try.prog 30 := enters_of Try.func30 (by kernel_rfl) rfl
set_option maxRecDepth 100000 in
set_option maxHeartbeats 4000000 in
theorem compare_sh (a : Tr) (b : Tr) (r : Int) (h : F_compare a b = some r) : Pure (ITP Try.prog) Try.prog 30 [.agg (Enc.cells (a : Tr)), .agg (Enc.cells (b : Tr))] (.raw (.int .i64 r)) := by
  obtain ⟨d, hd⟩ : ∃ d, Try.f30.body = some d := ⟨_, rfl⟩
  refine pure_of mix Try.func30 hd ent30 ?_
  cases hd
  unfold F_compare at h
  refine w_start (by dsimp only [abeginS, Try.f30, List.length_cons, List.length_nil, Nat.zero_add, Nat.reduceAdd, Nat.reduceSub, List.replicate, List.cons_append, List.nil_append]) (by dsimp only [St.empty]) ?_
  refine w_seq (w_region ?_)
  refine w_opm (a := .ptr 0 0) (σ'' := ⟨[(29, (Enc.cells (a : Tr)))], [], [], 0, false⟩) rfl rfl rfl rfl (by dsimp only [aput, List.set]) rfl ?_
  refine w_opm (a := .ptr 1 0) (σ'' := ⟨[(29, (Enc.cells (a : Tr))), (29, (Enc.cells (b : Tr)))], [], [], 0, false⟩) rfl rfl rfl rfl (by dsimp only [aput, List.set]) rfl ?_
  refine w_op (a := .raw (.int .i64 0)) rfl rfl rfl rfl (by dsimp only [aput, List.set]) ?_
  refine w_seq ?_
  refine w_seq (w_region ?_)
  refine w_op (a := .agg (Enc.cells (a : Tr))) rfl rfl rfl rfl (by dsimp only [aput, List.set]) ?_
  obtain ⟨g1, h⟩ := chk_e h
  obtain ⟨x1, hx1, h⟩ := letE_e h
  refine w_callc (args' := [.agg (Enc.cells (a : Tr))]) (r := .raw (.bool x1)) (by rw [← hx1]; exact (k_light a g1)) rfl rfl (stripL_cons (strip_c (clo_agg (Enc.clo _))) rfl) (okTrimL_cons (okTrim_clo _ _ (clo_agg (Enc.clo _))) rfl) (by dsimp only [aput, List.set]) ?_
  refine w_op (a := .raw (.bool (!x1))) rfl rfl rfl rfl (by dsimp only [aput, List.set]) ?_
  refine bif_e h (fun hc1 h => ?_) (fun hc1 h => ?_)
  ·
    refine w_op (a := .raw (.bool true)) rfl rfl rfl (op_q (q_bool rfl hc1)) (by dsimp only [aput, List.set]) ?_
    refine w_pass rfl rfl (by decide) (by dsimp only [aput, List.set]) ?_
    refine w_pass rfl rfl (by decide) (by dsimp only [aput, List.set]) ?_
    refine w_pass rfl rfl (by decide) (by dsimp only [aput, List.set]) ?_
    refine w_op (a := .raw (.bool true)) rfl rfl rfl rfl (by dsimp only [aput, List.set]) ?_
    refine w_true rfl ?_
    refine w_seq (w_region ?_)
    refine w_op (a := .raw (.int .i64 0)) rfl rfl rfl rfl (by dsimp only [aput, List.set]) ?_
    exact end_pureF (fun (r : Int) => (.raw (.int .i64 r) : AV)) h (a := .raw (.int .i64 0)) rfl rfl rfl
  ·
    refine w_op (a := .raw (.bool false)) rfl rfl rfl (op_q (q_bool rfl hc1)) (by dsimp only [aput, List.set]) ?_
    refine w_met rfl rfl ?_
    refine w_op (a := .agg (Enc.cells (b : Tr))) rfl rfl rfl rfl (by dsimp only [aput, List.set]) ?_
    refine w_met rfl rfl ?_
    obtain ⟨g2, h⟩ := chk_e h
    obtain ⟨x2, hx2, h⟩ := letE_e h
    refine w_callc (args' := [.agg (Enc.cells (b : Tr))]) (r := .raw (.bool x2)) (by rw [← hx2]; exact (k_light b g2)) rfl rfl (stripL_cons (strip_c (clo_agg (Enc.clo _))) rfl) (okTrimL_cons (okTrim_clo _ _ (clo_agg (Enc.clo _))) rfl) (by dsimp only [aput, List.set]) ?_
    refine w_met rfl rfl ?_
    refine w_op (a := .raw (.bool (!x2))) rfl rfl rfl rfl (by dsimp only [aput, List.set]) ?_
    refine w_op (a := .raw (.bool (!x2))) rfl rfl rfl rfl (by dsimp only [aput, List.set]) ?_
    refine bif_e h (fun hc2 h => ?_) (fun hc2 h => ?_)
    ·
      refine w_condT hc2 rfl ?_
      refine w_seq (w_region ?_)
      refine w_op (a := .raw (.int .i64 0)) rfl rfl rfl rfl (by dsimp only [aput, List.set]) ?_
      exact end_pureF (fun (r : Int) => (.raw (.int .i64 r) : AV)) h (a := .raw (.int .i64 0)) rfl rfl rfl
    ·
      refine w_condF hc2 rfl ?_
      refine w_seq (w_region ?_)
      refine w_op (a := .agg (Enc.cells (a : Tr))) rfl rfl rfl rfl (by dsimp only [aput, List.set]) ?_
      refine w_op (a := .agg (Enc.cells (b : Tr))) rfl rfl rfl rfl (by dsimp only [aput, List.set]) ?_
      obtain ⟨g3, h⟩ := chk_e h
      obtain ⟨x3, hx3, h⟩ := letE_e h
      refine w_callc (args' := [.agg (Enc.cells (a : Tr)), .agg (Enc.cells (b : Tr))]) (r := .raw (.int .i64 x3)) (by rw [← hx3]; exact (cmp_at a b g3)) rfl rfl (stripL_cons (strip_c (clo_agg (Enc.clo _))) (stripL_cons (strip_c (clo_agg (Enc.clo _))) rfl)) (okTrimL_cons (okTrim_clo _ _ (clo_agg (Enc.clo _))) (okTrimL_cons (okTrim_clo _ _ (clo_agg (Enc.clo _))) rfl)) (by dsimp only [aput, List.set]) ?_
      refine w_op (a := .raw (.int .i64 x3)) rfl rfl rfl rfl (by dsimp only [aput, List.set]) ?_
      exact end_pureF (fun (r : Int) => (.raw (.int .i64 r) : AV)) h (a := .raw (.int .i64 x3)) rfl rfl rfl
def F_rxorder (j : (List Sm)) (k : (List Sm)) (l : (List Sm)) : Option Bool :=
  (chk (j.length < 2 ^ 63) (letE (madeT j) (fun x1 => (chk (k.length < 2 ^ 63) (letE (madeT k) (fun x2 => (chk (l.length < 2 ^ 63) (letE (madeT l) (fun x3 => (bindE (F_compare x1 x2) (fun x4 => (bindE (F_compare x2 x1) (fun x5 => (bindE (F_compare x2 x3) (fun x6 => (bindE (F_compare x1 x3) (fun x7 => (cutE (τ := Unit) (chk (-9223372036854775808 ≤ (0 - x5) ∧ (0 - x5) < 9223372036854775808) (bif (x4 != (0 - x5)) then (some (Sum.inr false)) else (bif (decide (x4 < (-1))) then (some (Sum.inr false)) else (bif (decide (x4 > 1)) then (some (Sum.inr false)) else (chk ((pre x1).length < 2 ^ 61 ∧ (pre x2).length < 2 ^ 61) (letE (sameB x1 x2) (fun x8 => (bif (!((x4 == 0) == x8)) then (some (Sum.inr false)) else (bif (decide (x4 ≤ 0)) then (bif (decide (x6 ≤ 0)) then (bif (decide (x7 > 0)) then (some (Sum.inr false)) else (chk ((pre x1).length < 2 ^ 61 ∧ (pre x2).length < 2 ^ 61) (letE (sameB x1 x2) (fun x9 => (chk ((pre x2).length < 2 ^ 61 ∧ (pre x1).length < 2 ^ 61) (letE (sameB x2 x1) (fun x10 => (bif (!(x9 == x10)) then (some (Sum.inr false)) else (chk (j.length < 2 ^ 63) (letE (madeT j) (fun x11 => (chk ((pre x1).length < 2 ^ 61 ∧ (pre x11).length < 2 ^ 61) (letE (sameB x1 x11) (fun x12 => (bif (!x12) then (some (Sum.inr false)) else (some (Sum.inl ()))))))))))))))))) else (chk ((pre x1).length < 2 ^ 61 ∧ (pre x2).length < 2 ^ 61) (letE (sameB x1 x2) (fun x13 => (chk ((pre x2).length < 2 ^ 61 ∧ (pre x1).length < 2 ^ 61) (letE (sameB x2 x1) (fun x14 => (bif (!(x13 == x14)) then (some (Sum.inr false)) else (chk (j.length < 2 ^ 63) (letE (madeT j) (fun x15 => (chk ((pre x1).length < 2 ^ 61 ∧ (pre x15).length < 2 ^ 61) (letE (sameB x1 x15) (fun x16 => (bif (!x16) then (some (Sum.inr false)) else (some (Sum.inl ()))))))))))))))))) else (chk ((pre x1).length < 2 ^ 61 ∧ (pre x2).length < 2 ^ 61) (letE (sameB x1 x2) (fun x17 => (chk ((pre x2).length < 2 ^ 61 ∧ (pre x1).length < 2 ^ 61) (letE (sameB x2 x1) (fun x18 => (bif (!(x17 == x18)) then (some (Sum.inr false)) else (chk (j.length < 2 ^ 63) (letE (madeT j) (fun x19 => (chk ((pre x1).length < 2 ^ 61 ∧ (pre x19).length < 2 ^ 61) (letE (sameB x1 x19) (fun x20 => (bif (!x20) then (some (Sum.inr false)) else (some (Sum.inl ()))))))))))))))))))))))))) (fun j1 => (bif (((x1.k : Nat) : Int) != ((x2.k : Nat) : Int)) then (some ((decide (x4 < 0)) == (decide (((x1.k : Nat) : Int) < ((x2.k : Nat) : Int))))) else (letE (clsT [113]) (fun x21 => (letE (clsT [114]) (fun x22 => (chk ((preL [x21, x1, x22]).length ≤ 2 ^ 40) (letE (seqT [x21, x1, x22]) (fun x23 => (letE (clsT [0]) (fun x24 => (chk ((preL [x23, x24]).length ≤ 2 ^ 40) (letE (seqT [x23, x24]) (fun x25 => (bindE (F_compare x23 x25) (fun x26 => (bif (x26 == (-1)) then (chk ((pre x1).length < 2 ^ 61) (letE (timesT x1 0 5) (fun x27 => (chk ((pre x1).length < 2 ^ 61) (letE (timesT x1 0 (-1)) (fun x28 => (bindE (F_compare x27 x28) (fun x29 => (bif (decide (x29 ≤ 0)) then (letE (Tr.mk 6 0#256 0 0 [x1]) (fun x30 => (letE (Tr.mk 6 0#256 0 0 [x2]) (fun x31 => (bindE (F_compare x30 x31) (fun x32 => (some (x32 == x4)))))))) else (some false)))))))))) else (some false))))))))))))))))))))))))))))))))))))
theorem ent7 : Ent Try.prog 7 := enters_of Try.func7 (by kernel_rfl) rfl
set_option maxRecDepth 100000 in
set_option maxHeartbeats 4000000 in
theorem rxorder_sh (j : (List Sm)) (k : (List Sm)) (l : (List Sm)) (r : Bool) (h : F_rxorder j k l = some r) : Pure (ITP Try.prog) Try.prog 7 [.list (List.length (j : List Sm)) (Enc.cellsL (j : List Sm)) .none, .list (List.length (k : List Sm)) (Enc.cellsL (k : List Sm)) .none, .list (List.length (l : List Sm)) (Enc.cellsL (l : List Sm)) .none] (.raw (.bool r)) := by
  obtain ⟨d, hd⟩ : ∃ d, Try.f7.body = some d := ⟨_, rfl⟩
  refine pure_of mix Try.func7 hd ent7 ?_
  cases hd
  unfold F_rxorder at h
  refine w_start (by dsimp only [abeginS, Try.f7, List.length_cons, List.length_nil, Nat.zero_add, Nat.reduceAdd, Nat.reduceSub, List.replicate, List.cons_append, List.nil_append]) (by dsimp only [St.empty]) ?_
  refine w_seq (w_region ?_)
  refine w_op (a := .raw (.bool false)) rfl rfl rfl rfl (by dsimp only [aput, List.set]) ?_
  refine w_seq ?_
  refine w_seq (w_region ?_)
  refine w_callc (args' := []) (r := .raw (.bool true)) k_awake rfl rfl rfl rfl (by dsimp only [aput, List.set]) ?_
  refine w_op (a := .raw (.bool false)) rfl rfl rfl rfl (by dsimp only [aput, List.set]) ?_
  refine w_false rfl ?_
  refine w_seq (w_region ?_)
  refine w_op (a := .list (List.length (j : List Sm)) (Enc.cellsL (j : List Sm)) .none) rfl rfl rfl rfl (by dsimp only [aput, List.set]) ?_
  obtain ⟨g1, h⟩ := chk_e h
  obtain ⟨x1, hx1, h⟩ := letE_e h
  refine w_callc (args' := [.list (List.length (j : List Sm)) (Enc.cellsL (j : List Sm)) .none]) (r := .agg (Enc.cells (x1 : Tr))) (by rw [← hx1]; exact (k_made j g1)) rfl rfl (stripL_cons (strip_l (Enc.cloL _)) rfl) (okTrimL_cons (okTrim_l (Enc.cloL _)) rfl) (by dsimp only [aput, List.set]) ?_
  refine w_op (a := .list (List.length (k : List Sm)) (Enc.cellsL (k : List Sm)) .none) rfl rfl rfl rfl (by dsimp only [aput, List.set]) ?_
  obtain ⟨g2, h⟩ := chk_e h
  obtain ⟨x2, hx2, h⟩ := letE_e h
  refine w_callc (args' := [.list (List.length (k : List Sm)) (Enc.cellsL (k : List Sm)) .none]) (r := .agg (Enc.cells (x2 : Tr))) (by rw [← hx2]; exact (k_made k g2)) rfl rfl (stripL_cons (strip_l (Enc.cloL _)) rfl) (okTrimL_cons (okTrim_l (Enc.cloL _)) rfl) (by dsimp only [aput, List.set]) ?_
  refine w_op (a := .list (List.length (l : List Sm)) (Enc.cellsL (l : List Sm)) .none) rfl rfl rfl rfl (by dsimp only [aput, List.set]) ?_
  obtain ⟨g3, h⟩ := chk_e h
  obtain ⟨x3, hx3, h⟩ := letE_e h
  refine w_callc (args' := [.list (List.length (l : List Sm)) (Enc.cellsL (l : List Sm)) .none]) (r := .agg (Enc.cells (x3 : Tr))) (by rw [← hx3]; exact (k_made l g3)) rfl rfl (stripL_cons (strip_l (Enc.cloL _)) rfl) (okTrimL_cons (okTrim_l (Enc.cloL _)) rfl) (by dsimp only [aput, List.set]) ?_
  refine w_opm (a := .ptr 0 0) (σ'' := ⟨[(29, [.raw (.int .u8 0), .raw (.int .u64 0), .raw (.int .u64 0), .raw (.int .u64 0), .raw (.int .u64 0), .raw (.int .i64 0), .raw (.int .i64 0), .list 0 [] .full])], [], [], 0, false⟩) rfl rfl rfl rfl (by dsimp only [aput, List.set]) rfl ?_
  refine w_opm (a := .ptr 1 0) (σ'' := ⟨[(29, [.raw (.int .u8 0), .raw (.int .u64 0), .raw (.int .u64 0), .raw (.int .u64 0), .raw (.int .u64 0), .raw (.int .i64 0), .raw (.int .i64 0), .list 0 [] .full]), (29, [.raw (.int .u8 0), .raw (.int .u64 0), .raw (.int .u64 0), .raw (.int .u64 0), .raw (.int .u64 0), .raw (.int .i64 0), .raw (.int .i64 0), .list 0 [] .full])], [], [], 0, false⟩) rfl rfl rfl rfl (by dsimp only [aput, List.set]) rfl ?_
  refine w_opm (a := .ptr 2 0) (σ'' := ⟨[(29, [.raw (.int .u8 0), .raw (.int .u64 0), .raw (.int .u64 0), .raw (.int .u64 0), .raw (.int .u64 0), .raw (.int .i64 0), .raw (.int .i64 0), .list 0 [] .full]), (29, [.raw (.int .u8 0), .raw (.int .u64 0), .raw (.int .u64 0), .raw (.int .u64 0), .raw (.int .u64 0), .raw (.int .i64 0), .raw (.int .i64 0), .list 0 [] .full]), (29, [.raw (.int .u8 0), .raw (.int .u64 0), .raw (.int .u64 0), .raw (.int .u64 0), .raw (.int .u64 0), .raw (.int .i64 0), .raw (.int .i64 0), .list 0 [] .full])], [], [], 0, false⟩) rfl rfl rfl rfl (by dsimp only [aput, List.set]) rfl ?_
  refine w_opm (σ'' := ⟨[(29, (Enc.cells (x1 : Tr))), (29, [.raw (.int .u8 0), .raw (.int .u64 0), .raw (.int .u64 0), .raw (.int .u64 0), .raw (.int .u64 0), .raw (.int .i64 0), .raw (.int .i64 0), .list 0 [] .full]), (29, [.raw (.int .u8 0), .raw (.int .u64 0), .raw (.int .u64 0), .raw (.int .u64 0), .raw (.int .u64 0), .raw (.int .i64 0), .raw (.int .i64 0), .list 0 [] .full])], [], [], 0, false⟩) rfl rfl rfl (op_storeW (n := 8) rfl rfl rfl rfl rfl rfl rfl rfl (by decide)) (by dsimp only [aput, List.set]) rfl ?_
  refine w_opm (σ'' := ⟨[(29, (Enc.cells (x1 : Tr))), (29, (Enc.cells (x2 : Tr))), (29, [.raw (.int .u8 0), .raw (.int .u64 0), .raw (.int .u64 0), .raw (.int .u64 0), .raw (.int .u64 0), .raw (.int .i64 0), .raw (.int .i64 0), .list 0 [] .full])], [], [], 0, false⟩) rfl rfl rfl (op_storeW (n := 8) rfl rfl rfl rfl rfl rfl rfl rfl (by decide)) (by dsimp only [aput, List.set]) rfl ?_
  refine w_opm (σ'' := ⟨[(29, (Enc.cells (x1 : Tr))), (29, (Enc.cells (x2 : Tr))), (29, (Enc.cells (x3 : Tr)))], [], [], 0, false⟩) rfl rfl rfl (op_storeW (n := 8) rfl rfl rfl rfl rfl rfl rfl rfl (by decide)) (by dsimp only [aput, List.set]) rfl ?_
  refine w_seq ?_
  refine w_draw (id := 4) 11 (by kernel_rfl) (by kernel_rfl) ?_
  refine h_op (a := .agg (Enc.cells (x1 : Tr))) rfl rfl rfl rfl (by dsimp only [aput, List.set]) ?_
  refine h_op (a := .agg (Enc.cells (x2 : Tr))) rfl rfl rfl rfl (by dsimp only [aput, List.set]) ?_
  obtain ⟨x4, hx4, h⟩ := bindE_e h
  refine h_call (args' := [.agg (Enc.cells (x1 : Tr)), .agg (Enc.cells (x2 : Tr))]) (r := .raw (.int .i64 x4)) (compare_sh x1 x2 x4 hx4) rfl rfl rfl (stripL_cons (strip_c (clo_agg (Enc.clo _))) (stripL_cons (strip_c (clo_agg (Enc.clo _))) rfl)) (okTrimL_cons (okTrim_clo _ _ (clo_agg (Enc.clo _))) (okTrimL_cons (okTrim_clo _ _ (clo_agg (Enc.clo _))) rfl)) (by dsimp only [aput, List.set]) ?_
  refine h_op (a := .agg (Enc.cells (x2 : Tr))) rfl rfl rfl rfl (by dsimp only [aput, List.set]) ?_
  refine h_op (a := .agg (Enc.cells (x1 : Tr))) rfl rfl rfl rfl (by dsimp only [aput, List.set]) ?_
  obtain ⟨x5, hx5, h⟩ := bindE_e h
  refine h_call (args' := [.agg (Enc.cells (x2 : Tr)), .agg (Enc.cells (x1 : Tr))]) (r := .raw (.int .i64 x5)) (compare_sh x2 x1 x5 hx5) rfl rfl rfl (stripL_cons (strip_c (clo_agg (Enc.clo _))) (stripL_cons (strip_c (clo_agg (Enc.clo _))) rfl)) (okTrimL_cons (okTrim_clo _ _ (clo_agg (Enc.clo _))) (okTrimL_cons (okTrim_clo _ _ (clo_agg (Enc.clo _))) rfl)) (by dsimp only [aput, List.set]) ?_
  refine h_op (a := .agg (Enc.cells (x2 : Tr))) rfl rfl rfl rfl (by dsimp only [aput, List.set]) ?_
  refine h_op (a := .agg (Enc.cells (x3 : Tr))) rfl rfl rfl rfl (by dsimp only [aput, List.set]) ?_
  obtain ⟨x6, hx6, h⟩ := bindE_e h
  refine h_call (args' := [.agg (Enc.cells (x2 : Tr)), .agg (Enc.cells (x3 : Tr))]) (r := .raw (.int .i64 x6)) (compare_sh x2 x3 x6 hx6) rfl rfl rfl (stripL_cons (strip_c (clo_agg (Enc.clo _))) (stripL_cons (strip_c (clo_agg (Enc.clo _))) rfl)) (okTrimL_cons (okTrim_clo _ _ (clo_agg (Enc.clo _))) (okTrimL_cons (okTrim_clo _ _ (clo_agg (Enc.clo _))) rfl)) (by dsimp only [aput, List.set]) ?_
  refine h_op (a := .agg (Enc.cells (x1 : Tr))) rfl rfl rfl rfl (by dsimp only [aput, List.set]) ?_
  refine h_op (a := .agg (Enc.cells (x3 : Tr))) rfl rfl rfl rfl (by dsimp only [aput, List.set]) ?_
  refine h_end ?_
  obtain ⟨x7, hx7, h⟩ := bindE_e h
  refine w_callc (args' := [.agg (Enc.cells (x1 : Tr)), .agg (Enc.cells (x3 : Tr))]) (r := .raw (.int .i64 x7)) (compare_sh x1 x3 x7 hx7) rfl rfl (stripL_cons (strip_c (clo_agg (Enc.clo _))) (stripL_cons (strip_c (clo_agg (Enc.clo _))) rfl)) (okTrimL_cons (okTrim_clo _ _ (clo_agg (Enc.clo _))) (okTrimL_cons (okTrim_clo _ _ (clo_agg (Enc.clo _))) rfl)) (by dsimp only [aput, List.set]) ?_
  refine w_op (a := .raw (.int .i64 x4)) rfl rfl rfl rfl (by dsimp only [aput, List.set]) ?_
  refine w_op (a := .raw (.int .i64 x5)) rfl rfl rfl rfl (by dsimp only [aput, List.set]) ?_
  refine w_op (a := .raw (.int .i64 x6)) rfl rfl rfl rfl (by dsimp only [aput, List.set]) ?_
  refine w_op (a := .raw (.int .i64 x7)) rfl rfl rfl rfl (by dsimp only [aput, List.set]) ?_
  refine w_cutF h [0, 1, 2, 3, 4, 5, 6, 9, 11, 12, 13, 14, 15, 16, 17, 18, 19, 20, 21, 22, 23, 24, 25, 26, 27, 28, 29, 30, 31, 32, 33, 34, 35, 36, 37, 38, 39, 40, 41, 42, 43, 44, 45, 46, 47, 48, 49, 50, 51, 52, 53, 54, 55, 56, 57, 58, 59, 60, 61, 62, 63, 64, 65, 66, 67, 68, 69, 70, 71, 72, 73, 74, 75, 76, 77, 78, 79, 80, 81, 82, 83, 84, 85, 86, 87, 88, 89, 90, 91, 92, 93, 94, 95, 96, 97, 98, 99, 100, 101, 102, 103, 104, 105, 106, 107, 108, 109, 110, 111, 112, 113, 114, 115, 116, 117, 118, 119, 120, 121, 122, 123, 124, 125, 126] (fun j1 => []) (fun j1 => ⟨[(29, (Enc.cells (x1 : Tr))), (29, (Enc.cells (x2 : Tr))), (29, (Enc.cells (x3 : Tr)))], [], [], 0, false⟩) ?_ ?_
  ·
    intro or1 h hr1
    refine w_seq ?_
    refine w_draw (id := 5) 45 (by kernel_rfl) (by kernel_rfl) ?_
    refine h_op (a := .raw (.int .i64 x4)) rfl rfl rfl rfl (by dsimp only [aput, List.set]) ?_
    refine h_op (a := .raw (.int .i64 x5)) rfl rfl rfl rfl (by dsimp only [aput, List.set]) ?_
    obtain ⟨g4, h⟩ := chk_e h
    refine h_op (a := .raw (.int .i64 (0 - x5))) rfl rfl rfl (q_neg64 g4 rfl rfl) (by dsimp only [aput, List.set]) ?_
    refine h_op (a := .raw (.bool (x4 != (0 - x5)))) rfl rfl rfl rfl (by dsimp only [aput, List.set]) ?_
    refine bif_e h (fun hc1 h => ?_) (fun hc1 h => ?_)
    ·
      refine h_op (a := .raw (.bool true)) rfl rfl rfl (q_bool rfl hc1) (by dsimp only [aput, List.set]) ?_
      refine h_pass rfl rfl rfl (by decide) (by dsimp only [aput, List.set]) ?_
      refine h_pass rfl rfl rfl (by decide) (by dsimp only [aput, List.set]) ?_
      refine h_op (a := .raw (.bool true)) rfl rfl rfl rfl (by dsimp only [aput, List.set]) ?_
      refine h_op (a := .raw (.bool true)) rfl rfl rfl rfl (by dsimp only [aput, List.set]) ?_
      refine h_pass rfl rfl rfl (by decide) (by dsimp only [aput, List.set]) ?_
      refine h_pass rfl rfl rfl (by decide) (by dsimp only [aput, List.set]) ?_
      refine h_op (a := .raw (.bool true)) rfl rfl rfl rfl (by dsimp only [aput, List.set]) ?_
      refine h_op (a := .raw (.bool true)) rfl rfl rfl rfl (by dsimp only [aput, List.set]) ?_
      refine h_pass rfl rfl rfl (by decide) (by dsimp only [aput, List.set]) ?_
      refine h_pass rfl rfl rfl (by decide) (by dsimp only [aput, List.set]) ?_
      refine h_pass rfl rfl rfl (by decide) (by dsimp only [aput, List.set]) ?_
      refine h_pass rfl rfl rfl (by decide) (by dsimp only [aput, List.set]) ?_
      refine h_pass rfl rfl rfl (by decide) (by dsimp only [aput, List.set]) ?_
      refine h_pass rfl rfl rfl (by decide) (by dsimp only [aput, List.set]) ?_
      refine h_op (a := .raw (.bool true)) rfl rfl rfl rfl (by dsimp only [aput, List.set]) ?_
      refine h_op (a := .raw (.bool true)) rfl rfl rfl rfl (by dsimp only [aput, List.set]) ?_
      refine h_pass rfl rfl rfl (by decide) (by dsimp only [aput, List.set]) ?_
      refine h_pass rfl rfl rfl (by decide) (by dsimp only [aput, List.set]) ?_
      refine h_pass rfl rfl rfl (by decide) (by dsimp only [aput, List.set]) ?_
      refine h_pass rfl rfl rfl (by decide) (by dsimp only [aput, List.set]) ?_
      refine h_pass rfl rfl rfl (by decide) (by dsimp only [aput, List.set]) ?_
      refine h_pass rfl rfl rfl (by decide) (by dsimp only [aput, List.set]) ?_
      refine h_pass rfl rfl rfl (by decide) (by dsimp only [aput, List.set]) ?_
      refine h_pass rfl rfl rfl (by decide) (by dsimp only [aput, List.set]) ?_
      refine h_pass rfl rfl rfl (by decide) (by dsimp only [aput, List.set]) ?_
      refine h_pass rfl rfl rfl (by decide) (by dsimp only [aput, List.set]) ?_
      refine h_op (a := .raw (.bool true)) rfl rfl rfl rfl (by dsimp only [aput, List.set]) ?_
      refine h_op (a := .raw (.bool true)) rfl rfl rfl rfl (by dsimp only [aput, List.set]) ?_
      refine h_pass rfl rfl rfl (by decide) (by dsimp only [aput, List.set]) ?_
      refine h_pass rfl rfl rfl (by decide) (by dsimp only [aput, List.set]) ?_
      refine h_pass rfl rfl rfl (by decide) (by dsimp only [aput, List.set]) ?_
      refine h_pass rfl rfl rfl (by decide) (by dsimp only [aput, List.set]) ?_
      refine h_pass rfl rfl rfl (by decide) (by dsimp only [aput, List.set]) ?_
      refine h_pass rfl rfl rfl (by decide) (by dsimp only [aput, List.set]) ?_
      refine h_pass rfl rfl rfl (by decide) (by dsimp only [aput, List.set]) ?_
      refine h_op (a := .raw (.bool true)) rfl rfl rfl rfl (by dsimp only [aput, List.set]) ?_
      refine h_op (a := .raw (.bool true)) rfl rfl rfl rfl (by dsimp only [aput, List.set]) ?_
      refine h_pass rfl rfl rfl (by decide) (by dsimp only [aput, List.set]) ?_
      refine h_pass rfl rfl rfl (by decide) (by dsimp only [aput, List.set]) ?_
      refine h_pass rfl rfl rfl (by decide) (by dsimp only [aput, List.set]) ?_
      refine h_end ?_
      refine w_pass rfl rfl (by decide) (by dsimp only [aput, List.set]) ?_
      refine w_pass rfl rfl (by decide) (by dsimp only [aput, List.set]) ?_
      refine w_op (a := .raw (.bool true)) rfl rfl rfl rfl (by dsimp only [aput, List.set]) ?_
      refine w_true rfl ?_
      refine w_seq (w_region ?_)
      refine w_op (a := .raw (.bool false)) rfl rfl rfl rfl (by dsimp only [aput, List.set]) ?_
      replace h := cut_inr h hr1
      exact end_pureF (fun (r : Bool) => (.raw (.bool r) : AV)) h (a := .raw (.bool false)) rfl rfl rfl
    ·
      refine h_op (a := .raw (.bool false)) rfl rfl rfl (q_bool rfl hc1) (by dsimp only [aput, List.set]) ?_
      refine h_met rfl rfl ?_
      refine h_op (a := .raw (.int .i64 x4)) rfl rfl rfl rfl (by dsimp only [aput, List.set]) ?_
      refine h_met rfl rfl ?_
      refine h_op (a := .raw (.bool (decide (x4 < (-1))))) rfl rfl rfl rfl (by dsimp only [aput, List.set]) ?_
      refine h_op (a := .raw (.bool (decide (x4 < (-1))))) rfl rfl rfl rfl (by dsimp only [aput, List.set]) ?_
      refine bif_e h (fun hc2 h => ?_) (fun hc2 h => ?_)
      ·
        refine h_op (a := .raw (.bool true)) rfl rfl rfl (q_bool rfl hc2) (by dsimp only [aput, List.set]) ?_
        refine h_pass rfl rfl rfl (by decide) (by dsimp only [aput, List.set]) ?_
        refine h_pass rfl rfl rfl (by decide) (by dsimp only [aput, List.set]) ?_
        refine h_op (a := .raw (.bool true)) rfl rfl rfl rfl (by dsimp only [aput, List.set]) ?_
        refine h_op (a := .raw (.bool true)) rfl rfl rfl rfl (by dsimp only [aput, List.set]) ?_
        refine h_pass rfl rfl rfl (by decide) (by dsimp only [aput, List.set]) ?_
        refine h_pass rfl rfl rfl (by decide) (by dsimp only [aput, List.set]) ?_
        refine h_pass rfl rfl rfl (by decide) (by dsimp only [aput, List.set]) ?_
        refine h_pass rfl rfl rfl (by decide) (by dsimp only [aput, List.set]) ?_
        refine h_pass rfl rfl rfl (by decide) (by dsimp only [aput, List.set]) ?_
        refine h_pass rfl rfl rfl (by decide) (by dsimp only [aput, List.set]) ?_
        refine h_op (a := .raw (.bool true)) rfl rfl rfl rfl (by dsimp only [aput, List.set]) ?_
        refine h_op (a := .raw (.bool true)) rfl rfl rfl rfl (by dsimp only [aput, List.set]) ?_
        refine h_pass rfl rfl rfl (by decide) (by dsimp only [aput, List.set]) ?_
        refine h_pass rfl rfl rfl (by decide) (by dsimp only [aput, List.set]) ?_
        refine h_pass rfl rfl rfl (by decide) (by dsimp only [aput, List.set]) ?_
        refine h_pass rfl rfl rfl (by decide) (by dsimp only [aput, List.set]) ?_
        refine h_pass rfl rfl rfl (by decide) (by dsimp only [aput, List.set]) ?_
        refine h_pass rfl rfl rfl (by decide) (by dsimp only [aput, List.set]) ?_
        refine h_pass rfl rfl rfl (by decide) (by dsimp only [aput, List.set]) ?_
        refine h_pass rfl rfl rfl (by decide) (by dsimp only [aput, List.set]) ?_
        refine h_pass rfl rfl rfl (by decide) (by dsimp only [aput, List.set]) ?_
        refine h_pass rfl rfl rfl (by decide) (by dsimp only [aput, List.set]) ?_
        refine h_op (a := .raw (.bool true)) rfl rfl rfl rfl (by dsimp only [aput, List.set]) ?_
        refine h_op (a := .raw (.bool true)) rfl rfl rfl rfl (by dsimp only [aput, List.set]) ?_
        refine h_pass rfl rfl rfl (by decide) (by dsimp only [aput, List.set]) ?_
        refine h_pass rfl rfl rfl (by decide) (by dsimp only [aput, List.set]) ?_
        refine h_pass rfl rfl rfl (by decide) (by dsimp only [aput, List.set]) ?_
        refine h_pass rfl rfl rfl (by decide) (by dsimp only [aput, List.set]) ?_
        refine h_pass rfl rfl rfl (by decide) (by dsimp only [aput, List.set]) ?_
        refine h_pass rfl rfl rfl (by decide) (by dsimp only [aput, List.set]) ?_
        refine h_pass rfl rfl rfl (by decide) (by dsimp only [aput, List.set]) ?_
        refine h_op (a := .raw (.bool true)) rfl rfl rfl rfl (by dsimp only [aput, List.set]) ?_
        refine h_op (a := .raw (.bool true)) rfl rfl rfl rfl (by dsimp only [aput, List.set]) ?_
        refine h_pass rfl rfl rfl (by decide) (by dsimp only [aput, List.set]) ?_
        refine h_pass rfl rfl rfl (by decide) (by dsimp only [aput, List.set]) ?_
        refine h_pass rfl rfl rfl (by decide) (by dsimp only [aput, List.set]) ?_
        refine h_end ?_
        refine w_pass rfl rfl (by decide) (by dsimp only [aput, List.set]) ?_
        refine w_pass rfl rfl (by decide) (by dsimp only [aput, List.set]) ?_
        refine w_op (a := .raw (.bool true)) rfl rfl rfl rfl (by dsimp only [aput, List.set]) ?_
        refine w_true rfl ?_
        refine w_seq (w_region ?_)
        refine w_op (a := .raw (.bool false)) rfl rfl rfl rfl (by dsimp only [aput, List.set]) ?_
        replace h := cut_inr h hr1
        exact end_pureF (fun (r : Bool) => (.raw (.bool r) : AV)) h (a := .raw (.bool false)) rfl rfl rfl
      ·
        refine h_op (a := .raw (.bool false)) rfl rfl rfl (q_bool rfl hc2) (by dsimp only [aput, List.set]) ?_
        refine h_met rfl rfl ?_
        refine h_op (a := .raw (.int .i64 x4)) rfl rfl rfl rfl (by dsimp only [aput, List.set]) ?_
        refine h_met rfl rfl ?_
        refine h_op (a := .raw (.bool (decide (x4 > 1)))) rfl rfl rfl rfl (by dsimp only [aput, List.set]) ?_
        refine h_op (a := .raw (.bool (decide (x4 > 1)))) rfl rfl rfl rfl (by dsimp only [aput, List.set]) ?_
        refine bif_e h (fun hc3 h => ?_) (fun hc3 h => ?_)
        ·
          refine h_op (a := .raw (.bool true)) rfl rfl rfl (q_bool rfl hc3) (by dsimp only [aput, List.set]) ?_
          refine h_pass rfl rfl rfl (by decide) (by dsimp only [aput, List.set]) ?_
          refine h_pass rfl rfl rfl (by decide) (by dsimp only [aput, List.set]) ?_
          refine h_pass rfl rfl rfl (by decide) (by dsimp only [aput, List.set]) ?_
          refine h_pass rfl rfl rfl (by decide) (by dsimp only [aput, List.set]) ?_
          refine h_pass rfl rfl rfl (by decide) (by dsimp only [aput, List.set]) ?_
          refine h_pass rfl rfl rfl (by decide) (by dsimp only [aput, List.set]) ?_
          refine h_op (a := .raw (.bool true)) rfl rfl rfl rfl (by dsimp only [aput, List.set]) ?_
          refine h_op (a := .raw (.bool true)) rfl rfl rfl rfl (by dsimp only [aput, List.set]) ?_
          refine h_pass rfl rfl rfl (by decide) (by dsimp only [aput, List.set]) ?_
          refine h_pass rfl rfl rfl (by decide) (by dsimp only [aput, List.set]) ?_
          refine h_pass rfl rfl rfl (by decide) (by dsimp only [aput, List.set]) ?_
          refine h_pass rfl rfl rfl (by decide) (by dsimp only [aput, List.set]) ?_
          refine h_pass rfl rfl rfl (by decide) (by dsimp only [aput, List.set]) ?_
          refine h_pass rfl rfl rfl (by decide) (by dsimp only [aput, List.set]) ?_
          refine h_pass rfl rfl rfl (by decide) (by dsimp only [aput, List.set]) ?_
          refine h_pass rfl rfl rfl (by decide) (by dsimp only [aput, List.set]) ?_
          refine h_pass rfl rfl rfl (by decide) (by dsimp only [aput, List.set]) ?_
          refine h_pass rfl rfl rfl (by decide) (by dsimp only [aput, List.set]) ?_
          refine h_op (a := .raw (.bool true)) rfl rfl rfl rfl (by dsimp only [aput, List.set]) ?_
          refine h_op (a := .raw (.bool true)) rfl rfl rfl rfl (by dsimp only [aput, List.set]) ?_
          refine h_pass rfl rfl rfl (by decide) (by dsimp only [aput, List.set]) ?_
          refine h_pass rfl rfl rfl (by decide) (by dsimp only [aput, List.set]) ?_
          refine h_pass rfl rfl rfl (by decide) (by dsimp only [aput, List.set]) ?_
          refine h_pass rfl rfl rfl (by decide) (by dsimp only [aput, List.set]) ?_
          refine h_pass rfl rfl rfl (by decide) (by dsimp only [aput, List.set]) ?_
          refine h_pass rfl rfl rfl (by decide) (by dsimp only [aput, List.set]) ?_
          refine h_pass rfl rfl rfl (by decide) (by dsimp only [aput, List.set]) ?_
          refine h_op (a := .raw (.bool true)) rfl rfl rfl rfl (by dsimp only [aput, List.set]) ?_
          refine h_op (a := .raw (.bool true)) rfl rfl rfl rfl (by dsimp only [aput, List.set]) ?_
          refine h_pass rfl rfl rfl (by decide) (by dsimp only [aput, List.set]) ?_
          refine h_pass rfl rfl rfl (by decide) (by dsimp only [aput, List.set]) ?_
          refine h_pass rfl rfl rfl (by decide) (by dsimp only [aput, List.set]) ?_
          refine h_end ?_
          refine w_pass rfl rfl (by decide) (by dsimp only [aput, List.set]) ?_
          refine w_pass rfl rfl (by decide) (by dsimp only [aput, List.set]) ?_
          refine w_op (a := .raw (.bool true)) rfl rfl rfl rfl (by dsimp only [aput, List.set]) ?_
          refine w_true rfl ?_
          refine w_seq (w_region ?_)
          refine w_op (a := .raw (.bool false)) rfl rfl rfl rfl (by dsimp only [aput, List.set]) ?_
          replace h := cut_inr h hr1
          exact end_pureF (fun (r : Bool) => (.raw (.bool r) : AV)) h (a := .raw (.bool false)) rfl rfl rfl
        ·
          refine h_op (a := .raw (.bool false)) rfl rfl rfl (q_bool rfl hc3) (by dsimp only [aput, List.set]) ?_
          refine h_met rfl rfl ?_
          refine h_op (a := .raw (.int .i64 x4)) rfl rfl rfl rfl (by dsimp only [aput, List.set]) ?_
          refine h_met rfl rfl ?_
          refine h_op (a := .raw (.bool (x4 == 0))) rfl rfl rfl rfl (by dsimp only [aput, List.set]) ?_
          refine h_met rfl rfl ?_
          refine h_op (a := .agg (Enc.cells (x1 : Tr))) rfl rfl rfl rfl (by dsimp only [aput, List.set]) ?_
          refine h_met rfl rfl ?_
          refine h_op (a := .agg (Enc.cells (x2 : Tr))) rfl rfl rfl rfl (by dsimp only [aput, List.set]) ?_
          refine h_met rfl rfl ?_
          obtain ⟨g5, h⟩ := chk_e h
          obtain ⟨x8, hx8, h⟩ := letE_e h
          refine h_call (args' := [.agg (Enc.cells (x1 : Tr)), .agg (Enc.cells (x2 : Tr))]) (r := .raw (.bool x8)) (by rw [← hx8]; exact (k_same x1 x2 g5)) rfl rfl rfl (stripL_cons (strip_c (clo_agg (Enc.clo _))) (stripL_cons (strip_c (clo_agg (Enc.clo _))) rfl)) (okTrimL_cons (okTrim_clo _ _ (clo_agg (Enc.clo _))) (okTrimL_cons (okTrim_clo _ _ (clo_agg (Enc.clo _))) rfl)) (by dsimp only [aput, List.set]) ?_
          refine h_met rfl rfl ?_
          refine h_op (a := .raw (.bool (!((x4 == 0) == x8)))) rfl rfl rfl (by kernel_rfl) (by dsimp only [aput, List.set]) ?_
          refine h_op (a := .raw (.bool (!((x4 == 0) == x8)))) rfl rfl rfl rfl (by dsimp only [aput, List.set]) ?_
          refine bif_e h (fun hc4 h => ?_) (fun hc4 h => ?_)
          ·
            refine h_op (a := .raw (.bool true)) rfl rfl rfl (q_bool rfl hc4) (by dsimp only [aput, List.set]) ?_
            refine h_pass rfl rfl rfl (by decide) (by dsimp only [aput, List.set]) ?_
            refine h_pass rfl rfl rfl (by decide) (by dsimp only [aput, List.set]) ?_
            refine h_pass rfl rfl rfl (by decide) (by dsimp only [aput, List.set]) ?_
            refine h_pass rfl rfl rfl (by decide) (by dsimp only [aput, List.set]) ?_
            refine h_pass rfl rfl rfl (by decide) (by dsimp only [aput, List.set]) ?_
            refine h_pass rfl rfl rfl (by decide) (by dsimp only [aput, List.set]) ?_
            refine h_pass rfl rfl rfl (by decide) (by dsimp only [aput, List.set]) ?_
            refine h_pass rfl rfl rfl (by decide) (by dsimp only [aput, List.set]) ?_
            refine h_pass rfl rfl rfl (by decide) (by dsimp only [aput, List.set]) ?_
            refine h_pass rfl rfl rfl (by decide) (by dsimp only [aput, List.set]) ?_
            refine h_op (a := .raw (.bool true)) rfl rfl rfl rfl (by dsimp only [aput, List.set]) ?_
            refine h_op (a := .raw (.bool true)) rfl rfl rfl rfl (by dsimp only [aput, List.set]) ?_
            refine h_pass rfl rfl rfl (by decide) (by dsimp only [aput, List.set]) ?_
            refine h_pass rfl rfl rfl (by decide) (by dsimp only [aput, List.set]) ?_
            refine h_pass rfl rfl rfl (by decide) (by dsimp only [aput, List.set]) ?_
            refine h_pass rfl rfl rfl (by decide) (by dsimp only [aput, List.set]) ?_
            refine h_pass rfl rfl rfl (by decide) (by dsimp only [aput, List.set]) ?_
            refine h_pass rfl rfl rfl (by decide) (by dsimp only [aput, List.set]) ?_
            refine h_pass rfl rfl rfl (by decide) (by dsimp only [aput, List.set]) ?_
            refine h_op (a := .raw (.bool true)) rfl rfl rfl rfl (by dsimp only [aput, List.set]) ?_
            refine h_op (a := .raw (.bool true)) rfl rfl rfl rfl (by dsimp only [aput, List.set]) ?_
            refine h_pass rfl rfl rfl (by decide) (by dsimp only [aput, List.set]) ?_
            refine h_pass rfl rfl rfl (by decide) (by dsimp only [aput, List.set]) ?_
            refine h_pass rfl rfl rfl (by decide) (by dsimp only [aput, List.set]) ?_
            refine h_end ?_
            refine w_pass rfl rfl (by decide) (by dsimp only [aput, List.set]) ?_
            refine w_pass rfl rfl (by decide) (by dsimp only [aput, List.set]) ?_
            refine w_op (a := .raw (.bool true)) rfl rfl rfl rfl (by dsimp only [aput, List.set]) ?_
            refine w_true rfl ?_
            refine w_seq (w_region ?_)
            refine w_op (a := .raw (.bool false)) rfl rfl rfl rfl (by dsimp only [aput, List.set]) ?_
            replace h := cut_inr h hr1
            exact end_pureF (fun (r : Bool) => (.raw (.bool r) : AV)) h (a := .raw (.bool false)) rfl rfl rfl
          ·
            refine h_op (a := .raw (.bool false)) rfl rfl rfl (q_bool rfl hc4) (by dsimp only [aput, List.set]) ?_
            refine h_met rfl rfl ?_
            refine h_op (a := .raw (.int .i64 x4)) rfl rfl rfl rfl (by dsimp only [aput, List.set]) ?_
            refine h_met rfl rfl ?_
            refine h_op (a := .raw (.bool (decide (x4 ≤ 0)))) rfl rfl rfl rfl (by dsimp only [aput, List.set]) ?_
            refine h_met rfl rfl ?_
            refine bif_e h (fun hc5 h => ?_) (fun hc5 h => ?_)
            ·
              refine h_op (a := .raw (.bool true)) rfl rfl rfl (q_bool rfl hc5) (by dsimp only [aput, List.set]) ?_
              refine h_met rfl rfl ?_
              refine h_op (a := .raw (.int .i64 x6)) rfl rfl rfl rfl (by dsimp only [aput, List.set]) ?_
              refine h_met rfl rfl ?_
              refine h_op (a := .raw (.bool (decide (x6 ≤ 0)))) rfl rfl rfl rfl (by dsimp only [aput, List.set]) ?_
              refine h_met rfl rfl ?_
              refine h_op (a := .raw (.bool (decide (x6 ≤ 0)))) rfl rfl rfl rfl (by dsimp only [aput, List.set]) ?_
              refine h_met rfl rfl ?_
              refine bif_e h (fun hc6 h => ?_) (fun hc6 h => ?_)
              ·
                refine h_op (a := .raw (.bool true)) rfl rfl rfl (q_bool rfl hc6) (by dsimp only [aput, List.set]) ?_
                refine h_met rfl rfl ?_
                refine h_op (a := .raw (.int .i64 x7)) rfl rfl rfl rfl (by dsimp only [aput, List.set]) ?_
                refine h_met rfl rfl ?_
                refine h_op (a := .raw (.bool (decide (x7 > 0)))) rfl rfl rfl rfl (by dsimp only [aput, List.set]) ?_
                refine h_met rfl rfl ?_
                refine h_op (a := .raw (.bool (decide (x7 > 0)))) rfl rfl rfl rfl (by dsimp only [aput, List.set]) ?_
                refine h_op (a := .raw (.bool (decide (x7 > 0)))) rfl rfl rfl rfl (by dsimp only [aput, List.set]) ?_
                refine bif_e h (fun hc7 h => ?_) (fun hc7 h => ?_)
                ·
                  refine h_op (a := .raw (.bool true)) rfl rfl rfl (q_bool rfl hc7) (by dsimp only [aput, List.set]) ?_
                  refine h_pass rfl rfl rfl (by decide) (by dsimp only [aput, List.set]) ?_
                  refine h_pass rfl rfl rfl (by decide) (by dsimp only [aput, List.set]) ?_
                  refine h_pass rfl rfl rfl (by decide) (by dsimp only [aput, List.set]) ?_
                  refine h_pass rfl rfl rfl (by decide) (by dsimp only [aput, List.set]) ?_
                  refine h_pass rfl rfl rfl (by decide) (by dsimp only [aput, List.set]) ?_
                  refine h_pass rfl rfl rfl (by decide) (by dsimp only [aput, List.set]) ?_
                  refine h_pass rfl rfl rfl (by decide) (by dsimp only [aput, List.set]) ?_
                  refine h_op (a := .raw (.bool true)) rfl rfl rfl rfl (by dsimp only [aput, List.set]) ?_
                  refine h_op (a := .raw (.bool true)) rfl rfl rfl rfl (by dsimp only [aput, List.set]) ?_
                  refine h_pass rfl rfl rfl (by decide) (by dsimp only [aput, List.set]) ?_
                  refine h_pass rfl rfl rfl (by decide) (by dsimp only [aput, List.set]) ?_
                  refine h_pass rfl rfl rfl (by decide) (by dsimp only [aput, List.set]) ?_
                  refine h_end ?_
                  refine w_pass rfl rfl (by decide) (by dsimp only [aput, List.set]) ?_
                  refine w_pass rfl rfl (by decide) (by dsimp only [aput, List.set]) ?_
                  refine w_op (a := .raw (.bool true)) rfl rfl rfl rfl (by dsimp only [aput, List.set]) ?_
                  refine w_true rfl ?_
                  refine w_seq (w_region ?_)
                  refine w_op (a := .raw (.bool false)) rfl rfl rfl rfl (by dsimp only [aput, List.set]) ?_
                  replace h := cut_inr h hr1
                  exact end_pureF (fun (r : Bool) => (.raw (.bool r) : AV)) h (a := .raw (.bool false)) rfl rfl rfl
                ·
                  refine h_op (a := .raw (.bool false)) rfl rfl rfl (q_bool rfl hc7) (by dsimp only [aput, List.set]) ?_
                  refine h_met rfl rfl ?_
                  refine h_op (a := .agg (Enc.cells (x1 : Tr))) rfl rfl rfl rfl (by dsimp only [aput, List.set]) ?_
                  refine h_met rfl rfl ?_
                  refine h_op (a := .agg (Enc.cells (x2 : Tr))) rfl rfl rfl rfl (by dsimp only [aput, List.set]) ?_
                  refine h_met rfl rfl ?_
                  obtain ⟨g6, h⟩ := chk_e h
                  obtain ⟨x9, hx9, h⟩ := letE_e h
                  refine h_call (args' := [.agg (Enc.cells (x1 : Tr)), .agg (Enc.cells (x2 : Tr))]) (r := .raw (.bool x9)) (by rw [← hx9]; exact (k_same x1 x2 g6)) rfl rfl rfl (stripL_cons (strip_c (clo_agg (Enc.clo _))) (stripL_cons (strip_c (clo_agg (Enc.clo _))) rfl)) (okTrimL_cons (okTrim_clo _ _ (clo_agg (Enc.clo _))) (okTrimL_cons (okTrim_clo _ _ (clo_agg (Enc.clo _))) rfl)) (by dsimp only [aput, List.set]) ?_
                  refine h_met rfl rfl ?_
                  refine h_op (a := .agg (Enc.cells (x2 : Tr))) rfl rfl rfl rfl (by dsimp only [aput, List.set]) ?_
                  refine h_met rfl rfl ?_
                  refine h_op (a := .agg (Enc.cells (x1 : Tr))) rfl rfl rfl rfl (by dsimp only [aput, List.set]) ?_
                  refine h_met rfl rfl ?_
                  obtain ⟨g7, h⟩ := chk_e h
                  obtain ⟨x10, hx10, h⟩ := letE_e h
                  refine h_call (args' := [.agg (Enc.cells (x2 : Tr)), .agg (Enc.cells (x1 : Tr))]) (r := .raw (.bool x10)) (by rw [← hx10]; exact (k_same x2 x1 g7)) rfl rfl rfl (stripL_cons (strip_c (clo_agg (Enc.clo _))) (stripL_cons (strip_c (clo_agg (Enc.clo _))) rfl)) (okTrimL_cons (okTrim_clo _ _ (clo_agg (Enc.clo _))) (okTrimL_cons (okTrim_clo _ _ (clo_agg (Enc.clo _))) rfl)) (by dsimp only [aput, List.set]) ?_
                  refine h_met rfl rfl ?_
                  refine h_op (a := .raw (.bool (!(x9 == x10)))) rfl rfl rfl (by kernel_rfl) (by dsimp only [aput, List.set]) ?_
                  refine h_op (a := .raw (.bool (!(x9 == x10)))) rfl rfl rfl rfl (by dsimp only [aput, List.set]) ?_
                  refine bif_e h (fun hc8 h => ?_) (fun hc8 h => ?_)
                  ·
                    refine h_op (a := .raw (.bool true)) rfl rfl rfl (q_bool rfl hc8) (by dsimp only [aput, List.set]) ?_
                    refine h_pass rfl rfl rfl (by decide) (by dsimp only [aput, List.set]) ?_
                    refine h_pass rfl rfl rfl (by decide) (by dsimp only [aput, List.set]) ?_
                    refine h_pass rfl rfl rfl (by decide) (by dsimp only [aput, List.set]) ?_
                    refine h_end ?_
                    refine w_pass rfl rfl (by decide) (by dsimp only [aput, List.set]) ?_
                    refine w_pass rfl rfl (by decide) (by dsimp only [aput, List.set]) ?_
                    refine w_op (a := .raw (.bool true)) rfl rfl rfl rfl (by dsimp only [aput, List.set]) ?_
                    refine w_true rfl ?_
                    refine w_seq (w_region ?_)
                    refine w_op (a := .raw (.bool false)) rfl rfl rfl rfl (by dsimp only [aput, List.set]) ?_
                    replace h := cut_inr h hr1
                    exact end_pureF (fun (r : Bool) => (.raw (.bool r) : AV)) h (a := .raw (.bool false)) rfl rfl rfl
                  ·
                    refine h_op (a := .raw (.bool false)) rfl rfl rfl (q_bool rfl hc8) (by dsimp only [aput, List.set]) ?_
                    refine h_met rfl rfl ?_
                    refine h_op (a := .agg (Enc.cells (x1 : Tr))) rfl rfl rfl rfl (by dsimp only [aput, List.set]) ?_
                    refine h_met rfl rfl ?_
                    refine h_op (a := .list (List.length (j : List Sm)) (Enc.cellsL (j : List Sm)) .none) rfl rfl rfl rfl (by dsimp only [aput, List.set]) ?_
                    refine h_met rfl rfl ?_
                    obtain ⟨g8, h⟩ := chk_e h
                    obtain ⟨x11, hx11, h⟩ := letE_e h
                    refine h_call (args' := [.list (List.length (j : List Sm)) (Enc.cellsL (j : List Sm)) .none]) (r := .agg (Enc.cells (x11 : Tr))) (by rw [← hx11]; exact (k_made j g8)) rfl rfl rfl (stripL_cons (strip_l (Enc.cloL _)) rfl) (okTrimL_cons (okTrim_l (Enc.cloL _)) rfl) (by dsimp only [aput, List.set]) ?_
                    refine h_end ?_
                    refine w_met rfl rfl ?_
                    obtain ⟨g9, h⟩ := chk_e h
                    obtain ⟨x12, hx12, h⟩ := letE_e h
                    refine w_callc (args' := [.agg (Enc.cells (x1 : Tr)), .agg (Enc.cells (x11 : Tr))]) (r := .raw (.bool x12)) (by rw [← hx12]; exact (k_same x1 x11 g9)) rfl rfl (stripL_cons (strip_c (clo_agg (Enc.clo _))) (stripL_cons (strip_c (clo_agg (Enc.clo _))) rfl)) (okTrimL_cons (okTrim_clo _ _ (clo_agg (Enc.clo _))) (okTrimL_cons (okTrim_clo _ _ (clo_agg (Enc.clo _))) rfl)) (by dsimp only [aput, List.set]) ?_
                    refine w_met rfl rfl ?_
                    refine w_op (a := .raw (.bool (!x12))) rfl rfl rfl rfl (by dsimp only [aput, List.set]) ?_
                    refine w_op (a := .raw (.bool (!x12))) rfl rfl rfl rfl (by dsimp only [aput, List.set]) ?_
                    refine bif_e h (fun hc9 h => ?_) (fun hc9 h => ?_)
                    ·
                      refine w_condT hc9 rfl ?_
                      refine w_seq (w_region ?_)
                      refine w_op (a := .raw (.bool false)) rfl rfl rfl rfl (by dsimp only [aput, List.set]) ?_
                      replace h := cut_inr h hr1
                      exact end_pureF (fun (r : Bool) => (.raw (.bool r) : AV)) h (a := .raw (.bool false)) rfl rfl rfl
                    ·
                      refine w_condF hc9 rfl ?_
                      refine cut_done (o := or1) () h ?_
                      exact wm_of [false, false, false, false, false, false, false, true, true, false, true, false, false, false, false, false, false, false, false, false, false, false, false, false, false, false, false, false, false, false, false, false, false, false, false, false, false, false, false, false, false, false, false, false, false, false, false, false, false, false, false, false, false, false, false, false, false, false, false, false, false, false, false, false, false, false, false, false, false, false, false, false, false, false, false, false, false, false, false, false, false, false, false, false, false, false, false, false, false, false, false, false, false, false, false, false, false, false, false, false, false, false, false, false, false, false, false, false, false, false, false, false, false, false, false, false, false, false, false, false, false, false, false, false, false, false, false] (by kernel_rfl) (by kernel_rfl)
              ·
                refine h_op (a := .raw (.bool false)) rfl rfl rfl (q_bool rfl hc6) (by dsimp only [aput, List.set]) ?_
                refine h_pass rfl rfl rfl (by decide) (by dsimp only [aput, List.set]) ?_
                refine h_pass rfl rfl rfl (by decide) (by dsimp only [aput, List.set]) ?_
                refine h_met rfl rfl ?_
                refine h_op (a := .raw (.bool false)) rfl rfl rfl rfl (by dsimp only [aput, List.set]) ?_
                refine h_op (a := .raw (.bool false)) rfl rfl rfl rfl (by dsimp only [aput, List.set]) ?_
                refine h_op (a := .raw (.bool false)) rfl rfl rfl rfl (by dsimp only [aput, List.set]) ?_
                refine h_met rfl rfl ?_
                refine h_op (a := .agg (Enc.cells (x1 : Tr))) rfl rfl rfl rfl (by dsimp only [aput, List.set]) ?_
                refine h_met rfl rfl ?_
                refine h_op (a := .agg (Enc.cells (x2 : Tr))) rfl rfl rfl rfl (by dsimp only [aput, List.set]) ?_
                refine h_met rfl rfl ?_
                obtain ⟨g10, h⟩ := chk_e h
                obtain ⟨x13, hx13, h⟩ := letE_e h
                refine h_call (args' := [.agg (Enc.cells (x1 : Tr)), .agg (Enc.cells (x2 : Tr))]) (r := .raw (.bool x13)) (by rw [← hx13]; exact (k_same x1 x2 g10)) rfl rfl rfl (stripL_cons (strip_c (clo_agg (Enc.clo _))) (stripL_cons (strip_c (clo_agg (Enc.clo _))) rfl)) (okTrimL_cons (okTrim_clo _ _ (clo_agg (Enc.clo _))) (okTrimL_cons (okTrim_clo _ _ (clo_agg (Enc.clo _))) rfl)) (by dsimp only [aput, List.set]) ?_
                refine h_met rfl rfl ?_
                refine h_op (a := .agg (Enc.cells (x2 : Tr))) rfl rfl rfl rfl (by dsimp only [aput, List.set]) ?_
                refine h_met rfl rfl ?_
                refine h_op (a := .agg (Enc.cells (x1 : Tr))) rfl rfl rfl rfl (by dsimp only [aput, List.set]) ?_
                refine h_met rfl rfl ?_
                obtain ⟨g11, h⟩ := chk_e h
                obtain ⟨x14, hx14, h⟩ := letE_e h
                refine h_call (args' := [.agg (Enc.cells (x2 : Tr)), .agg (Enc.cells (x1 : Tr))]) (r := .raw (.bool x14)) (by rw [← hx14]; exact (k_same x2 x1 g11)) rfl rfl rfl (stripL_cons (strip_c (clo_agg (Enc.clo _))) (stripL_cons (strip_c (clo_agg (Enc.clo _))) rfl)) (okTrimL_cons (okTrim_clo _ _ (clo_agg (Enc.clo _))) (okTrimL_cons (okTrim_clo _ _ (clo_agg (Enc.clo _))) rfl)) (by dsimp only [aput, List.set]) ?_
                refine h_met rfl rfl ?_
                refine h_op (a := .raw (.bool (!(x13 == x14)))) rfl rfl rfl (by kernel_rfl) (by dsimp only [aput, List.set]) ?_
                refine h_op (a := .raw (.bool (!(x13 == x14)))) rfl rfl rfl rfl (by dsimp only [aput, List.set]) ?_
                refine bif_e h (fun hc10 h => ?_) (fun hc10 h => ?_)
                ·
                  refine h_op (a := .raw (.bool true)) rfl rfl rfl (q_bool rfl hc10) (by dsimp only [aput, List.set]) ?_
                  refine h_pass rfl rfl rfl (by decide) (by dsimp only [aput, List.set]) ?_
                  refine h_pass rfl rfl rfl (by decide) (by dsimp only [aput, List.set]) ?_
                  refine h_pass rfl rfl rfl (by decide) (by dsimp only [aput, List.set]) ?_
                  refine h_end ?_
                  refine w_pass rfl rfl (by decide) (by dsimp only [aput, List.set]) ?_
                  refine w_pass rfl rfl (by decide) (by dsimp only [aput, List.set]) ?_
                  refine w_op (a := .raw (.bool true)) rfl rfl rfl rfl (by dsimp only [aput, List.set]) ?_
                  refine w_true rfl ?_
                  refine w_seq (w_region ?_)
                  refine w_op (a := .raw (.bool false)) rfl rfl rfl rfl (by dsimp only [aput, List.set]) ?_
                  replace h := cut_inr h hr1
                  exact end_pureF (fun (r : Bool) => (.raw (.bool r) : AV)) h (a := .raw (.bool false)) rfl rfl rfl
                ·
                  refine h_op (a := .raw (.bool false)) rfl rfl rfl (q_bool rfl hc10) (by dsimp only [aput, List.set]) ?_
                  refine h_met rfl rfl ?_
                  refine h_op (a := .agg (Enc.cells (x1 : Tr))) rfl rfl rfl rfl (by dsimp only [aput, List.set]) ?_
                  refine h_met rfl rfl ?_
                  refine h_op (a := .list (List.length (j : List Sm)) (Enc.cellsL (j : List Sm)) .none) rfl rfl rfl rfl (by dsimp only [aput, List.set]) ?_
                  refine h_met rfl rfl ?_
                  obtain ⟨g12, h⟩ := chk_e h
                  obtain ⟨x15, hx15, h⟩ := letE_e h
                  refine h_call (args' := [.list (List.length (j : List Sm)) (Enc.cellsL (j : List Sm)) .none]) (r := .agg (Enc.cells (x15 : Tr))) (by rw [← hx15]; exact (k_made j g12)) rfl rfl rfl (stripL_cons (strip_l (Enc.cloL _)) rfl) (okTrimL_cons (okTrim_l (Enc.cloL _)) rfl) (by dsimp only [aput, List.set]) ?_
                  refine h_end ?_
                  refine w_met rfl rfl ?_
                  obtain ⟨g13, h⟩ := chk_e h
                  obtain ⟨x16, hx16, h⟩ := letE_e h
                  refine w_callc (args' := [.agg (Enc.cells (x1 : Tr)), .agg (Enc.cells (x15 : Tr))]) (r := .raw (.bool x16)) (by rw [← hx16]; exact (k_same x1 x15 g13)) rfl rfl (stripL_cons (strip_c (clo_agg (Enc.clo _))) (stripL_cons (strip_c (clo_agg (Enc.clo _))) rfl)) (okTrimL_cons (okTrim_clo _ _ (clo_agg (Enc.clo _))) (okTrimL_cons (okTrim_clo _ _ (clo_agg (Enc.clo _))) rfl)) (by dsimp only [aput, List.set]) ?_
                  refine w_met rfl rfl ?_
                  refine w_op (a := .raw (.bool (!x16))) rfl rfl rfl rfl (by dsimp only [aput, List.set]) ?_
                  refine w_op (a := .raw (.bool (!x16))) rfl rfl rfl rfl (by dsimp only [aput, List.set]) ?_
                  refine bif_e h (fun hc11 h => ?_) (fun hc11 h => ?_)
                  ·
                    refine w_condT hc11 rfl ?_
                    refine w_seq (w_region ?_)
                    refine w_op (a := .raw (.bool false)) rfl rfl rfl rfl (by dsimp only [aput, List.set]) ?_
                    replace h := cut_inr h hr1
                    exact end_pureF (fun (r : Bool) => (.raw (.bool r) : AV)) h (a := .raw (.bool false)) rfl rfl rfl
                  ·
                    refine w_condF hc11 rfl ?_
                    refine cut_done (o := or1) () h ?_
                    exact wm_of [false, false, false, false, false, false, false, true, true, false, true, false, false, false, false, false, false, false, false, false, false, false, false, false, false, false, false, false, false, false, false, false, false, false, false, false, false, false, false, false, false, false, false, false, false, false, false, false, false, false, false, false, false, false, false, false, false, false, false, false, false, false, false, false, false, false, false, false, false, false, false, false, false, false, false, false, false, false, false, false, false, false, false, false, false, false, false, false, false, false, false, false, false, false, false, false, false, false, false, false, false, false, false, false, false, false, false, false, false, false, false, false, false, false, false, false, false, false, false, false, false, false, false, false, false, false, false] (by kernel_rfl) (by kernel_rfl)
            ·
              refine h_op (a := .raw (.bool false)) rfl rfl rfl (q_bool rfl hc5) (by dsimp only [aput, List.set]) ?_
              refine h_pass rfl rfl rfl (by decide) (by dsimp only [aput, List.set]) ?_
              refine h_pass rfl rfl rfl (by decide) (by dsimp only [aput, List.set]) ?_
              refine h_met rfl rfl ?_
              refine h_op (a := .raw (.bool false)) rfl rfl rfl rfl (by dsimp only [aput, List.set]) ?_
              refine h_met rfl rfl ?_
              refine h_op (a := .raw (.bool false)) rfl rfl rfl rfl (by dsimp only [aput, List.set]) ?_
              refine h_pass rfl rfl rfl (by decide) (by dsimp only [aput, List.set]) ?_
              refine h_pass rfl rfl rfl (by decide) (by dsimp only [aput, List.set]) ?_
              refine h_met rfl rfl ?_
              refine h_op (a := .raw (.bool false)) rfl rfl rfl rfl (by dsimp only [aput, List.set]) ?_
              refine h_op (a := .raw (.bool false)) rfl rfl rfl rfl (by dsimp only [aput, List.set]) ?_
              refine h_op (a := .raw (.bool false)) rfl rfl rfl rfl (by dsimp only [aput, List.set]) ?_
              refine h_met rfl rfl ?_
              refine h_op (a := .agg (Enc.cells (x1 : Tr))) rfl rfl rfl rfl (by dsimp only [aput, List.set]) ?_
              refine h_met rfl rfl ?_
              refine h_op (a := .agg (Enc.cells (x2 : Tr))) rfl rfl rfl rfl (by dsimp only [aput, List.set]) ?_
              refine h_met rfl rfl ?_
              obtain ⟨g14, h⟩ := chk_e h
              obtain ⟨x17, hx17, h⟩ := letE_e h
              refine h_call (args' := [.agg (Enc.cells (x1 : Tr)), .agg (Enc.cells (x2 : Tr))]) (r := .raw (.bool x17)) (by rw [← hx17]; exact (k_same x1 x2 g14)) rfl rfl rfl (stripL_cons (strip_c (clo_agg (Enc.clo _))) (stripL_cons (strip_c (clo_agg (Enc.clo _))) rfl)) (okTrimL_cons (okTrim_clo _ _ (clo_agg (Enc.clo _))) (okTrimL_cons (okTrim_clo _ _ (clo_agg (Enc.clo _))) rfl)) (by dsimp only [aput, List.set]) ?_
              refine h_met rfl rfl ?_
              refine h_op (a := .agg (Enc.cells (x2 : Tr))) rfl rfl rfl rfl (by dsimp only [aput, List.set]) ?_
              refine h_met rfl rfl ?_
              refine h_op (a := .agg (Enc.cells (x1 : Tr))) rfl rfl rfl rfl (by dsimp only [aput, List.set]) ?_
              refine h_met rfl rfl ?_
              obtain ⟨g15, h⟩ := chk_e h
              obtain ⟨x18, hx18, h⟩ := letE_e h
              refine h_call (args' := [.agg (Enc.cells (x2 : Tr)), .agg (Enc.cells (x1 : Tr))]) (r := .raw (.bool x18)) (by rw [← hx18]; exact (k_same x2 x1 g15)) rfl rfl rfl (stripL_cons (strip_c (clo_agg (Enc.clo _))) (stripL_cons (strip_c (clo_agg (Enc.clo _))) rfl)) (okTrimL_cons (okTrim_clo _ _ (clo_agg (Enc.clo _))) (okTrimL_cons (okTrim_clo _ _ (clo_agg (Enc.clo _))) rfl)) (by dsimp only [aput, List.set]) ?_
              refine h_met rfl rfl ?_
              refine h_op (a := .raw (.bool (!(x17 == x18)))) rfl rfl rfl (by kernel_rfl) (by dsimp only [aput, List.set]) ?_
              refine h_op (a := .raw (.bool (!(x17 == x18)))) rfl rfl rfl rfl (by dsimp only [aput, List.set]) ?_
              refine bif_e h (fun hc12 h => ?_) (fun hc12 h => ?_)
              ·
                refine h_op (a := .raw (.bool true)) rfl rfl rfl (q_bool rfl hc12) (by dsimp only [aput, List.set]) ?_
                refine h_pass rfl rfl rfl (by decide) (by dsimp only [aput, List.set]) ?_
                refine h_pass rfl rfl rfl (by decide) (by dsimp only [aput, List.set]) ?_
                refine h_pass rfl rfl rfl (by decide) (by dsimp only [aput, List.set]) ?_
                refine h_end ?_
                refine w_pass rfl rfl (by decide) (by dsimp only [aput, List.set]) ?_
                refine w_pass rfl rfl (by decide) (by dsimp only [aput, List.set]) ?_
                refine w_op (a := .raw (.bool true)) rfl rfl rfl rfl (by dsimp only [aput, List.set]) ?_
                refine w_true rfl ?_
                refine w_seq (w_region ?_)
                refine w_op (a := .raw (.bool false)) rfl rfl rfl rfl (by dsimp only [aput, List.set]) ?_
                replace h := cut_inr h hr1
                exact end_pureF (fun (r : Bool) => (.raw (.bool r) : AV)) h (a := .raw (.bool false)) rfl rfl rfl
              ·
                refine h_op (a := .raw (.bool false)) rfl rfl rfl (q_bool rfl hc12) (by dsimp only [aput, List.set]) ?_
                refine h_met rfl rfl ?_
                refine h_op (a := .agg (Enc.cells (x1 : Tr))) rfl rfl rfl rfl (by dsimp only [aput, List.set]) ?_
                refine h_met rfl rfl ?_
                refine h_op (a := .list (List.length (j : List Sm)) (Enc.cellsL (j : List Sm)) .none) rfl rfl rfl rfl (by dsimp only [aput, List.set]) ?_
                refine h_met rfl rfl ?_
                obtain ⟨g16, h⟩ := chk_e h
                obtain ⟨x19, hx19, h⟩ := letE_e h
                refine h_call (args' := [.list (List.length (j : List Sm)) (Enc.cellsL (j : List Sm)) .none]) (r := .agg (Enc.cells (x19 : Tr))) (by rw [← hx19]; exact (k_made j g16)) rfl rfl rfl (stripL_cons (strip_l (Enc.cloL _)) rfl) (okTrimL_cons (okTrim_l (Enc.cloL _)) rfl) (by dsimp only [aput, List.set]) ?_
                refine h_end ?_
                refine w_met rfl rfl ?_
                obtain ⟨g17, h⟩ := chk_e h
                obtain ⟨x20, hx20, h⟩ := letE_e h
                refine w_callc (args' := [.agg (Enc.cells (x1 : Tr)), .agg (Enc.cells (x19 : Tr))]) (r := .raw (.bool x20)) (by rw [← hx20]; exact (k_same x1 x19 g17)) rfl rfl (stripL_cons (strip_c (clo_agg (Enc.clo _))) (stripL_cons (strip_c (clo_agg (Enc.clo _))) rfl)) (okTrimL_cons (okTrim_clo _ _ (clo_agg (Enc.clo _))) (okTrimL_cons (okTrim_clo _ _ (clo_agg (Enc.clo _))) rfl)) (by dsimp only [aput, List.set]) ?_
                refine w_met rfl rfl ?_
                refine w_op (a := .raw (.bool (!x20))) rfl rfl rfl rfl (by dsimp only [aput, List.set]) ?_
                refine w_op (a := .raw (.bool (!x20))) rfl rfl rfl rfl (by dsimp only [aput, List.set]) ?_
                refine bif_e h (fun hc13 h => ?_) (fun hc13 h => ?_)
                ·
                  refine w_condT hc13 rfl ?_
                  refine w_seq (w_region ?_)
                  refine w_op (a := .raw (.bool false)) rfl rfl rfl rfl (by dsimp only [aput, List.set]) ?_
                  replace h := cut_inr h hr1
                  exact end_pureF (fun (r : Bool) => (.raw (.bool r) : AV)) h (a := .raw (.bool false)) rfl rfl rfl
                ·
                  refine w_condF hc13 rfl ?_
                  refine cut_done (o := or1) () h ?_
                  exact wm_of [false, false, false, false, false, false, false, true, true, false, true, false, false, false, false, false, false, false, false, false, false, false, false, false, false, false, false, false, false, false, false, false, false, false, false, false, false, false, false, false, false, false, false, false, false, false, false, false, false, false, false, false, false, false, false, false, false, false, false, false, false, false, false, false, false, false, false, false, false, false, false, false, false, false, false, false, false, false, false, false, false, false, false, false, false, false, false, false, false, false, false, false, false, false, false, false, false, false, false, false, false, false, false, false, false, false, false, false, false, false, false, false, false, false, false, false, false, false, false, false, false, false, false, false, false, false, false] (by kernel_rfl) (by kernel_rfl)
  ·
    intro j1 h
    refine w_start (by dsimp only [setAll, topAll, List.foldl, List.set]) rfl ?_
    refine w_seq ?_
    refine w_seq (w_region ?_)
    refine w_op (a := .ptr 0 0) rfl rfl rfl rfl (by dsimp only [aput, List.set]) ?_
    refine w_op (a := .raw (.int .u8 ((x1.k : Nat) : Int))) rfl rfl rfl rfl (by dsimp only [aput, List.set]) ?_
    refine w_op (a := .ptr 1 0) rfl rfl rfl rfl (by dsimp only [aput, List.set]) ?_
    refine w_op (a := .raw (.int .u8 ((x2.k : Nat) : Int))) rfl rfl rfl rfl (by dsimp only [aput, List.set]) ?_
    refine w_op (a := .raw (.bool (((x1.k : Nat) : Int) != ((x2.k : Nat) : Int)))) rfl rfl rfl rfl (by dsimp only [aput, List.set]) ?_
    refine bif_e h (fun hc14 h => ?_) (fun hc14 h => ?_)
    ·
      refine w_condT hc14 rfl ?_
      refine w_seq (w_region ?_)
      refine w_op (a := .raw (.int .i64 x4)) rfl rfl rfl rfl (by dsimp only [aput, List.set]) ?_
      refine w_op (a := .raw (.bool (decide (x4 < 0)))) rfl rfl rfl rfl (by dsimp only [aput, List.set]) ?_
      refine w_op (a := .ptr 0 0) rfl rfl rfl rfl (by dsimp only [aput, List.set]) ?_
      refine w_op (a := .raw (.int .u8 ((x1.k : Nat) : Int))) rfl rfl rfl rfl (by dsimp only [aput, List.set]) ?_
      refine w_op (a := .ptr 1 0) rfl rfl rfl rfl (by dsimp only [aput, List.set]) ?_
      refine w_op (a := .raw (.int .u8 ((x2.k : Nat) : Int))) rfl rfl rfl rfl (by dsimp only [aput, List.set]) ?_
      refine w_op (a := .raw (.bool (decide (((x1.k : Nat) : Int) < ((x2.k : Nat) : Int))))) rfl rfl rfl rfl (by dsimp only [aput, List.set]) ?_
      refine w_op (a := .raw (.bool ((decide (x4 < 0)) == (decide (((x1.k : Nat) : Int) < ((x2.k : Nat) : Int)))))) rfl rfl rfl (op_q (by kernel_rfl)) (by dsimp only [aput, List.set]) ?_
      refine w_op (a := .raw (.bool ((decide (x4 < 0)) == (decide (((x1.k : Nat) : Int) < ((x2.k : Nat) : Int)))))) rfl rfl rfl rfl (by dsimp only [aput, List.set]) ?_
      exact end_pureF (fun (r : Bool) => (.raw (.bool r) : AV)) h (a := .raw (.bool ((decide (x4 < 0)) == (decide (((x1.k : Nat) : Int) < ((x2.k : Nat) : Int)))))) rfl rfl rfl
    ·
      refine w_condF hc14 rfl ?_
      refine w_seq ?_
      refine w_drawB (id := 9) 6 (by kernel_rfl) (by kernel_rfl) ?_
      obtain ⟨x21, hx21, h⟩ := letE_e h
      refine hB_call (args' := [.raw (.string (bs ([113] : List UInt8)))]) (r := .agg (Enc.cells (x21 : Tr))) (by rw [← hx21]; exact (by rw [← enc_eq]; exact class_113)) rfl rfl rfl rfl (stripL_cons rfl rfl) (okTrimL_cons rfl rfl) (by dsimp only [aput, List.set]) ?_
      refine hB_op (a := .agg (Enc.cells (x1 : Tr))) rfl rfl rfl rfl rfl (by dsimp only [aput, List.set]) ?_
      obtain ⟨x22, hx22, h⟩ := letE_e h
      refine hB_call (args' := [.raw (.string (bs ([114] : List UInt8)))]) (r := .agg (Enc.cells (x22 : Tr))) (by rw [← hx22]; exact (by rw [← enc_eq]; exact class_114)) rfl rfl rfl rfl (stripL_cons rfl rfl) (okTrimL_cons rfl rfl) (by dsimp only [aput, List.set]) ?_
      refine hB_op (a := .list (List.length ([x21, x1, x22] : List Tr)) (Enc.cellsL ([x21, x1, x22] : List Tr)) .full) rfl rfl rfl rfl (q_lit (α := Tr) (l := [x21, x1, x22]) (cs := Enc.cells (x21 : Tr) ++ (Enc.cells (x1 : Tr) ++ (Enc.cells (x22 : Tr) ++ []))) (by kernel_rfl) (by rw [Enc.cons, Enc.cons, Enc.cons, Enc.nil])) (by dsimp only [aput, List.set]) ?_
      obtain ⟨g18, h⟩ := chk_e h
      obtain ⟨x23, hx23, h⟩ := letE_e h
      refine hB_call (args' := [.list (List.length ([x21, x1, x22] : List Tr)) (Enc.cellsL ([x21, x1, x22] : List Tr)) .none]) (r := .agg (Enc.cells (x23 : Tr))) (by rw [← hx23]; exact (k_seq [x21, x1, x22] g18)) rfl rfl rfl rfl (stripL_cons (strip_l (Enc.cloL _)) rfl) (okTrimL_cons (okTrim_l (Enc.cloL _)) rfl) (by dsimp only [aput, List.set]) ?_
      refine hB_new _ rfl rfl rfl rfl rfl rfl (by dsimp only [List.set]) ?_
      refine hB_doneF (n := 3) rfl (show _ = (⟨[(29, (Enc.cells (x1 : Tr))), (29, (Enc.cells (x2 : Tr))), (29, (Enc.cells (x3 : Tr))), (29, [.raw (.int .u8 0), .raw (.int .u64 0), .raw (.int .u64 0), .raw (.int .u64 0), .raw (.int .u64 0), .raw (.int .i64 0), .raw (.int .i64 0), .list 0 [] .full])], [], [], 0, false⟩ : St) from rfl) (by dsimp only [List.nil_append, List.cons_append, pendS, List.set, Nat.reduceAdd]) ?_
      refine w_opm (σ'' := ⟨[(29, (Enc.cells (x1 : Tr))), (29, (Enc.cells (x2 : Tr))), (29, (Enc.cells (x3 : Tr))), (29, (Enc.cells (x23 : Tr)))], [], [], 0, false⟩) rfl rfl rfl (op_storeW (n := 8) rfl rfl rfl rfl rfl rfl rfl rfl (by decide)) (by dsimp only [aput, List.set]) rfl ?_
      refine w_seq ?_
      refine w_drawB (id := 10) 5 (by kernel_rfl) (by kernel_rfl) ?_
      refine hB_op (a := .agg (Enc.cells (x23 : Tr))) rfl rfl rfl rfl rfl (by dsimp only [aput, List.set]) ?_
      obtain ⟨x24, hx24, h⟩ := letE_e h
      refine hB_call (args' := [.raw (.string (bs ([0] : List UInt8)))]) (r := .agg (Enc.cells (x24 : Tr))) (by rw [← hx24]; exact (by rw [← enc_eq]; exact class_0)) rfl rfl rfl rfl (stripL_cons rfl rfl) (okTrimL_cons rfl rfl) (by dsimp only [aput, List.set]) ?_
      refine hB_op (a := .list (List.length ([x23, x24] : List Tr)) (Enc.cellsL ([x23, x24] : List Tr)) .full) rfl rfl rfl rfl (q_lit (α := Tr) (l := [x23, x24]) (cs := Enc.cells (x23 : Tr) ++ (Enc.cells (x24 : Tr) ++ [])) rfl (by rw [Enc.cons, Enc.cons, Enc.nil])) (by dsimp only [aput, List.set]) ?_
      obtain ⟨g19, h⟩ := chk_e h
      obtain ⟨x25, hx25, h⟩ := letE_e h
      refine hB_call (args' := [.list (List.length ([x23, x24] : List Tr)) (Enc.cellsL ([x23, x24] : List Tr)) .none]) (r := .agg (Enc.cells (x25 : Tr))) (by rw [← hx25]; exact (k_seq [x23, x24] g19)) rfl rfl rfl rfl (stripL_cons (strip_l (Enc.cloL _)) rfl) (okTrimL_cons (okTrim_l (Enc.cloL _)) rfl) (by dsimp only [aput, List.set]) ?_
      refine hB_new _ rfl rfl rfl rfl rfl rfl (by dsimp only [List.set]) ?_
      refine hB_doneF (n := 4) rfl (show _ = (⟨[(29, (Enc.cells (x1 : Tr))), (29, (Enc.cells (x2 : Tr))), (29, (Enc.cells (x3 : Tr))), (29, (Enc.cells (x23 : Tr))), (29, [.raw (.int .u8 0), .raw (.int .u64 0), .raw (.int .u64 0), .raw (.int .u64 0), .raw (.int .u64 0), .raw (.int .i64 0), .raw (.int .i64 0), .list 0 [] .full])], [], [], 0, false⟩ : St) from rfl) (by dsimp only [List.nil_append, List.cons_append, pendS, List.set, Nat.reduceAdd]) ?_
      refine w_opm (σ'' := ⟨[(29, (Enc.cells (x1 : Tr))), (29, (Enc.cells (x2 : Tr))), (29, (Enc.cells (x3 : Tr))), (29, (Enc.cells (x23 : Tr))), (29, (Enc.cells (x25 : Tr)))], [], [], 0, false⟩) rfl rfl rfl (op_storeW (n := 8) rfl rfl rfl rfl rfl rfl rfl rfl (by decide)) (by dsimp only [aput, List.set]) rfl ?_
      refine w_seq ?_
      refine w_draw (id := 11) 19 (by kernel_rfl) (by kernel_rfl) ?_
      refine h_op (a := .agg (Enc.cells (x23 : Tr))) rfl rfl rfl rfl (by dsimp only [aput, List.set]) ?_
      refine h_op (a := .agg (Enc.cells (x25 : Tr))) rfl rfl rfl rfl (by dsimp only [aput, List.set]) ?_
      obtain ⟨x26, hx26, h⟩ := bindE_e h
      refine h_call (args' := [.agg (Enc.cells (x23 : Tr)), .agg (Enc.cells (x25 : Tr))]) (r := .raw (.int .i64 x26)) (compare_sh x23 x25 x26 hx26) rfl rfl rfl (stripL_cons (strip_c (clo_agg (Enc.clo _))) (stripL_cons (strip_c (clo_agg (Enc.clo _))) rfl)) (okTrimL_cons (okTrim_clo _ _ (clo_agg (Enc.clo _))) (okTrimL_cons (okTrim_clo _ _ (clo_agg (Enc.clo _))) rfl)) (by dsimp only [aput, List.set]) ?_
      refine h_op (a := .raw (.bool (x26 == (-1)))) rfl rfl rfl rfl (by dsimp only [aput, List.set]) ?_
      refine bif_e h (fun hc15 h => ?_) (fun hc15 h => ?_)
      ·
        refine h_op (a := .raw (.bool true)) rfl rfl rfl (q_bool rfl hc15) (by dsimp only [aput, List.set]) ?_
        refine h_met rfl rfl ?_
        refine h_op (a := .agg (Enc.cells (x1 : Tr))) rfl rfl rfl rfl (by dsimp only [aput, List.set]) ?_
        refine h_met rfl rfl ?_
        obtain ⟨g20, h⟩ := chk_e h
        obtain ⟨x27, hx27, h⟩ := letE_e h
        refine h_call (args' := [.agg (Enc.cells (x1 : Tr)), .raw (.int .i64 0), .raw (.int .i64 5)]) (r := .agg (Enc.cells (x27 : Tr))) (by rw [← hx27]; exact (k_times x1 0 5 g20)) rfl rfl rfl (stripL_cons (strip_c (clo_agg (Enc.clo _))) (stripL_cons rfl (stripL_cons rfl rfl))) (okTrimL_cons (okTrim_clo _ _ (clo_agg (Enc.clo _))) (okTrimL_cons rfl (okTrimL_cons rfl rfl))) (by dsimp only [aput, List.set]) ?_
        refine h_met rfl rfl ?_
        refine h_op (a := .agg (Enc.cells (x1 : Tr))) rfl rfl rfl rfl (by dsimp only [aput, List.set]) ?_
        refine h_met rfl rfl ?_
        obtain ⟨g21, h⟩ := chk_e h
        obtain ⟨x28, hx28, h⟩ := letE_e h
        refine h_call (args' := [.agg (Enc.cells (x1 : Tr)), .raw (.int .i64 0), .raw (.int .i64 (-1))]) (r := .agg (Enc.cells (x28 : Tr))) (by rw [← hx28]; exact (k_times x1 0 (-1) g21)) rfl rfl rfl (stripL_cons (strip_c (clo_agg (Enc.clo _))) (stripL_cons rfl (stripL_cons rfl rfl))) (okTrimL_cons (okTrim_clo _ _ (clo_agg (Enc.clo _))) (okTrimL_cons rfl (okTrimL_cons rfl rfl))) (by dsimp only [aput, List.set]) ?_
        refine h_met rfl rfl ?_
        obtain ⟨x29, hx29, h⟩ := bindE_e h
        refine h_call (args' := [.agg (Enc.cells (x27 : Tr)), .agg (Enc.cells (x28 : Tr))]) (r := .raw (.int .i64 x29)) (compare_sh x27 x28 x29 hx29) rfl rfl rfl (stripL_cons (strip_c (clo_agg (Enc.clo _))) (stripL_cons (strip_c (clo_agg (Enc.clo _))) rfl)) (okTrimL_cons (okTrim_clo _ _ (clo_agg (Enc.clo _))) (okTrimL_cons (okTrim_clo _ _ (clo_agg (Enc.clo _))) rfl)) (by dsimp only [aput, List.set]) ?_
        refine h_met rfl rfl ?_
        refine h_op (a := .raw (.bool (decide (x29 ≤ 0)))) rfl rfl rfl rfl (by dsimp only [aput, List.set]) ?_
        refine h_op (a := .raw (.bool (decide (x29 ≤ 0)))) rfl rfl rfl rfl (by dsimp only [aput, List.set]) ?_
        refine bif_e h (fun hc16 h => ?_) (fun hc16 h => ?_)
        ·
          refine h_op (a := .raw (.bool true)) rfl rfl rfl (q_bool rfl hc16) (by dsimp only [aput, List.set]) ?_
          refine h_met rfl rfl ?_
          refine h_op (a := .agg (Enc.cells (x1 : Tr))) rfl rfl rfl rfl (by dsimp only [aput, List.set]) ?_
          refine h_met rfl rfl ?_
          obtain ⟨x30, hx30, h⟩ := letE_e h
          refine h_call (args' := [.agg (Enc.cells (x1 : Tr))]) (r := .agg (Enc.cells (x30 : Tr))) (by rw [← hx30]; exact (k_group x1)) rfl rfl rfl (stripL_cons (strip_c (clo_agg (Enc.clo _))) rfl) (okTrimL_cons (okTrim_clo _ _ (clo_agg (Enc.clo _))) rfl) (by dsimp only [aput, List.set]) ?_
          refine h_met rfl rfl ?_
          refine h_op (a := .agg (Enc.cells (x2 : Tr))) rfl rfl rfl rfl (by dsimp only [aput, List.set]) ?_
          refine h_met rfl rfl ?_
          obtain ⟨x31, hx31, h⟩ := letE_e h
          refine h_call (args' := [.agg (Enc.cells (x2 : Tr))]) (r := .agg (Enc.cells (x31 : Tr))) (by rw [← hx31]; exact (k_group x2)) rfl rfl rfl (stripL_cons (strip_c (clo_agg (Enc.clo _))) rfl) (okTrimL_cons (okTrim_clo _ _ (clo_agg (Enc.clo _))) rfl) (by dsimp only [aput, List.set]) ?_
          refine h_met rfl rfl ?_
          obtain ⟨x32, hx32, h⟩ := bindE_e h
          refine h_call (args' := [.agg (Enc.cells (x30 : Tr)), .agg (Enc.cells (x31 : Tr))]) (r := .raw (.int .i64 x32)) (compare_sh x30 x31 x32 hx32) rfl rfl rfl (stripL_cons (strip_c (clo_agg (Enc.clo _))) (stripL_cons (strip_c (clo_agg (Enc.clo _))) rfl)) (okTrimL_cons (okTrim_clo _ _ (clo_agg (Enc.clo _))) (okTrimL_cons (okTrim_clo _ _ (clo_agg (Enc.clo _))) rfl)) (by dsimp only [aput, List.set]) ?_
          refine h_met rfl rfl ?_
          refine h_op (a := .raw (.int .i64 x4)) rfl rfl rfl rfl (by dsimp only [aput, List.set]) ?_
          refine h_end ?_
          refine w_met rfl rfl ?_
          refine w_op (a := .raw (.bool (x32 == x4))) rfl rfl rfl rfl (by dsimp only [aput, List.set]) ?_
          refine w_op (a := .raw (.bool (x32 == x4))) rfl rfl rfl rfl (by dsimp only [aput, List.set]) ?_
          refine w_op (a := .raw (.bool (x32 == x4))) rfl rfl rfl rfl (by dsimp only [aput, List.set]) ?_
          exact end_pureF (fun (r : Bool) => (.raw (.bool r) : AV)) h (a := .raw (.bool (x32 == x4))) rfl rfl rfl
        ·
          refine h_op (a := .raw (.bool false)) rfl rfl rfl (q_bool rfl hc16) (by dsimp only [aput, List.set]) ?_
          refine h_pass rfl rfl rfl (by decide) (by dsimp only [aput, List.set]) ?_
          refine h_pass rfl rfl rfl (by decide) (by dsimp only [aput, List.set]) ?_
          refine h_pass rfl rfl rfl (by decide) (by dsimp only [aput, List.set]) ?_
          refine h_pass rfl rfl rfl (by decide) (by dsimp only [aput, List.set]) ?_
          refine h_pass rfl rfl rfl (by decide) (by dsimp only [aput, List.set]) ?_
          refine h_pass rfl rfl rfl (by decide) (by dsimp only [aput, List.set]) ?_
          refine h_end ?_
          refine w_pass rfl rfl (by decide) (by dsimp only [aput, List.set]) ?_
          refine w_op (a := .raw (.bool false)) rfl rfl rfl rfl (by dsimp only [aput, List.set]) ?_
          refine w_op (a := .raw (.bool false)) rfl rfl rfl rfl (by dsimp only [aput, List.set]) ?_
          exact end_pureF (fun (r : Bool) => (.raw (.bool r) : AV)) h (a := .raw (.bool false)) rfl rfl rfl
      ·
        refine h_op (a := .raw (.bool false)) rfl rfl rfl (q_bool rfl hc15) (by dsimp only [aput, List.set]) ?_
        refine h_pass rfl rfl rfl (by decide) (by dsimp only [aput, List.set]) ?_
        refine h_pass rfl rfl rfl (by decide) (by dsimp only [aput, List.set]) ?_
        refine h_pass rfl rfl rfl (by decide) (by dsimp only [aput, List.set]) ?_
        refine h_pass rfl rfl rfl (by decide) (by dsimp only [aput, List.set]) ?_
        refine h_pass rfl rfl rfl (by decide) (by dsimp only [aput, List.set]) ?_
        refine h_pass rfl rfl rfl (by decide) (by dsimp only [aput, List.set]) ?_
        refine h_op (a := .raw (.bool false)) rfl rfl rfl rfl (by dsimp only [aput, List.set]) ?_
        refine h_op (a := .raw (.bool false)) rfl rfl rfl rfl (by dsimp only [aput, List.set]) ?_
        refine h_pass rfl rfl rfl (by decide) (by dsimp only [aput, List.set]) ?_
        refine h_pass rfl rfl rfl (by decide) (by dsimp only [aput, List.set]) ?_
        refine h_pass rfl rfl rfl (by decide) (by dsimp only [aput, List.set]) ?_
        refine h_pass rfl rfl rfl (by decide) (by dsimp only [aput, List.set]) ?_
        refine h_pass rfl rfl rfl (by decide) (by dsimp only [aput, List.set]) ?_
        refine h_pass rfl rfl rfl (by decide) (by dsimp only [aput, List.set]) ?_
        refine h_end ?_
        refine w_pass rfl rfl (by decide) (by dsimp only [aput, List.set]) ?_
        refine w_op (a := .raw (.bool false)) rfl rfl rfl rfl (by dsimp only [aput, List.set]) ?_
        refine w_op (a := .raw (.bool false)) rfl rfl rfl rfl (by dsimp only [aput, List.set]) ?_
        exact end_pureF (fun (r : Bool) => (.raw (.bool r) : AV)) h (a := .raw (.bool false)) rfl rfl rfl
end Go.Ab
