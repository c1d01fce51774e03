/-
  reparteeref02 and reparteeref33: numbers, quoting.
-/
import Derived.Test.YtcdmdnadilafhaaGreatDoorZyRv
set_option linter.unusedSimpArgs false
set_option linter.unusedVariables false
namespace Go.Ab
open Go Go.RowKit Go.Fwd Go.Proofs
theorem u8_all' (p : UInt8 → Bool) (h : ((List.range 256).all fun n => p n.toUInt8) = true) (c : UInt8) : p c = true := all256 (p := fun c => p c = true) h (fun n _ h => h) c
theorem rbyte_eq (c : UInt8) : F_rbyte ((c.toNat : Nat) : Int) (RSet.mk false) = some (byteP c) := of_decide_eq_true (u8_all' (fun c => decide (F_rbyte ((c.toNat : Nat) : Int) (RSet.mk false) = some (byteP c))) (by decide +kernel) c)
theorem rbyte_pure (c : UInt8) : Pure (ITP Tryz.prog) Tryz.prog 99 [.raw (.int .u8 ((c.toNat : Nat) : Int)), .agg cellsRS] (.raw (.string (bs (byteP c)))) := rbyte_sh _ (RSet.mk false) _ (rbyte_eq c)
end Go.Ab
set_option linter.unusedSimpArgs false
set_option linter.unusedVariables false
namespace Go.Ab
open Go Go.RowKit Go.Fwd Go.Proofs
def F_rbytes (fuel : Nat) (b : (List UInt8)) (m : RSet) : Option (List UInt8) :=
  (cutE (τ := (List UInt8)) (loopE (β := (List UInt8) × Int) (fun s1 => (bif (decide (s1.2 < (List.length b : Int))) then (chk (0 ≤ s1.2 ∧ s1.2 < (List.length b : Int)) (letE (ix b s1.2) (fun x1 => (chk (m = RSet.mk false) (letE (byteP x1) (fun x2 => (chk ((List.length s1.1 + List.length x2) * 1 ≤ 140737488355328) (chk (-9223372036854775808 ≤ (s1.2 + 1) ∧ (s1.2 + 1) < 9223372036854775808) (some (Sum.inl ((s1.1 ++ x2), (s1.2 + 1)))))))))))) else (some (Sum.inr (Sum.inl (s1.1)))))) fuel (([] : (List UInt8)), 0)) (fun j1 => (some j1)))
theorem ent79 : Ent Tryz.prog 79 := enters_of Tryz.func79 (by kernel_rfl) rfl
set_option maxRecDepth 100000 in
set_option maxHeartbeats 4000000 in
theorem rbytes_sh (fuel : Nat) (b : (List UInt8)) (m : RSet) (r : (List UInt8)) (h : F_rbytes fuel b m = some r) : Pure (ITP Tryz.prog) Tryz.prog 79 [.raw (.string (bs b)), .agg (Enc.cells (m : RSet))] (.raw (.string (bs r))) := by
 obtain ⟨d, hd⟩ : ∃ d, Tryz.f79.body = some d := ⟨_, rfl⟩
 refine pure_of mix Tryz.func79 hd ent79 ?_
 cases hd
 unfold F_rbytes at h
 refine w_start (by dsimp only [abeginS, Tryz.f79, List.length_cons, List.length_nil, Nat.zero_add, Nat.reduceAdd, Nat.reduceSub, List.replicate, List.cons_append, List.nil_append]) (by dsimp only [St.empty]) ?_
 refine w_seq (w_region ?_)
 refine w_opm (a := .ptr 0 0) (σ'' := ⟨[(128, (Enc.cells (m : RSet)))], [], [], 0, false⟩) rfl rfl rfl rfl (by dsimp only [aput, List.set]) rfl ?_
 refine w_op (a := .raw (.string (bs ([] : List UInt8)))) rfl rfl rfl rfl (by dsimp only [aput, List.set]) ?_
 refine w_seq (w_region ?_)
 refine w_op (a := .list 0 [] .full) rfl rfl rfl rfl (by dsimp only [aput, List.set]) ?_
 refine w_cutF h [0, 1, 2, 3, 4, 5, 6, 7, 8, 9, 10, 11, 12, 13, 14, 15, 16, 17, 18, 19, 20, 21] (fun j1 => [(5, (ownAV (List.length (j1 : List UInt8)) (Enc.cellsL (j1 : List UInt8))))]) (fun j1 => (ownSt [(128, (Enc.cells (m : RSet)))] 5 (List.length (j1 : List UInt8)) 1)) ?_ ?_
 ·
  intro or1 h hr1
  refine w_seq (w_region ?_)
  refine w_op (a := .raw (.int .i64 0)) rfl rfl rfl rfl (by dsimp only [aput, List.set]) ?_
  refine w_block ?_
  refine w_loopF h [1, 2, 4, 5, 6, 7, 8, 9, 10, 11, 12, 13, 14, 15, 16, 17, 18, 19, 20, 21] (fun s1 => [(5, (ownAV (List.length (s1.1 : List UInt8)) (Enc.cellsL (s1.1 : List UInt8)))), (6, .raw (.int .i64 s1.2))]) (fun s1 => (ownSt [(128, (Enc.cells (m : RSet)))] 5 (List.length (s1.1 : List UInt8)) 1)) ?_ ?_
  ·
   exact wm_of [true, false, false, true, false, true, true, false, false, false, false, false, false, false, false, false, false, false, false, false, false, false] (by kernel_rfl) (by kernel_rfl)
  ·
   intro s1 p1 h
   refine w_start (by dsimp only [setAll, topAll, List.foldl, List.set]) rfl ?_
   refine w_seq ?_
   refine w_seq (w_region ?_)
   refine w_op (a := .raw (.int .i64 s1.2)) rfl rfl rfl rfl (by dsimp only [aput, List.set]) ?_
   refine w_op (a := .raw (.string (bs b))) rfl rfl rfl rfl (by dsimp only [aput, List.set]) ?_
   refine w_op (a := .raw (.int .i64 (List.length b : Int))) rfl rfl rfl (op_q (q_lenS rfl rfl rfl)) (by dsimp only [aput, List.set]) ?_
   refine w_op (a := .raw (.bool (decide (s1.2 < (List.length b : Int))))) rfl rfl rfl rfl (by dsimp only [aput, List.set]) ?_
   refine bif_e h (fun hc1 h => ?_) (fun hc1 h => ?_)
   ·
    refine w_condT hc1 rfl ?_
    refine w_seq ?_
    refine w_block ?_
    refine w_draw (k0 := 0) (id := 5) 6 (by kernel_rfl) (by kernel_rfl) ?_
    refine h_op (a := (ownAV (List.length (s1.1 : List UInt8)) (Enc.cellsL (s1.1 : List UInt8)))) rfl rfl rfl rfl (by dsimp only [aput, List.set]) ?_
    refine h_op (a := .raw (.string (bs b))) rfl rfl rfl rfl (by dsimp only [aput, List.set]) ?_
    refine h_op (a := .raw (.int .i64 s1.2)) rfl rfl rfl rfl (by dsimp only [aput, List.set]) ?_
    obtain ⟨g1, h⟩ := chk_e h
    obtain ⟨x1, hx1, h⟩ := letE_e h
    refine h_op (a := .raw (.int .u8 (((x1).toNat : Nat) : Int))) rfl rfl rfl (by rw [← hx1]; exact (q_sidx (l := b) (n := s1.2) g1 rfl rfl rfl rfl)) (by dsimp only [aput, List.set]) ?_
    refine h_op (a := .agg (Enc.cells (m : RSet))) rfl rfl rfl (q_loadArr m (by decide) rfl rfl rfl) (by dsimp only [aput, List.set]) ?_
    obtain ⟨g2, h⟩ := chk_e h
    obtain ⟨x2, hx2, h⟩ := letE_e h
    refine h_call (args' := [.raw (.int .u8 (((x1).toNat : Nat) : Int)), .agg (Enc.cells (m : RSet))]) (r := .raw (.string (bs x2))) (by rw [← hx2]; exact (by rw [g2]; exact rbyte_pure x1)) rfl rfl rfl (stripL_cons rfl (stripL_cons (strip_c (clo_agg (Enc.clo _))) rfl)) (okTrimL_cons rfl (okTrimL_cons (okTrim_clo _ _ (clo_agg (Enc.clo _))) rfl)) (by dsimp only [aput, List.set]) ?_
    refine h_end ?_
    obtain ⟨g3, h⟩ := chk_e h
    refine w_opm (a := (ownAV (List.length ((s1.1 ++ x2) : List UInt8)) (Enc.cellsL ((s1.1 ++ x2) : List UInt8)))) (σ'' := (ownSt [(128, (Enc.cells (m : RSet)))] 5 (List.length ((s1.1 ++ x2) : List UInt8)) 1)) rfl rfl rfl (op_appendS rfl rfl rfl rfl (by decide) (append_ownS (bx := [(128, (Enc.cells (m : RSet)))]) (a := s1.1) (b := x2) g3 rfl rfl rfl rfl rfl rfl rfl)) (by dsimp only [aput, List.set]) rfl ?_
    refine w_op (a := (ownAV (List.length ((s1.1 ++ x2) : List UInt8)) (Enc.cellsL ((s1.1 ++ x2) : List UInt8)))) rfl rfl rfl rfl (by dsimp only [aput, List.set]) ?_
    refine w_region (k0 := 0) (id := 4) ?_
    refine w_op (a := .raw (.int .i64 s1.2)) rfl rfl rfl rfl (by dsimp only [aput, List.set]) ?_
    obtain ⟨g4, h⟩ := chk_e h
    refine w_op (a := .raw (.int .i64 (s1.2 + 1))) rfl rfl rfl (op_q (q_add rfl rfl rfl rfl g4.1 g4.2)) (by dsimp only [aput, List.set]) ?_
    refine w_op (a := .raw (.int .i64 (s1.2 + 1))) rfl rfl rfl rfl (by dsimp only [aput, List.set]) ?_
    refine loop_next (p := p1) ((s1.1 ++ x2), (s1.2 + 1)) h ?_
    exact wm_of [true, false, false, true, false, true, true, false, false, false, false, false, false, false, false, false, false, false, false, false, false, false] (by kernel_rfl) (by kernel_rfl)
   ·
    refine w_condF hc1 rfl ?_
    refine loop_exit h (fun h => ?_)
    refine cut_done (o := or1) (s1.1) h ?_
    exact wm_of [false, false, false, false, false, true, false, false, false, false, false, false, false, false, false, false, false, false, false, false, false, false] (by kernel_rfl) (by kernel_rfl)
 ·
  intro j1 h
  refine w_start (by dsimp only [setAll, topAll, List.foldl, List.set]) rfl ?_
  refine w_seq (w_region ?_)
  refine w_op (a := (ownAV (List.length (j1 : List UInt8)) (Enc.cellsL (j1 : List UInt8)))) rfl rfl rfl rfl (by dsimp only [aput, List.set]) ?_
  refine w_op (a := .raw (.string (bs j1))) rfl rfl rfl (op_q (q_bstrO (l := j1) rfl rfl ⟨rfl, rfl⟩ rfl)) (by dsimp only [aput, List.set]) ?_
  refine w_op (a := .raw (.string (bs j1))) rfl rfl rfl rfl (by dsimp only [aput, List.set]) ?_
  exact end_pureF (fun (r : (List UInt8)) => (.raw (.string (bs r)) : AV)) h (a := .raw (.string (bs j1))) rfl rfl rfl
def F_dec (m : Int) (n : Int) : Option (List UInt8) :=
  (bif (decide (n < 10)) then (chk (-9223372036854775808 ≤ (n + 1) ∧ (n + 1) < 9223372036854775808) (chk (0 ≤ n ∧ n ≤ (n + 1) ∧ (n + 1) ≤ (List.length ([48, 49, 50, 51, 52, 53, 54, 55, 56, 57] : List UInt8) : Int)) (letE (sub ([48, 49, 50, 51, 52, 53, 54, 55, 56, 57] : List UInt8) n (n + 1)) (fun x1 => (some x1))))) else (chk (0 ≤ (IntKind.i64.wrap (Int.tdiv n 10)) ∧ (IntKind.i64.wrap (Int.tdiv n 10)) < m) (letE (Lib.itoa (IntKind.i64.wrap (Int.tdiv n 10))) (fun x2 => (chk (-9223372036854775808 ≤ ((Int.tmod n 10) + 1) ∧ ((Int.tmod n 10) + 1) < 9223372036854775808) (chk (0 ≤ (Int.tmod n 10) ∧ (Int.tmod n 10) ≤ ((Int.tmod n 10) + 1) ∧ ((Int.tmod n 10) + 1) ≤ (List.length ([48, 49, 50, 51, 52, 53, 54, 55, 56, 57] : List UInt8) : Int)) (letE (sub ([48, 49, 50, 51, 52, 53, 54, 55, 56, 57] : List UInt8) (Int.tmod n 10) ((Int.tmod n 10) + 1)) (fun x3 => (chk (List.length x2 + List.length x3 ≤ 9223372036854775807) (some (x2 ++ x3)))))))))))
theorem ent80 : Ent Tryz.prog 80 := enters_of Tryz.func80 (by kernel_rfl) rfl
set_option maxRecDepth 100000 in
set_option maxHeartbeats 4000000 in
theorem dec_sh (m : Int) (n : Int) (r : (List UInt8)) (ih : ∀ x : Int, 0 ≤ x ∧ x < m → Pure (ITP Tryz.prog) Tryz.prog 80 [.raw (.int .i64 x)] (.raw (.string (bs (Lib.itoa x))))) (h : F_dec m n = some r) : Pure (ITP Tryz.prog) Tryz.prog 80 [.raw (.int .i64 n)] (.raw (.string (bs r))) := by
 obtain ⟨d, hd⟩ : ∃ d, Tryz.f80.body = some d := ⟨_, rfl⟩
 refine pure_of mix Tryz.func80 hd ent80 ?_
 cases hd
 unfold F_dec at h
 refine w_start (by dsimp only [abeginS, Tryz.f80, List.length_cons, List.length_nil, Nat.zero_add, Nat.reduceAdd, Nat.reduceSub, List.replicate, List.cons_append, List.nil_append]) (by dsimp only [St.empty]) ?_
 refine w_seq (w_region ?_)
 refine w_op (a := .raw (.string (bs ([] : List UInt8)))) rfl rfl rfl rfl (by dsimp only [aput, List.set]) ?_
 refine w_seq ?_
 refine w_seq (w_region ?_)
 refine w_op (a := .raw (.int .i64 n)) rfl rfl rfl rfl (by dsimp only [aput, List.set]) ?_
 refine w_op (a := .raw (.bool (decide (n < 10)))) rfl rfl rfl rfl (by dsimp only [aput, List.set]) ?_
 refine bif_e h (fun hc1 h => ?_) (fun hc1 h => ?_)
 ·
  refine w_condT hc1 rfl ?_
  refine w_seq (w_region ?_)
  refine w_op (a := .raw (.int .i64 n)) rfl rfl rfl rfl (by dsimp only [aput, List.set]) ?_
  refine w_op (a := .raw (.int .i64 n)) rfl rfl rfl rfl (by dsimp only [aput, List.set]) ?_
  obtain ⟨g1, h⟩ := chk_e h
  refine w_op (a := .raw (.int .i64 (n + 1))) rfl rfl rfl (op_q (q_add rfl rfl rfl rfl g1.1 g1.2)) (by dsimp only [aput, List.set]) ?_
  obtain ⟨g2, h⟩ := chk_e h
  obtain ⟨x1, hx1, h⟩ := letE_e h
  refine w_op (a := .raw (.string (bs x1))) rfl rfl rfl (op_q (by rw [← hx1]; exact (q_sslLH (l := ([48, 49, 50, 51, 52, 53, 54, 55, 56, 57] : List UInt8)) g2 rfl rfl rfl rfl rfl))) (by dsimp only [aput, List.set]) ?_
  refine w_op (a := .raw (.string (bs x1))) rfl rfl rfl rfl (by dsimp only [aput, List.set]) ?_
  exact end_pureF (fun (r : (List UInt8)) => (.raw (.string (bs r)) : AV)) h (a := .raw (.string (bs x1))) rfl rfl rfl
 ·
  refine w_condF hc1 rfl ?_
  refine w_seq ?_
  refine w_draw (k0 := 0) (id := 3) 9 (by kernel_rfl) (by kernel_rfl) ?_
  refine h_op (a := .raw (.int .i64 n)) rfl rfl rfl rfl (by dsimp only [aput, List.set]) ?_
  refine h_op (a := .raw (.int .i64 (IntKind.i64.wrap (Int.tdiv n 10)))) rfl rfl rfl rfl (by dsimp only [aput, List.set]) ?_
  obtain ⟨g3, h⟩ := chk_e h
  obtain ⟨x2, hx2, h⟩ := letE_e h
  refine h_call (args' := [.raw (.int .i64 (IntKind.i64.wrap (Int.tdiv n 10)))]) (r := .raw (.string (bs x2))) (by rw [← hx2]; exact (ih (IntKind.i64.wrap (Int.tdiv n 10)) g3)) rfl rfl rfl (stripL_cons rfl rfl) (okTrimL_cons rfl rfl) (by dsimp only [aput, List.set]) ?_
  refine h_op (a := .raw (.int .i64 n)) rfl rfl rfl rfl (by dsimp only [aput, List.set]) ?_
  refine h_op (a := .raw (.int .i64 (Int.tmod n 10))) rfl rfl rfl rfl (by dsimp only [aput, List.set]) ?_
  refine h_op (a := .raw (.int .i64 n)) rfl rfl rfl rfl (by dsimp only [aput, List.set]) ?_
  refine h_op (a := .raw (.int .i64 (Int.tmod n 10))) rfl rfl rfl rfl (by dsimp only [aput, List.set]) ?_
  obtain ⟨g4, h⟩ := chk_e h
  refine h_op (a := .raw (.int .i64 ((Int.tmod n 10) + 1))) rfl rfl rfl (q_add rfl rfl rfl rfl g4.1 g4.2) (by dsimp only [aput, List.set]) ?_
  obtain ⟨g5, h⟩ := chk_e h
  obtain ⟨x3, hx3, h⟩ := letE_e h
  refine h_op (a := .raw (.string (bs x3))) rfl rfl rfl (by rw [← hx3]; exact (q_sslLH (l := ([48, 49, 50, 51, 52, 53, 54, 55, 56, 57] : List UInt8)) g5 rfl rfl rfl rfl rfl)) (by dsimp only [aput, List.set]) ?_
  refine h_end ?_
  obtain ⟨g6, h⟩ := chk_e h
  refine w_op (a := .raw (.string (bs (x2 ++ x3)))) rfl rfl rfl (op_q (q_stradd g6 rfl rfl rfl)) (by dsimp only [aput, List.set]) ?_
  refine w_op (a := .raw (.string (bs (x2 ++ x3)))) rfl rfl rfl rfl (by dsimp only [aput, List.set]) ?_
  exact end_pureF (fun (r : (List UInt8)) => (.raw (.string (bs r)) : AV)) h (a := .raw (.string (bs (x2 ++ x3)))) rfl rfl rfl
end Go.Ab

