/-
  TraceTells: reparteeref33.
-/
import Derived.Test.YtcdmdnadilafhaaGreatDoorZyRx
set_option linter.unusedSimpArgs false
set_option linter.unusedVariables false
namespace Go.Ab
open Go Go.RowKit Go.Fwd Go.Proofs
def F_rcheck (fuel : Nat) (t : Trc) : Option (Int × Int) :=
  (bif (decide ((List.length t.l : Int) > 65536)) then (some ((-1), 5)) else (cutE (τ := Unit) (loopE (β := Int × Int) (fun s1 => (bif (decide (s1.2 < (List.length t.l : Int))) then (cutE (τ := Int) (chk (0 ≤ s1.2 ∧ s1.2 < (List.length t.l : Int)) (letE (ix t.l s1.2) (fun x1 => (bindE (F_rright x1 s1.1) (fun x2 => (bif (!x2) then (some (Sum.inr (Sum.inr (Sum.inr (s1.2, 330))))) else (bif (x1.k != 1) then (some (Sum.inl (x1.to))) else (some (Sum.inl (s1.1)))))))))) (fun j2 => (chk (-9223372036854775808 ≤ (s1.2 + 1) ∧ (s1.2 + 1) < 9223372036854775808) (some (Sum.inl (j2, (s1.2 + 1))))))) else (some (Sum.inr (Sum.inl ()))))) fuel (0, 0)) (fun j1 => (bindE (F_rended t.e) (fun x3 => (bif (!x3) then (some ((-1), 331)) else (some ((-1), 0))))))))
theorem ent35 : Ent Tryz.prog 35 := enters_of Tryz.func35 (by kernel_rfl) rfl
set_option maxRecDepth 100000 in
set_option maxHeartbeats 4000000 in
theorem rcheck_sh (fuel : Nat) (t : Trc) (r : (Int × Int)) (h : F_rcheck fuel t = some r) : Pure (ITP Tryz.prog) Tryz.prog 35 [.agg (Enc.cells (t : Trc))] (.tup [.raw (.int .i64 r.1), .raw (.int .i64 r.2)]) := by
 obtain ⟨d, hd⟩ : ∃ d, Tryz.f35.body = some d := ⟨_, rfl⟩
 refine pure_of mix Tryz.func35 hd ent35 ?_
 cases hd
 unfold F_rcheck at h
 refine w_start (by dsimp only [abeginS, Tryz.f35, List.length_cons, List.length_nil, Nat.zero_add, Nat.reduceAdd, Nat.reduceSub, List.replicate, List.cons_append, List.nil_append]) (by dsimp only [St.empty]) ?_
 refine w_seq (w_region ?_)
 refine w_opm (a := .ptr 0 0) (σ'' := ⟨[(34, (Enc.cells (t : Trc)))], [], [], 0, false⟩) rfl rfl rfl rfl (by dsimp only [aput, List.set]) rfl ?_
 refine w_op (a := .raw (.int .i64 0)) rfl rfl rfl rfl (by dsimp only [aput, List.set]) ?_
 refine w_op (a := .raw (.int .i64 0)) rfl rfl rfl rfl (by dsimp only [aput, List.set]) ?_
 refine w_seq ?_
 refine w_seq (w_region ?_)
 refine w_op (a := .ptr 0 0) rfl rfl rfl rfl (by dsimp only [aput, List.set]) ?_
 refine w_op (a := .list (List.length (t.l : List En)) (Enc.cellsL (t.l : List En)) .none) rfl rfl rfl rfl (by dsimp only [aput, List.set]) ?_
 refine w_op (a := .raw (.int .i64 (List.length t.l : Int))) rfl rfl rfl rfl (by dsimp only [aput, List.set]) ?_
 refine w_op (a := .raw (.bool (decide ((List.length t.l : Int) > 65536)))) rfl rfl rfl rfl (by dsimp only [aput, List.set]) ?_
 refine bif_e h (fun hc1 h => ?_) (fun hc1 h => ?_)
 ·
  refine w_condT hc1 rfl ?_
  refine w_seq (w_region ?_)
  refine w_op (a := .raw (.int .i64 (-1))) rfl rfl rfl rfl (by dsimp only [aput, List.set]) ?_
  refine w_op (a := .raw (.int .i64 5)) rfl rfl rfl rfl (by dsimp only [aput, List.set]) ?_
  exact end_pureF (fun (r : (Int × Int)) => (.tup [.raw (.int .i64 r.1), .raw (.int .i64 r.2)] : AV)) h (a := .tup [.raw (.int .i64 (-1)), .raw (.int .i64 5)]) rfl (show okTrimL _ _ = true from (okTrimL_cons rfl (okTrimL_cons rfl rfl))) (show AV.tup (stripL _) = _ from congrArg AV.tup (stripL_cons rfl (stripL_cons rfl rfl)))
 ·
  refine w_condF hc1 rfl ?_
  refine w_seq (w_region ?_)
  refine w_op (a := .raw (.int .i64 0)) rfl rfl rfl rfl (by dsimp only [aput, List.set]) ?_
  refine w_cutF h [0, 2, 3, 4, 5, 6, 7, 8, 9, 10, 11, 12, 13, 14, 15, 16, 17, 18, 19, 20, 21, 22, 23, 24, 25, 26, 27, 28, 29, 30, 31, 32, 33, 34, 35, 36] (fun j1 => []) (fun j1 => ⟨[(34, (Enc.cells (t : Trc)))], [], [], 0, false⟩) ?_ ?_
  ·
   intro or1 h hr1
   refine w_seq (w_region ?_)
   refine w_op (a := .raw (.int .i64 0)) rfl rfl rfl rfl (by dsimp only [aput, List.set]) ?_
   refine w_block ?_
   refine w_loopF h [0, 2, 3, 4, 5, 6, 7, 8, 9, 10, 11, 12, 13, 14, 15, 16, 17, 18, 19, 20, 21, 22, 23, 24, 25, 26, 27, 28, 29, 30, 31, 32, 33, 34, 35, 36] (fun s1 => [(4, .raw (.int .i64 s1.1)), (5, .raw (.int .i64 s1.2))]) (fun s1 => ⟨[(34, (Enc.cells (t : Trc)))], [], [], 0, false⟩) ?_ ?_
   ·
    exact wm_of [false, true, false, false, true, true, false, false, false, false, false, false, false, false, false, false, false, false, false, false, false, false, false, false, false, false, false, false, false, false, false, false, false, false, false, false, false] (by kernel_rfl) (by kernel_rfl)
   ·
    intro s1 p1 h
    refine w_start (by dsimp only [setAll, topAll, List.foldl, List.set]) rfl ?_
    refine w_seq ?_
    refine w_seq (w_region ?_)
    refine w_op (a := .raw (.int .i64 s1.2)) rfl rfl rfl rfl (by dsimp only [aput, List.set]) ?_
    refine w_op (a := .ptr 0 0) rfl rfl rfl rfl (by dsimp only [aput, List.set]) ?_
    refine w_op (a := .list (List.length (t.l : List En)) (Enc.cellsL (t.l : List En)) .none) rfl rfl rfl rfl (by dsimp only [aput, List.set]) ?_
    refine w_op (a := .raw (.int .i64 (List.length t.l : Int))) rfl rfl rfl rfl (by dsimp only [aput, List.set]) ?_
    refine w_op (a := .raw (.bool (decide (s1.2 < (List.length t.l : Int))))) rfl rfl rfl rfl (by dsimp only [aput, List.set]) ?_
    refine bif_e h (fun hc2 h => ?_) (fun hc2 h => ?_)
    ·
     refine w_condT hc2 rfl ?_
     refine w_cutF h [2, 3, 4, 6, 11, 12, 13, 14, 15, 18, 19, 20, 21, 22, 23, 24, 25, 26, 27, 28, 29, 30, 31, 32] (fun j2 => [(4, .raw (.int .i64 j2))]) (fun j2 => ⟨[(34, (Enc.cells (t : Trc)))], [], [], 0, false⟩) ?_ ?_
     ·
      intro or2 h hr2
      refine w_block ?_
      refine w_seq (w_region ?_)
      refine w_op (a := .ptr 0 0) rfl rfl rfl rfl (by dsimp only [aput, List.set]) ?_
      refine w_op (a := .list (List.length (t.l : List En)) (Enc.cellsL (t.l : List En)) .none) rfl rfl rfl rfl (by dsimp only [aput, List.set]) ?_
      refine w_op (a := .raw (.int .i64 s1.2)) rfl rfl rfl rfl (by dsimp only [aput, List.set]) ?_
      obtain ⟨g1, h⟩ := chk_e h
      obtain ⟨x1, hx1, h⟩ := letE_e h
      refine w_op (a := .iptr (Enc.cells x1 ++ Enc.cellsL (List.drop (Int.toNat s1.2 + 1) t.l))) rfl rfl rfl (op_q (by rw [← hx1]; exact (q_idx (α := En) (l := t.l) g1 rfl rfl rfl rfl rfl))) (by dsimp only [aput, List.set]) ?_
      refine w_op (a := .agg (Enc.cells (x1 : En))) rfl rfl rfl rfl (by dsimp only [aput, List.set]) ?_
      refine w_opm (a := .ptr 1 0) (σ'' := ⟨[(34, (Enc.cells (t : Trc))), (67, (Enc.cells ((En.mk 0 0 0 []) : En)))], [], [], 0, false⟩) rfl rfl rfl rfl (by dsimp only [aput, List.set]) rfl ?_
      refine w_opm (σ'' := ⟨[(34, (Enc.cells (t : Trc))), (67, (Enc.cells (x1 : En)))], [], [], 0, false⟩) rfl rfl rfl (op_storeW (n := 4) rfl rfl rfl rfl rfl rfl rfl rfl (by decide)) (by dsimp only [aput, List.set]) rfl ?_
      refine w_seq ?_
      refine w_seq (w_region ?_)
      refine w_op (a := .agg (Enc.cells (x1 : En))) rfl rfl rfl rfl (by dsimp only [aput, List.set]) ?_
      refine w_op (a := .raw (.int .i64 s1.1)) rfl rfl rfl rfl (by dsimp only [aput, List.set]) ?_
      obtain ⟨x2, hx2, h⟩ := bindE_e h
      refine w_callc (args' := [.agg (Enc.cells (x1 : En)), .raw (.int .i64 s1.1)]) (r := .raw (.bool x2)) (rright_sh x1 s1.1 x2 hx2) rfl rfl (stripL_cons (strip_c (clo_agg (Enc.clo _))) (stripL_cons rfl rfl)) (okTrimL_cons (okTrim_clo _ _ (clo_agg (Enc.clo _))) (okTrimL_cons rfl rfl)) (by dsimp only [aput, List.set]) ?_
      refine w_op (a := .raw (.bool (!x2))) rfl rfl rfl rfl (by dsimp only [aput, List.set]) ?_
      refine bif_e h (fun hc3 h => ?_) (fun hc3 h => ?_)
      ·
       refine w_condT hc3 rfl ?_
       refine w_seq (w_region ?_)
       refine w_op (a := .raw (.int .i64 s1.2)) rfl rfl rfl rfl (by dsimp only [aput, List.set]) ?_
       refine w_op (a := .raw (.int .i64 s1.2)) rfl rfl rfl rfl (by dsimp only [aput, List.set]) ?_
       refine w_op (a := .raw (.int .i64 330)) rfl rfl rfl rfl (by dsimp only [aput, List.set]) ?_
       replace h := cut_inr h hr2
       refine loop_exit h (fun h => ?_)
       replace h := cut_inr h hr1
       exact end_pureF (fun (r : (Int × Int)) => (.tup [.raw (.int .i64 r.1), .raw (.int .i64 r.2)] : AV)) h (a := .tup [.raw (.int .i64 s1.2), .raw (.int .i64 330)]) rfl (show okTrimL _ _ = true from (okTrimL_cons rfl (okTrimL_cons rfl rfl))) (show AV.tup (stripL _) = _ from congrArg AV.tup (stripL_cons rfl (stripL_cons rfl rfl)))
      ·
       refine w_condF hc3 rfl ?_
       refine w_seq (w_region ?_)
       refine w_op (a := .ptr 1 0) rfl rfl rfl rfl (by dsimp only [aput, List.set]) ?_
       refine w_op (a := .raw (.int .u8 x1.k)) rfl rfl rfl rfl (by dsimp only [aput, List.set]) ?_
       refine w_op (a := .raw (.bool (x1.k != 1))) rfl rfl rfl rfl (by dsimp only [aput, List.set]) ?_
       refine bif_e h (fun hc4 h => ?_) (fun hc4 h => ?_)
       ·
        refine w_condT hc4 rfl ?_
        refine w_region (k0 := 0) (id := 11) ?_
        refine w_op (a := .ptr 1 2) rfl rfl rfl rfl (by dsimp only [aput, List.set]) ?_
        refine w_op (a := .raw (.int .i64 x1.to)) rfl rfl rfl rfl (by dsimp only [aput, List.set]) ?_
        refine w_op (a := .raw (.int .i64 x1.to)) rfl rfl rfl rfl (by dsimp only [aput, List.set]) ?_
        refine cut_done (o := or2) (x1.to) h ?_
        exact wm_trim [true, true, false, false, true, true, false, true, true, true, true, false, false, false, false, false, true, true, false, false, false, false, false, false, false, false, false, false, false, false, false, false, false, true, true, true, true] 1 (by kernel_rfl) (Nat.le_of_ble_eq_true rfl) (okSt_of (okB_cons (okTrimL_clo _ _ (Enc.clo _)) rfl)) (by dsimp only [setAll, topAll, List.foldl, List.set]; exact (okTrimL_cons rfl (okTrimL_cons (by decide) (okTrimL_cons rfl (okTrimL_cons rfl (okTrimL_cons rfl (okTrimL_cons rfl (okTrimL_cons rfl (okTrimL_cons rfl (okTrimL_cons rfl (okTrimL_cons rfl (okTrimL_cons rfl (okTrimL_cons rfl (okTrimL_cons rfl (okTrimL_cons rfl (okTrimL_cons rfl (okTrimL_cons rfl (okTrimL_cons rfl (okTrimL_cons rfl (okTrimL_cons rfl (okTrimL_cons rfl (okTrimL_cons rfl (okTrimL_cons rfl (okTrimL_cons rfl (okTrimL_cons rfl (okTrimL_cons rfl (okTrimL_cons rfl (okTrimL_cons rfl (okTrimL_cons rfl (okTrimL_cons rfl (okTrimL_cons rfl (okTrimL_cons rfl (okTrimL_cons rfl (okTrimL_cons rfl (okTrimL_cons rfl (okTrimL_cons rfl (okTrimL_cons rfl (okTrimL_cons rfl rfl)))))))))))))))))))))))))))))))))))))) (by kernel_rfl)
       ·
        refine w_condF hc4 rfl ?_
        refine cut_done (o := or2) (s1.1) h ?_
        exact wm_trim [true, true, false, false, true, true, false, true, true, true, true, false, false, false, false, false, true, true, false, false, false, false, false, false, false, false, false, false, false, false, false, false, false, true, true, true, true] 1 (by kernel_rfl) (Nat.le_of_ble_eq_true rfl) (okSt_of (okB_cons (okTrimL_clo _ _ (Enc.clo _)) rfl)) (by dsimp only [setAll, topAll, List.foldl, List.set]; exact (okTrimL_cons rfl (okTrimL_cons (by decide) (okTrimL_cons rfl (okTrimL_cons rfl (okTrimL_cons rfl (okTrimL_cons rfl (okTrimL_cons rfl (okTrimL_cons rfl (okTrimL_cons rfl (okTrimL_cons rfl (okTrimL_cons rfl (okTrimL_cons rfl (okTrimL_cons rfl (okTrimL_cons rfl (okTrimL_cons rfl (okTrimL_cons rfl (okTrimL_cons rfl (okTrimL_cons rfl (okTrimL_cons rfl (okTrimL_cons rfl (okTrimL_cons rfl (okTrimL_cons rfl (okTrimL_cons rfl (okTrimL_cons rfl (okTrimL_cons rfl (okTrimL_cons rfl (okTrimL_cons rfl (okTrimL_cons rfl (okTrimL_cons rfl (okTrimL_cons rfl (okTrimL_cons rfl (okTrimL_cons rfl (okTrimL_cons rfl (okTrimL_cons rfl (okTrimL_cons rfl (okTrimL_cons rfl (okTrimL_cons rfl rfl)))))))))))))))))))))))))))))))))))))) (by kernel_rfl)
     ·
      intro j2 h
      refine w_start (by dsimp only [setAll, topAll, List.foldl, List.set]) rfl ?_
      refine w_region (k0 := 0) (id := 6) ?_
      refine w_op (a := .raw (.int .i64 s1.2)) rfl rfl rfl rfl (by dsimp only [aput, List.set]) ?_
      obtain ⟨g2, h⟩ := chk_e h
      refine w_op (a := .raw (.int .i64 (s1.2 + 1))) rfl rfl rfl (op_q (q_add rfl rfl rfl rfl g2.1 g2.2)) (by dsimp only [aput, List.set]) ?_
      refine w_op (a := .raw (.int .i64 (s1.2 + 1))) rfl rfl rfl rfl (by dsimp only [aput, List.set]) ?_
      refine loop_next (p := p1) (j2, (s1.2 + 1)) h ?_
      exact wm_of [false, true, false, false, true, true, false, false, false, false, false, false, false, false, false, false, false, false, false, false, false, false, false, false, false, false, false, false, false, false, false, false, false, false, false, false, false] (by kernel_rfl) (by kernel_rfl)
    ·
     refine w_condF hc2 rfl ?_
     refine loop_exit h (fun h => ?_)
     refine cut_done (o := or1) () h ?_
     exact wm_of [false, true, false, false, false, false, false, false, false, false, false, false, false, false, false, false, false, false, false, false, false, false, false, false, false, false, false, false, false, false, false, false, false, false, false, false, false] (by kernel_rfl) (by kernel_rfl)
  ·
   intro j1 h
   refine w_start (by dsimp only [setAll, topAll, List.foldl, List.set]) rfl ?_
   refine w_seq ?_
   refine w_seq (w_region ?_)
   refine w_op (a := .ptr 0 1) rfl rfl rfl rfl (by dsimp only [aput, List.set]) ?_
   refine w_op (a := .agg (Enc.cells (t.e : Ed))) rfl rfl rfl rfl (by dsimp only [aput, List.set]) ?_
   obtain ⟨x3, hx3, h⟩ := bindE_e h
   refine w_callc (args' := [.agg (Enc.cells (t.e : Ed))]) (r := .raw (.bool x3)) (rended_sh t.e x3 hx3) rfl rfl (stripL_cons (strip_c (clo_agg (Enc.clo _))) rfl) (okTrimL_cons (okTrim_clo _ _ (clo_agg (Enc.clo _))) rfl) (by dsimp only [aput, List.set]) ?_
   refine w_op (a := .raw (.bool (!x3))) rfl rfl rfl rfl (by dsimp only [aput, List.set]) ?_
   refine bif_e h (fun hc5 h => ?_) (fun hc5 h => ?_)
   ·
    refine w_condT hc5 rfl ?_
    refine w_seq (w_region ?_)
    refine w_op (a := .raw (.int .i64 (-1))) rfl rfl rfl rfl (by dsimp only [aput, List.set]) ?_
    refine w_op (a := .raw (.int .i64 331)) rfl rfl rfl rfl (by dsimp only [aput, List.set]) ?_
    exact end_pureF (fun (r : (Int × Int)) => (.tup [.raw (.int .i64 r.1), .raw (.int .i64 r.2)] : AV)) h (a := .tup [.raw (.int .i64 (-1)), .raw (.int .i64 331)]) rfl (show okTrimL _ _ = true from (okTrimL_cons rfl (okTrimL_cons rfl rfl))) (show AV.tup (stripL _) = _ from congrArg AV.tup (stripL_cons rfl (stripL_cons rfl rfl)))
   ·
    refine w_condF hc5 rfl ?_
    refine w_seq (w_region ?_)
    refine w_op (a := .raw (.int .i64 (-1))) rfl rfl rfl rfl (by dsimp only [aput, List.set]) ?_
    refine w_op (a := .raw (.int .i64 0)) rfl rfl rfl rfl (by dsimp only [aput, List.set]) ?_
    exact end_pureF (fun (r : (Int × Int)) => (.tup [.raw (.int .i64 r.1), .raw (.int .i64 r.2)] : AV)) h (a := .tup [.raw (.int .i64 (-1)), .raw (.int .i64 0)]) rfl (show okTrimL _ _ = true from (okTrimL_cons rfl (okTrimL_cons rfl rfl))) (show AV.tup (stripL _) = _ from congrArg AV.tup (stripL_cons rfl (stripL_cons rfl rfl)))
def F_rsent (fuel : Nat) (t : Trc) : Option (List UInt8) :=
  (cutE (τ := (List UInt8)) (loopE (β := (List UInt8) × Int) (fun s1 => (bif (decide (s1.2 < (List.length t.l : Int))) then (cutE (τ := (List UInt8)) (chk (0 ≤ s1.2 ∧ s1.2 < (List.length t.l : Int)) (letE (ix t.l s1.2) (fun x1 => (bif (x1.k == 1) then (chk (0 ≤ s1.2 ∧ s1.2 < (List.length t.l : Int)) (letE (ix t.l s1.2) (fun x2 => (chk (List.length s1.1 + List.length x2.b ≤ 9223372036854775807) (some (Sum.inl ((s1.1 ++ x2.b)))))))) else (some (Sum.inl (s1.1))))))) (fun j2 => (chk (-9223372036854775808 ≤ (s1.2 + 1) ∧ (s1.2 + 1) < 9223372036854775808) (some (Sum.inl (j2, (s1.2 + 1))))))) else (some (Sum.inr (Sum.inl (s1.1)))))) fuel (([] : List UInt8), 0)) (fun j1 => (some j1)))
theorem ent37 : Ent Tryz.prog 37 := enters_of Tryz.func37 (by kernel_rfl) rfl
set_option maxRecDepth 100000 in
set_option maxHeartbeats 4000000 in
theorem rsent_sh (fuel : Nat) (t : Trc) (r : (List UInt8)) (h : F_rsent fuel t = some r) : Pure (ITP Tryz.prog) Tryz.prog 37 [.agg (Enc.cells (t : Trc))] (.raw (.string (bs r))) := by
 obtain ⟨d, hd⟩ : ∃ d, Tryz.f37.body = some d := ⟨_, rfl⟩
 refine pure_of mix Tryz.func37 hd ent37 ?_
 cases hd
 unfold F_rsent at h
 refine w_start (by dsimp only [abeginS, Tryz.f37, List.length_cons, List.length_nil, Nat.zero_add, Nat.reduceAdd, Nat.reduceSub, List.replicate, List.cons_append, List.nil_append]) (by dsimp only [St.empty]) ?_
 refine w_seq (w_region ?_)
 refine w_opm (a := .ptr 0 0) (σ'' := ⟨[(34, (Enc.cells (t : Trc)))], [], [], 0, false⟩) rfl rfl rfl rfl (by dsimp only [aput, List.set]) rfl ?_
 refine w_op (a := .raw (.string (bs ([] : List UInt8)))) rfl rfl rfl rfl (by dsimp only [aput, List.set]) ?_
 refine w_seq (w_region ?_)
 refine w_op (a := .raw (.string (bs ([] : List UInt8)))) rfl rfl rfl rfl (by dsimp only [aput, List.set]) ?_
 refine w_cutF h [0, 1, 2, 3, 4, 5, 6, 7, 8, 9, 10, 11, 12, 13, 14, 15, 16, 17, 18, 19, 20, 21, 22, 23, 24, 25, 26, 27] (fun j1 => [(3, .raw (.string (bs j1)))]) (fun j1 => ⟨[(34, (Enc.cells (t : Trc)))], [], [], 0, false⟩) ?_ ?_
 ·
  intro or1 h hr1
  refine w_seq (w_region ?_)
  refine w_op (a := .raw (.int .i64 0)) rfl rfl rfl rfl (by dsimp only [aput, List.set]) ?_
  refine w_block ?_
  refine w_loopF h [0, 2, 3, 4, 5, 6, 7, 8, 9, 10, 11, 12, 13, 14, 15, 16, 17, 18, 19, 20, 21, 22, 23, 24, 25, 26, 27] (fun s1 => [(3, .raw (.string (bs s1.1))), (4, .raw (.int .i64 s1.2))]) (fun s1 => ⟨[(34, (Enc.cells (t : Trc)))], [], [], 0, false⟩) ?_ ?_
  ·
   exact wm_of [false, true, false, true, true, false, false, false, false, false, false, false, false, false, false, false, false, false, false, false, false, false, false, false, false, false, false, false] (by kernel_rfl) (by kernel_rfl)
  ·
   intro s1 p1 h
   refine w_start (by dsimp only [setAll, topAll, List.foldl, List.set]) rfl ?_
   refine w_seq ?_
   refine w_seq (w_region ?_)
   refine w_op (a := .raw (.int .i64 s1.2)) rfl rfl rfl rfl (by dsimp only [aput, List.set]) ?_
   refine w_op (a := .ptr 0 0) rfl rfl rfl rfl (by dsimp only [aput, List.set]) ?_
   refine w_op (a := .list (List.length (t.l : List En)) (Enc.cellsL (t.l : List En)) .none) rfl rfl rfl rfl (by dsimp only [aput, List.set]) ?_
   refine w_op (a := .raw (.int .i64 (List.length t.l : Int))) rfl rfl rfl rfl (by dsimp only [aput, List.set]) ?_
   refine w_op (a := .raw (.bool (decide (s1.2 < (List.length t.l : Int))))) rfl rfl rfl rfl (by dsimp only [aput, List.set]) ?_
   refine bif_e h (fun hc1 h => ?_) (fun hc1 h => ?_)
   ·
    refine w_condT hc1 rfl ?_
    refine w_cutF h [3, 5, 6, 7, 8, 9, 12, 13, 14, 15, 16, 17, 18, 19, 20, 21, 22, 23, 24, 25, 26] (fun j2 => [(3, .raw (.string (bs j2)))]) (fun j2 => ⟨[(34, (Enc.cells (t : Trc)))], [], [], 0, false⟩) ?_ ?_
    ·
     intro or2 h hr2
     refine w_block ?_
     refine w_seq (w_region ?_)
     refine w_op (a := .ptr 0 0) rfl rfl rfl rfl (by dsimp only [aput, List.set]) ?_
     refine w_op (a := .list (List.length (t.l : List En)) (Enc.cellsL (t.l : List En)) .none) rfl rfl rfl rfl (by dsimp only [aput, List.set]) ?_
     refine w_op (a := .raw (.int .i64 s1.2)) rfl rfl rfl rfl (by dsimp only [aput, List.set]) ?_
     obtain ⟨g1, h⟩ := chk_e h
     obtain ⟨x1, hx1, h⟩ := letE_e h
     refine w_op (a := .iptr (Enc.cells x1 ++ Enc.cellsL (List.drop (Int.toNat s1.2 + 1) t.l))) rfl rfl rfl (op_q (by rw [← hx1]; exact (q_idx (α := En) (l := t.l) g1 rfl rfl rfl rfl rfl))) (by dsimp only [aput, List.set]) ?_
     refine w_op (a := .iptr (List.drop 0 (Enc.cells x1 ++ Enc.cellsL (List.drop (Int.toNat s1.2 + 1) t.l)))) rfl rfl rfl rfl (by dsimp only [aput, List.set]) ?_
     refine w_op (a := .raw (.int .u8 x1.k)) rfl rfl rfl rfl (by dsimp only [aput, List.set]) ?_
     refine w_op (a := .raw (.bool (x1.k == 1))) rfl rfl rfl rfl (by dsimp only [aput, List.set]) ?_
     refine bif_e h (fun hc2 h => ?_) (fun hc2 h => ?_)
     ·
      refine w_condT hc2 rfl ?_
      refine w_region (k0 := 0) (id := 6) ?_
      refine w_op (a := .raw (.string (bs s1.1))) rfl rfl rfl rfl (by dsimp only [aput, List.set]) ?_
      refine w_op (a := .ptr 0 0) rfl rfl rfl rfl (by dsimp only [aput, List.set]) ?_
      refine w_op (a := .list (List.length (t.l : List En)) (Enc.cellsL (t.l : List En)) .none) rfl rfl rfl rfl (by dsimp only [aput, List.set]) ?_
      refine w_op (a := .raw (.int .i64 s1.2)) rfl rfl rfl rfl (by dsimp only [aput, List.set]) ?_
      obtain ⟨g2, h⟩ := chk_e h
      obtain ⟨x2, hx2, h⟩ := letE_e h
      refine w_op (a := .iptr (Enc.cells x2 ++ Enc.cellsL (List.drop (Int.toNat s1.2 + 1) t.l))) rfl rfl rfl (op_q (by rw [← hx2]; exact (q_idx (α := En) (l := t.l) g2 rfl rfl rfl rfl rfl))) (by dsimp only [aput, List.set]) ?_
      refine w_op (a := .iptr (List.drop 3 (Enc.cells x2 ++ Enc.cellsL (List.drop (Int.toNat s1.2 + 1) t.l)))) rfl rfl rfl rfl (by dsimp only [aput, List.set]) ?_
      refine w_op (a := .raw (.string (bs x2.b))) rfl rfl rfl rfl (by dsimp only [aput, List.set]) ?_
      obtain ⟨g3, h⟩ := chk_e h
      refine w_op (a := .raw (.string (bs (s1.1 ++ x2.b)))) rfl rfl rfl (op_q (q_stradd g3 rfl rfl rfl)) (by dsimp only [aput, List.set]) ?_
      refine w_op (a := .raw (.string (bs (s1.1 ++ x2.b)))) rfl rfl rfl rfl (by dsimp only [aput, List.set]) ?_
      refine cut_done (o := or2) ((s1.1 ++ x2.b)) h ?_
      exact wm_of [true, true, true, true, true, false, false, false, false, false, true, true, false, false, false, false, false, false, false, false, false, false, false, false, false, false, false, true] (by kernel_rfl) (by kernel_rfl)
     ·
      refine w_condF hc2 rfl ?_
      refine cut_done (o := or2) (s1.1) h ?_
      exact wm_of [true, true, true, true, true, false, false, false, false, false, true, true, false, false, false, false, false, false, false, false, false, false, false, false, false, false, false, true] (by kernel_rfl) (by kernel_rfl)
    ·
     intro j2 h
     refine w_start (by dsimp only [setAll, topAll, List.foldl, List.set]) rfl ?_
     refine w_region (k0 := 0) (id := 4) ?_
     refine w_op (a := .raw (.int .i64 s1.2)) rfl rfl rfl rfl (by dsimp only [aput, List.set]) ?_
     obtain ⟨g4, h⟩ := chk_e h
     refine w_op (a := .raw (.int .i64 (s1.2 + 1))) rfl rfl rfl (op_q (q_add rfl rfl rfl rfl g4.1 g4.2)) (by dsimp only [aput, List.set]) ?_
     refine w_op (a := .raw (.int .i64 (s1.2 + 1))) rfl rfl rfl rfl (by dsimp only [aput, List.set]) ?_
     refine loop_next (p := p1) (j2, (s1.2 + 1)) h ?_
     exact wm_of [false, true, false, true, true, false, false, false, false, false, false, false, false, false, false, false, false, false, false, false, false, false, false, false, false, false, false, false] (by kernel_rfl) (by kernel_rfl)
   ·
    refine w_condF hc1 rfl ?_
    refine loop_exit h (fun h => ?_)
    refine cut_done (o := or1) (s1.1) h ?_
    exact wm_of [false, false, false, true, false, false, false, false, false, false, false, false, false, false, false, false, false, false, false, false, false, false, false, false, false, false, false, false] (by kernel_rfl) (by kernel_rfl)
 ·
  intro j1 h
  refine w_start (by dsimp only [setAll, topAll, List.foldl, List.set]) rfl ?_
  refine w_seq (w_region ?_)
  refine w_op (a := .raw (.string (bs j1))) rfl rfl rfl rfl (by dsimp only [aput, List.set]) ?_
  refine w_op (a := .raw (.string (bs j1))) rfl rfl rfl rfl (by dsimp only [aput, List.set]) ?_
  exact end_pureF (fun (r : (List UInt8)) => (.raw (.string (bs r)) : AV)) h (a := .raw (.string (bs j1))) rfl rfl rfl
def F_rsum (fuel : Nat) (t : Trc) (k : Int) : Option Int :=
  (cutE (τ := Int) (loopE (β := Int × Int) (fun s1 => (bif (decide (s1.2 < (List.length t.l : Int))) then (cutE (τ := Int) (chk (0 ≤ s1.2 ∧ s1.2 < (List.length t.l : Int)) (letE (ix t.l s1.2) (fun x1 => (bif (x1.k == k) then (chk (0 ≤ s1.2 ∧ s1.2 < (List.length t.l : Int)) (letE (ix t.l s1.2) (fun x2 => (chk (-9223372036854775808 ≤ (s1.1 + x2.to) ∧ (s1.1 + x2.to) < 9223372036854775808) (chk (0 ≤ s1.2 ∧ s1.2 < (List.length t.l : Int)) (letE (ix t.l s1.2) (fun x3 => (chk (-9223372036854775808 ≤ ((s1.1 + x2.to) - x3.fr) ∧ ((s1.1 + x2.to) - x3.fr) < 9223372036854775808) (some (Sum.inl (((s1.1 + x2.to) - x3.fr)))))))))))) else (some (Sum.inl (s1.1))))))) (fun j2 => (chk (-9223372036854775808 ≤ (s1.2 + 1) ∧ (s1.2 + 1) < 9223372036854775808) (some (Sum.inl (j2, (s1.2 + 1))))))) else (some (Sum.inr (Sum.inl (s1.1)))))) fuel (0, 0)) (fun j1 => (some j1)))
theorem ent38 : Ent Tryz.prog 38 := enters_of Tryz.func38 (by kernel_rfl) rfl
set_option maxRecDepth 100000 in
set_option maxHeartbeats 4000000 in
theorem rsum_sh (fuel : Nat) (t : Trc) (k : Int) (r : Int) (h : F_rsum fuel t k = some r) : Pure (ITP Tryz.prog) Tryz.prog 38 [.agg (Enc.cells (t : Trc)), .raw (.int .u8 k)] (.raw (.int .i64 r)) := by
 obtain ⟨d, hd⟩ : ∃ d, Tryz.f38.body = some d := ⟨_, rfl⟩
 refine pure_of mix Tryz.func38 hd ent38 ?_
 cases hd
 unfold F_rsum at h
 refine w_start (by dsimp only [abeginS, Tryz.f38, List.length_cons, List.length_nil, Nat.zero_add, Nat.reduceAdd, Nat.reduceSub, List.replicate, List.cons_append, List.nil_append]) (by dsimp only [St.empty]) ?_
 refine w_seq (w_region ?_)
 refine w_opm (a := .ptr 0 0) (σ'' := ⟨[(34, (Enc.cells (t : Trc)))], [], [], 0, false⟩) rfl rfl rfl rfl (by dsimp only [aput, List.set]) rfl ?_
 refine w_op (a := .raw (.int .i64 0)) rfl rfl rfl rfl (by dsimp only [aput, List.set]) ?_
 refine w_seq (w_region ?_)
 refine w_op (a := .raw (.int .i64 0)) rfl rfl rfl rfl (by dsimp only [aput, List.set]) ?_
 refine w_cutF h [0, 1, 2, 3, 4, 5, 6, 7, 8, 9, 10, 11, 12, 13, 14, 15, 16, 17, 18, 19, 20, 21, 22, 23, 24, 25, 26, 27, 28, 29, 30, 31, 32, 33, 34, 35, 36, 37] (fun j1 => [(5, .raw (.int .i64 j1))]) (fun j1 => ⟨[(34, (Enc.cells (t : Trc)))], [], [], 0, false⟩) ?_ ?_
 ·
  intro or1 h hr1
  refine w_seq (w_region ?_)
  refine w_op (a := .raw (.int .i64 0)) rfl rfl rfl rfl (by dsimp only [aput, List.set]) ?_
  refine w_block ?_
  refine w_loopF h [0, 3, 4, 5, 6, 7, 8, 9, 10, 11, 12, 13, 14, 15, 16, 17, 18, 19, 20, 21, 22, 23, 24, 25, 26, 27, 28, 29, 30, 31, 32, 33, 34, 35, 36, 37] (fun s1 => [(5, .raw (.int .i64 s1.1)), (6, .raw (.int .i64 s1.2))]) (fun s1 => ⟨[(34, (Enc.cells (t : Trc)))], [], [], 0, false⟩) ?_ ?_
  ·
   exact wm_of [false, true, true, false, false, true, true, false, false, false, false, false, false, false, false, false, false, false, false, false, false, false, false, false, false, false, false, false, false, false, false, false, false, false, false, false, false, false] (by kernel_rfl) (by kernel_rfl)
  ·
   intro s1 p1 h
   refine w_start (by dsimp only [setAll, topAll, List.foldl, List.set]) rfl ?_
   refine w_seq ?_
   refine w_seq (w_region ?_)
   refine w_op (a := .raw (.int .i64 s1.2)) rfl rfl rfl rfl (by dsimp only [aput, List.set]) ?_
   refine w_op (a := .ptr 0 0) rfl rfl rfl rfl (by dsimp only [aput, List.set]) ?_
   refine w_op (a := .list (List.length (t.l : List En)) (Enc.cellsL (t.l : List En)) .none) rfl rfl rfl rfl (by dsimp only [aput, List.set]) ?_
   refine w_op (a := .raw (.int .i64 (List.length t.l : Int))) rfl rfl rfl rfl (by dsimp only [aput, List.set]) ?_
   refine w_op (a := .raw (.bool (decide (s1.2 < (List.length t.l : Int))))) rfl rfl rfl rfl (by dsimp only [aput, List.set]) ?_
   refine bif_e h (fun hc1 h => ?_) (fun hc1 h => ?_)
   ·
    refine w_condT hc1 rfl ?_
    refine w_cutF h [5, 7, 8, 9, 10, 11, 14, 15, 16, 17, 18, 19, 20, 21, 22, 23, 24, 25, 26, 27, 28, 29, 30, 31, 32, 33, 34, 35, 36] (fun j2 => [(5, .raw (.int .i64 j2))]) (fun j2 => ⟨[(34, (Enc.cells (t : Trc)))], [], [], 0, false⟩) ?_ ?_
    ·
     intro or2 h hr2
     refine w_block ?_
     refine w_seq (w_region ?_)
     refine w_op (a := .ptr 0 0) rfl rfl rfl rfl (by dsimp only [aput, List.set]) ?_
     refine w_op (a := .list (List.length (t.l : List En)) (Enc.cellsL (t.l : List En)) .none) rfl rfl rfl rfl (by dsimp only [aput, List.set]) ?_
     refine w_op (a := .raw (.int .i64 s1.2)) rfl rfl rfl rfl (by dsimp only [aput, List.set]) ?_
     obtain ⟨g1, h⟩ := chk_e h
     obtain ⟨x1, hx1, h⟩ := letE_e h
     refine w_op (a := .iptr (Enc.cells x1 ++ Enc.cellsL (List.drop (Int.toNat s1.2 + 1) t.l))) rfl rfl rfl (op_q (by rw [← hx1]; exact (q_idx (α := En) (l := t.l) g1 rfl rfl rfl rfl rfl))) (by dsimp only [aput, List.set]) ?_
     refine w_op (a := .iptr (List.drop 0 (Enc.cells x1 ++ Enc.cellsL (List.drop (Int.toNat s1.2 + 1) t.l)))) rfl rfl rfl rfl (by dsimp only [aput, List.set]) ?_
     refine w_op (a := .raw (.int .u8 x1.k)) rfl rfl rfl rfl (by dsimp only [aput, List.set]) ?_
     refine w_op (a := .raw (.int .u8 k)) rfl rfl rfl rfl (by dsimp only [aput, List.set]) ?_
     refine w_op (a := .raw (.bool (x1.k == k))) rfl rfl rfl rfl (by dsimp only [aput, List.set]) ?_
     refine bif_e h (fun hc2 h => ?_) (fun hc2 h => ?_)
     ·
      refine w_condT hc2 rfl ?_
      refine w_draw (k0 := 0) (id := 6) 14 (by kernel_rfl) (by kernel_rfl) ?_
      refine h_op (a := .raw (.int .i64 s1.1)) rfl rfl rfl rfl (by dsimp only [aput, List.set]) ?_
      refine h_op (a := .ptr 0 0) rfl rfl rfl rfl (by dsimp only [aput, List.set]) ?_
      refine h_op (a := .list (List.length (t.l : List En)) (Enc.cellsL (t.l : List En)) .none) rfl rfl rfl rfl (by dsimp only [aput, List.set]) ?_
      refine h_op (a := .raw (.int .i64 s1.2)) rfl rfl rfl rfl (by dsimp only [aput, List.set]) ?_
      obtain ⟨g2, h⟩ := chk_e h
      obtain ⟨x2, hx2, h⟩ := letE_e h
      refine h_op (a := .iptr (Enc.cells x2 ++ Enc.cellsL (List.drop (Int.toNat s1.2 + 1) t.l))) rfl rfl rfl (by rw [← hx2]; exact (q_idx (α := En) (l := t.l) g2 rfl rfl rfl rfl rfl)) (by dsimp only [aput, List.set]) ?_
      refine h_op (a := .iptr (List.drop 2 (Enc.cells x2 ++ Enc.cellsL (List.drop (Int.toNat s1.2 + 1) t.l)))) rfl rfl rfl rfl (by dsimp only [aput, List.set]) ?_
      refine h_op (a := .raw (.int .i64 x2.to)) rfl rfl rfl rfl (by dsimp only [aput, List.set]) ?_
      obtain ⟨g3, h⟩ := chk_e h
      refine h_op (a := .raw (.int .i64 (s1.1 + x2.to))) rfl rfl rfl (q_add rfl rfl rfl rfl g3.1 g3.2) (by dsimp only [aput, List.set]) ?_
      refine h_op (a := .ptr 0 0) rfl rfl rfl rfl (by dsimp only [aput, List.set]) ?_
      refine h_op (a := .list (List.length (t.l : List En)) (Enc.cellsL (t.l : List En)) .none) rfl rfl rfl rfl (by dsimp only [aput, List.set]) ?_
      refine h_op (a := .raw (.int .i64 s1.2)) rfl rfl rfl rfl (by dsimp only [aput, List.set]) ?_
      obtain ⟨g4, h⟩ := chk_e h
      obtain ⟨x3, hx3, h⟩ := letE_e h
      refine h_op (a := .iptr (Enc.cells x3 ++ Enc.cellsL (List.drop (Int.toNat s1.2 + 1) t.l))) rfl rfl rfl (by rw [← hx3]; exact (q_idx (α := En) (l := t.l) g4 rfl rfl rfl rfl rfl)) (by dsimp only [aput, List.set]) ?_
      refine h_op (a := .iptr (List.drop 1 (Enc.cells x3 ++ Enc.cellsL (List.drop (Int.toNat s1.2 + 1) t.l)))) rfl rfl rfl rfl (by dsimp only [aput, List.set]) ?_
      refine h_op (a := .raw (.int .i64 x3.fr)) rfl rfl rfl rfl (by dsimp only [aput, List.set]) ?_
      refine h_end ?_
      obtain ⟨g5, h⟩ := chk_e h
      refine w_op (a := .raw (.int .i64 ((s1.1 + x2.to) - x3.fr))) rfl rfl rfl (op_q (q_sub rfl rfl rfl rfl g5.1 g5.2)) (by dsimp only [aput, List.set]) ?_
      refine w_op (a := .raw (.int .i64 ((s1.1 + x2.to) - x3.fr))) rfl rfl rfl rfl (by dsimp only [aput, List.set]) ?_
      refine cut_done (o := or2) (((s1.1 + x2.to) - x3.fr)) h ?_
      exact wm_of [true, true, true, true, true, true, true, false, false, false, false, false, true, true, false, false, false, false, false, false, false, false, false, false, false, false, false, false, false, false, false, false, false, false, false, false, false, true] (by kernel_rfl) (by kernel_rfl)
     ·
      refine w_condF hc2 rfl ?_
      refine cut_done (o := or2) (s1.1) h ?_
      exact wm_of [true, true, true, true, true, true, true, false, false, false, false, false, true, true, false, false, false, false, false, false, false, false, false, false, false, false, false, false, false, false, false, false, false, false, false, false, false, true] (by kernel_rfl) (by kernel_rfl)
    ·
     intro j2 h
     refine w_start (by dsimp only [setAll, topAll, List.foldl, List.set]) rfl ?_
     refine w_region (k0 := 0) (id := 4) ?_
     refine w_op (a := .raw (.int .i64 s1.2)) rfl rfl rfl rfl (by dsimp only [aput, List.set]) ?_
     obtain ⟨g6, h⟩ := chk_e h
     refine w_op (a := .raw (.int .i64 (s1.2 + 1))) rfl rfl rfl (op_q (q_add rfl rfl rfl rfl g6.1 g6.2)) (by dsimp only [aput, List.set]) ?_
     refine w_op (a := .raw (.int .i64 (s1.2 + 1))) rfl rfl rfl rfl (by dsimp only [aput, List.set]) ?_
     refine loop_next (p := p1) (j2, (s1.2 + 1)) h ?_
     exact wm_of [false, true, true, false, false, true, true, false, false, false, false, false, false, false, false, false, false, false, false, false, false, false, false, false, false, false, false, false, false, false, false, false, false, false, false, false, false, false] (by kernel_rfl) (by kernel_rfl)
   ·
    refine w_condF hc1 rfl ?_
    refine loop_exit h (fun h => ?_)
    refine cut_done (o := or1) (s1.1) h ?_
    exact wm_of [false, false, false, false, false, true, false, false, false, false, false, false, false, false, false, false, false, false, false, false, false, false, false, false, false, false, false, false, false, false, false, false, false, false, false, false, false, false] (by kernel_rfl) (by kernel_rfl)
 ·
  intro j1 h
  refine w_start (by dsimp only [setAll, topAll, List.foldl, List.set]) rfl ?_
  refine w_seq (w_region ?_)
  refine w_op (a := .raw (.int .i64 j1)) rfl rfl rfl rfl (by dsimp only [aput, List.set]) ?_
  refine w_op (a := .raw (.int .i64 j1)) rfl rfl rfl rfl (by dsimp only [aput, List.set]) ?_
  exact end_pureF (fun (r : Int) => (.raw (.int .i64 r) : AV)) h (a := .raw (.int .i64 j1)) rfl rfl rfl
def F_rwrite (fuel : Nat) (t : Trc) : Option (List UInt8) :=
  (cutE (τ := (List UInt8)) (loopE (β := (List UInt8) × Int) (fun s1 => (bif (decide (s1.2 < (List.length t.l : Int))) then (chk (0 ≤ s1.2 ∧ s1.2 < (List.length t.l : Int)) (letE (ix t.l s1.2) (fun x1 => (bindE (F_rline fuel x1) (fun x2 => (chk (List.length s1.1 + List.length x2 ≤ 9223372036854775807) (chk (List.length (s1.1 ++ x2) + List.length ([10] : List UInt8) ≤ 9223372036854775807) (chk (-9223372036854775808 ≤ (s1.2 + 1) ∧ (s1.2 + 1) < 9223372036854775808) (some (Sum.inl (((s1.1 ++ x2) ++ ([10] : List UInt8)), (s1.2 + 1)))))))))))) else (some (Sum.inr (Sum.inl (s1.1)))))) fuel (([] : List UInt8), 0)) (fun j1 => (bindE (F_rlast t.e) (fun x3 => (chk (List.length j1 + List.length x3 ≤ 9223372036854775807) (chk (List.length (j1 ++ x3) + List.length ([10] : List UInt8) ≤ 9223372036854775807) (some ((j1 ++ x3) ++ ([10] : List UInt8)))))))))
theorem ent39 : Ent Tryz.prog 39 := enters_of Tryz.func39 (by kernel_rfl) rfl
set_option maxRecDepth 100000 in
set_option maxHeartbeats 4000000 in
theorem rwrite_sh (fuel : Nat) (t : Trc) (r : (List UInt8)) (h : F_rwrite fuel t = some r) : Pure (ITP Tryz.prog) Tryz.prog 39 [.agg (Enc.cells (t : Trc))] (.raw (.string (bs r))) := by
 obtain ⟨d, hd⟩ : ∃ d, Tryz.f39.body = some d := ⟨_, rfl⟩
 refine pure_of mix Tryz.func39 hd ent39 ?_
 cases hd
 unfold F_rwrite at h
 refine w_start (by dsimp only [abeginS, Tryz.f39, List.length_cons, List.length_nil, Nat.zero_add, Nat.reduceAdd, Nat.reduceSub, List.replicate, List.cons_append, List.nil_append]) (by dsimp only [St.empty]) ?_
 refine w_seq (w_region ?_)
 refine w_opm (a := .ptr 0 0) (σ'' := ⟨[(34, (Enc.cells (t : Trc)))], [], [], 0, false⟩) rfl rfl rfl rfl (by dsimp only [aput, List.set]) rfl ?_
 refine w_op (a := .raw (.string (bs ([] : List UInt8)))) rfl rfl rfl rfl (by dsimp only [aput, List.set]) ?_
 refine w_seq (w_region ?_)
 refine w_op (a := .raw (.string (bs ([] : List UInt8)))) rfl rfl rfl rfl (by dsimp only [aput, List.set]) ?_
 refine w_cutF h [0, 2, 3, 4, 5, 6, 7, 8, 9, 10, 11, 12, 13, 14, 15, 16, 17, 18, 19, 20, 21, 22, 23, 24, 25, 26] (fun j1 => [(3, .raw (.string (bs j1)))]) (fun j1 => ⟨[(34, (Enc.cells (t : Trc)))], [], [], 0, false⟩) ?_ ?_
 ·
  intro or1 h hr1
  refine w_seq (w_region ?_)
  refine w_op (a := .raw (.int .i64 0)) rfl rfl rfl rfl (by dsimp only [aput, List.set]) ?_
  refine w_block ?_
  refine w_loopF h [0, 2, 3, 4, 5, 6, 7, 8, 9, 10, 11, 12, 13, 14, 15, 16, 17, 18, 19, 20, 21, 22, 23, 24, 25, 26] (fun s1 => [(3, .raw (.string (bs s1.1))), (4, .raw (.int .i64 s1.2))]) (fun s1 => ⟨[(34, (Enc.cells (t : Trc)))], [], [], 0, false⟩) ?_ ?_
  ·
   exact wm_of [false, true, false, true, true, false, false, false, false, false, false, false, false, false, false, false, false, false, false, false, false, false, false, false, false, false, false] (by kernel_rfl) (by kernel_rfl)
  ·
   intro s1 p1 h
   refine w_start (by dsimp only [setAll, topAll, List.foldl, List.set]) rfl ?_
   refine w_seq ?_
   refine w_seq (w_region ?_)
   refine w_op (a := .raw (.int .i64 s1.2)) rfl rfl rfl rfl (by dsimp only [aput, List.set]) ?_
   refine w_op (a := .ptr 0 0) rfl rfl rfl rfl (by dsimp only [aput, List.set]) ?_
   refine w_op (a := .list (List.length (t.l : List En)) (Enc.cellsL (t.l : List En)) .none) rfl rfl rfl rfl (by dsimp only [aput, List.set]) ?_
   refine w_op (a := .raw (.int .i64 (List.length t.l : Int))) rfl rfl rfl rfl (by dsimp only [aput, List.set]) ?_
   refine w_op (a := .raw (.bool (decide (s1.2 < (List.length t.l : Int))))) rfl rfl rfl rfl (by dsimp only [aput, List.set]) ?_
   refine bif_e h (fun hc1 h => ?_) (fun hc1 h => ?_)
   ·
    refine w_condT hc1 rfl ?_
    refine w_seq ?_
    refine w_block ?_
    refine w_region (k0 := 0) (id := 5) ?_
    refine w_op (a := .raw (.string (bs s1.1))) rfl rfl rfl rfl (by dsimp only [aput, List.set]) ?_
    refine w_op (a := .ptr 0 0) rfl rfl rfl rfl (by dsimp only [aput, List.set]) ?_
    refine w_op (a := .list (List.length (t.l : List En)) (Enc.cellsL (t.l : List En)) .none) rfl rfl rfl rfl (by dsimp only [aput, List.set]) ?_
    refine w_op (a := .raw (.int .i64 s1.2)) rfl rfl rfl rfl (by dsimp only [aput, List.set]) ?_
    obtain ⟨g1, h⟩ := chk_e h
    obtain ⟨x1, hx1, h⟩ := letE_e h
    refine w_op (a := .iptr (Enc.cells x1 ++ Enc.cellsL (List.drop (Int.toNat s1.2 + 1) t.l))) rfl rfl rfl (op_q (by rw [← hx1]; exact (q_idx (α := En) (l := t.l) g1 rfl rfl rfl rfl rfl))) (by dsimp only [aput, List.set]) ?_
    refine w_op (a := .agg (Enc.cells (x1 : En))) rfl rfl rfl rfl (by dsimp only [aput, List.set]) ?_
    obtain ⟨x2, hx2, h⟩ := bindE_e h
    refine w_callc (args' := [.agg (Enc.cells (x1 : En))]) (r := .raw (.string (bs x2))) (rline_sh fuel x1 x2 hx2) rfl rfl (stripL_cons (strip_c (clo_agg (Enc.clo _))) rfl) (okTrimL_cons (okTrim_clo _ _ (clo_agg (Enc.clo _))) rfl) (by dsimp only [aput, List.set]) ?_
    obtain ⟨g2, h⟩ := chk_e h
    refine w_op (a := .raw (.string (bs (s1.1 ++ x2)))) rfl rfl rfl (op_q (q_stradd g2 rfl rfl rfl)) (by dsimp only [aput, List.set]) ?_
    obtain ⟨g3, h⟩ := chk_e h
    refine w_op (a := .raw (.string (bs ((s1.1 ++ x2) ++ ([10] : List UInt8))))) rfl rfl rfl (op_q (q_stradd g3 rfl rfl rfl)) (by dsimp only [aput, List.set]) ?_
    refine w_op (a := .raw (.string (bs ((s1.1 ++ x2) ++ ([10] : List UInt8))))) rfl rfl rfl rfl (by dsimp only [aput, List.set]) ?_
    refine w_region (k0 := 0) (id := 4) ?_
    refine w_op (a := .raw (.int .i64 s1.2)) rfl rfl rfl rfl (by dsimp only [aput, List.set]) ?_
    obtain ⟨g4, h⟩ := chk_e h
    refine w_op (a := .raw (.int .i64 (s1.2 + 1))) rfl rfl rfl (op_q (q_add rfl rfl rfl rfl g4.1 g4.2)) (by dsimp only [aput, List.set]) ?_
    refine w_op (a := .raw (.int .i64 (s1.2 + 1))) rfl rfl rfl rfl (by dsimp only [aput, List.set]) ?_
    refine loop_next (p := p1) (((s1.1 ++ x2) ++ ([10] : List UInt8)), (s1.2 + 1)) h ?_
    exact wm_of [false, true, false, true, true, false, false, false, false, false, false, false, false, false, false, false, false, false, false, false, false, false, false, false, false, false, false] (by kernel_rfl) (by kernel_rfl)
   ·
    refine w_condF hc1 rfl ?_
    refine loop_exit h (fun h => ?_)
    refine cut_done (o := or1) (s1.1) h ?_
    exact wm_of [false, true, false, true, false, false, false, false, false, false, false, false, false, false, false, false, false, false, false, false, false, false, false, false, false, false, false] (by kernel_rfl) (by kernel_rfl)
 ·
  intro j1 h
  refine w_start (by dsimp only [setAll, topAll, List.foldl, List.set]) rfl ?_
  refine w_seq (w_region ?_)
  refine w_op (a := .raw (.string (bs j1))) rfl rfl rfl rfl (by dsimp only [aput, List.set]) ?_
  refine w_op (a := .ptr 0 1) rfl rfl rfl rfl (by dsimp only [aput, List.set]) ?_
  refine w_op (a := .agg (Enc.cells (t.e : Ed))) rfl rfl rfl rfl (by dsimp only [aput, List.set]) ?_
  obtain ⟨x3, hx3, h⟩ := bindE_e h
  refine w_callc (args' := [.agg (Enc.cells (t.e : Ed))]) (r := .raw (.string (bs x3))) (rlast_sh t.e x3 hx3) rfl rfl (stripL_cons (strip_c (clo_agg (Enc.clo _))) rfl) (okTrimL_cons (okTrim_clo _ _ (clo_agg (Enc.clo _))) rfl) (by dsimp only [aput, List.set]) ?_
  obtain ⟨g5, h⟩ := chk_e h
  refine w_op (a := .raw (.string (bs (j1 ++ x3)))) rfl rfl rfl (op_q (q_stradd g5 rfl rfl rfl)) (by dsimp only [aput, List.set]) ?_
  obtain ⟨g6, h⟩ := chk_e h
  refine w_op (a := .raw (.string (bs ((j1 ++ x3) ++ ([10] : List UInt8))))) rfl rfl rfl (op_q (q_stradd g6 rfl rfl rfl)) (by dsimp only [aput, List.set]) ?_
  refine w_op (a := .raw (.string (bs ((j1 ++ x3) ++ ([10] : List UInt8))))) rfl rfl rfl rfl (by dsimp only [aput, List.set]) ?_
  exact end_pureF (fun (r : (List UInt8)) => (.raw (.string (bs r)) : AV)) h (a := .raw (.string (bs ((j1 ++ x3) ++ ([10] : List UInt8))))) rfl rfl rfl
end Go.Ab

