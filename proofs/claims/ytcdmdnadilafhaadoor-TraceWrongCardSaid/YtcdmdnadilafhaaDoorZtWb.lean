/-
  trace: Write, Read.
-/
import Derived.Test.YtcdmdnadilafhaaDoorZtWa
import Derived.Test.YtcdmdnadilafhaaDoorZtW7
set_option linter.unusedSimpArgs false
set_option linter.unusedVariables false
namespace Go.Ab
open Go Go.RowKit Go.Fwd Go.Proofs
def F_write (fuel : Nat) (t : Trc) : Option ((List UInt8) × Int) :=
  (bindE (F_check fuel t) (fun x1 => (bif (x1.2 != 0) then (some (([] : List UInt8), x1.2)) else (cutE (τ := (Bool × List UInt8)) (loopE (β := Int × (Bool × List UInt8)) (fun s1 => (bif (decide (s1.1 < (List.length t.l : Int))) then (chk (0 ≤ s1.1 ∧ s1.1 < (List.length t.l : Int)) (letE (ix t.l s1.1) (fun x2 => (bindE (F_line fuel x2) (fun x3 => (chk (List.length x3 + List.length ([10] : List UInt8) ≤ 9223372036854775807) (chk ((List.length s1.2.2 + List.length (x3 ++ ([10] : List UInt8))) * 1 ≤ 140737488355328) (chk (-9223372036854775808 ≤ (s1.1 + 1) ∧ (s1.1 + 1) < 9223372036854775808) (some (Sum.inl ((s1.1 + 1), (true, (s1.2.2 ++ (x3 ++ ([10] : List UInt8))))))))))))))) else (some (Sum.inr (Sum.inl ((s1.2.1, s1.2.2))))))) fuel (0, (false, ([] : List UInt8)))) (fun j1 => (bindE (F_endw t.e) (fun x4 => (chk (List.length x4 + List.length ([10] : List UInt8) ≤ 9223372036854775807) (chk ((List.length j1.2 + List.length (x4 ++ ([10] : List UInt8))) * 1 ≤ 140737488355328) (some ((j1.2 ++ (x4 ++ ([10] : List UInt8))), 0)))))))))))
theorem ent15 : Ent Tryd.prog 15 := enters_of Tryd.func15 (by kernel_rfl) rfl
set_option maxRecDepth 100000 in
set_option maxHeartbeats 4000000 in
theorem write_sh (fuel : Nat) (t : Trc) (r : ((List UInt8) × Int)) (h : F_write fuel t = some r) : Pure (ITP Tryd.prog) Tryd.prog 15 [.agg (Enc.cells (t : Trc))] (.tup [.raw (.string (bs r.1)), .raw (.int .i64 r.2)]) := by
 obtain ⟨d, hd⟩ : ∃ d, Tryd.f15.body = some d := ⟨_, rfl⟩
 refine pure_of mix Tryd.func15 hd ent15 ?_
 cases hd
 unfold F_write at h
 refine w_start (by dsimp only [abeginS, Tryd.f15, List.length_cons, List.length_nil, Nat.zero_add, Nat.reduceAdd, Nat.reduceSub, List.replicate, List.cons_append, List.nil_append]) (by dsimp only [St.empty]) ?_
 refine w_seq (w_region ?_)
 refine w_opm (a := .ptr 0 0) (σ'' := ⟨[(26, (Enc.cells (t : Trc)))], [], [], 0, false⟩) rfl rfl rfl rfl (by dsimp only [aput, List.set]) rfl ?_
 refine w_op (a := .raw (.string (bs ([] : List UInt8)))) rfl rfl rfl rfl (by dsimp only [aput, List.set]) ?_
 refine w_op (a := .raw (.int .i64 0)) rfl rfl rfl rfl (by dsimp only [aput, List.set]) ?_
 refine w_seq ?_
 refine w_seq (w_region ?_)
 refine w_op (a := .agg (Enc.cells (t : Trc))) rfl rfl rfl rfl (by dsimp only [aput, List.set]) ?_
 obtain ⟨x1, hx1, h⟩ := bindE_e h
 refine w_callc (args' := [.agg (Enc.cells (t : Trc))]) (r := .tup [.raw (.int .i64 x1.1), .raw (.int .i64 x1.2)]) (check_sh fuel t x1 hx1) rfl rfl (stripL_cons (strip_c (clo_agg (Enc.clo _))) rfl) (okTrimL_cons (okTrim_clo _ _ (clo_agg (Enc.clo _))) rfl) (by dsimp only [aput, List.set]) ?_
 refine w_op (a := .tup [.raw (.int .i64 x1.1), .raw (.int .i64 x1.2)]) rfl rfl rfl rfl (by dsimp only [aput, List.set]) ?_
 refine w_op (a := .raw (.int .i64 x1.1)) rfl rfl rfl rfl (by dsimp only [aput, List.set]) ?_
 refine w_op (a := .raw (.int .i64 x1.2)) rfl rfl rfl rfl (by dsimp only [aput, List.set]) ?_
 refine w_op (a := .raw (.int .i64 x1.1)) rfl rfl rfl rfl (by dsimp only [aput, List.set]) ?_
 refine w_op (a := .raw (.int .i64 x1.2)) rfl rfl rfl rfl (by dsimp only [aput, List.set]) ?_
 refine w_seq (w_region ?_)
 refine w_op (a := .raw (.int .i64 x1.2)) rfl rfl rfl rfl (by dsimp only [aput, List.set]) ?_
 refine w_op (a := .raw (.bool (x1.2 != 0))) rfl rfl rfl rfl (by dsimp only [aput, List.set]) ?_
 refine bif_e h (fun hc1 h => ?_) (fun hc1 h => ?_)
 ·
  refine w_condT hc1 rfl ?_
  refine w_seq (w_region ?_)
  refine w_op (a := .raw (.int .i64 x1.2)) rfl rfl rfl rfl (by dsimp only [aput, List.set]) ?_
  refine w_op (a := .raw (.string (bs ([] : List UInt8)))) rfl rfl rfl rfl (by dsimp only [aput, List.set]) ?_
  refine w_op (a := .raw (.int .i64 x1.2)) rfl rfl rfl rfl (by dsimp only [aput, List.set]) ?_
  exact end_pureF (fun (r : ((List UInt8) × Int)) => (.tup [.raw (.string (bs r.1)), .raw (.int .i64 r.2)] : AV)) h (a := .tup [.raw (.string (bs ([] : List UInt8))), .raw (.int .i64 x1.2)]) rfl (show okTrimL _ _ = true from (okTrimL_cons rfl (okTrimL_cons rfl rfl))) (show AV.tup (stripL _) = _ from congrArg AV.tup (stripL_cons rfl (stripL_cons rfl rfl)))
 ·
  refine w_condF hc1 rfl ?_
  refine w_seq (w_region ?_)
  refine w_opB (a := .ptr 1 0) (σ'' := (ownSt [(26, (Enc.cells (t : Trc))), (71, (bldC 1 false ([] : List UInt8)))] 5 (List.length (([] : List UInt8) : List UInt8)) 1)) rfl rfl rfl rfl (by dsimp only [aput, List.set]) rfl ?_
  refine w_cutF h [0, 2, 3, 4, 5, 7, 8, 9, 10, 11, 12, 13, 14, 15, 16, 17, 18, 19, 20, 21, 22, 23, 24, 25, 26, 27, 28, 29, 30, 31, 32, 33, 34] (fun j1 => []) (fun j1 => (ownSt [(26, (Enc.cells (t : Trc))), (71, (bldC 1 j1.1 j1.2))] 5 (List.length (j1.2 : List UInt8)) 1)) ?_ ?_
  ·
   intro or1 h hr1
   refine w_seq (w_region ?_)
   refine w_op (a := .ptr 0 0) rfl rfl rfl rfl (by dsimp only [aput, List.set]) ?_
   refine w_op (a := .list (List.length (t.l : List En)) (Enc.cellsL (t.l : List En)) .none) rfl rfl rfl rfl (by dsimp only [aput, List.set]) ?_
   refine w_op (a := .raw (.int .i64 (List.length t.l : Int))) rfl rfl rfl rfl (by dsimp only [aput, List.set]) ?_
   refine w_op (a := .raw (.int .i64 0)) rfl rfl rfl rfl (by dsimp only [aput, List.set]) ?_
   refine w_block ?_
   refine w_loopF h [0, 2, 3, 4, 5, 7, 8, 9, 10, 11, 12, 13, 14, 15, 16, 17, 20, 21, 22, 23, 24, 25, 26, 27, 28, 29, 30, 31, 32, 33, 34] (fun s1 => [(20, .raw (.int .i64 s1.1))]) (fun s1 => (ownSt [(26, (Enc.cells (t : Trc))), (71, (bldC 1 s1.2.1 s1.2.2))] 5 (List.length (s1.2.2 : List UInt8)) 1)) ?_ ?_
   ·
    exact wm_of [false, true, false, false, false, false, true, false, false, false, false, false, false, false, false, false, false, false, true, true, true, false, false, false, false, false, false, false, false, false, false, false, false, false, false] (by kernel_rfl) (by kernel_rfl)
   ·
    intro s1 p1 h
    refine w_start (by dsimp only [setAll, topAll, List.foldl, List.set]) rfl ?_
    refine w_seq (w_region ?_)
    refine w_op (a := .raw (.bool (decide (s1.1 < (List.length t.l : Int))))) rfl rfl rfl rfl (by dsimp only [aput, List.set]) ?_
    refine w_seq ?_
    refine bif_e h (fun hc2 h => ?_) (fun hc2 h => ?_)
    ·
     refine w_condT hc2 rfl ?_
     refine w_seq ?_
     refine w_block ?_
     refine w_seq (w_region ?_)
     obtain ⟨g1, h⟩ := chk_e h
     obtain ⟨x2, hx2, h⟩ := letE_e h
     refine w_op (a := .iptr (Enc.cells x2 ++ Enc.cellsL (List.drop (Int.toNat s1.1 + 1) t.l))) rfl rfl rfl (op_q (by rw [← hx2]; exact (q_idx (α := En) (l := t.l) g1 rfl rfl rfl rfl rfl))) (by dsimp only [aput, List.set]) ?_
     refine w_op (a := .agg (Enc.cells (x2 : En))) rfl rfl rfl rfl (by dsimp only [aput, List.set]) ?_
     refine w_opm (a := .ptr 2 0) (σ'' := (ownSt [(26, (Enc.cells (t : Trc))), (71, (bldC 1 s1.2.1 s1.2.2)), (43, (Enc.cells ((En.mk 0 0 0 []) : En)))] 5 (List.length (s1.2.2 : List UInt8)) 1)) rfl rfl rfl rfl (by dsimp only [aput, List.set]) rfl ?_
     refine w_opm (σ'' := (ownSt [(26, (Enc.cells (t : Trc))), (71, (bldC 1 s1.2.1 s1.2.2)), (43, (Enc.cells (x2 : En)))] 5 (List.length (s1.2.2 : List UInt8)) 1)) rfl rfl rfl (op_storeW (n := 4) rfl rfl rfl rfl rfl rfl rfl rfl (by decide)) (by dsimp only [aput, List.set]) rfl ?_
     refine w_region (k0 := 0) (id := 8) ?_
     refine w_op (a := .agg (Enc.cells (x2 : En))) rfl rfl rfl rfl (by dsimp only [aput, List.set]) ?_
     obtain ⟨x3, hx3, h⟩ := bindE_e h
     refine w_callc (args' := [.agg (Enc.cells (x2 : En))]) (r := .raw (.string (bs x3))) (line_sh fuel x2 x3 hx3) rfl rfl (stripL_cons (strip_c (clo_agg (Enc.clo _))) rfl) (okTrimL_cons (okTrim_clo _ _ (clo_agg (Enc.clo _))) rfl) (by dsimp only [aput, List.set]) ?_
     obtain ⟨g2, h⟩ := chk_e h
     refine w_op (a := .raw (.string (bs (x3 ++ ([10] : List UInt8))))) rfl rfl rfl (op_q (q_stradd g2 rfl rfl rfl)) (by dsimp only [aput, List.set]) ?_
     obtain ⟨g3, h⟩ := chk_e h
     refine w_snd (r := .tup [.raw (.int .i64 (List.length (x3 ++ ([10] : List UInt8)) : Int)), .raw .nilIface]) (σ' := (ownSt [(26, (Enc.cells (t : Trc))), (71, (bldC 1 true (s1.2.2 ++ (x3 ++ ([10] : List UInt8))))), (43, (Enc.cells (x2 : En)))] 5 (List.length ((s1.2.2 ++ (x3 ++ ([10] : List UInt8))) : List UInt8)) 1)) (bld_write (u := s1.2.1) (l := s1.2.2) (b := (x3 ++ ([10] : List UInt8))) g3 rfl) rfl rfl ⟨rfl, rfl⟩ (by dsimp only [aput, List.set]) ?_
     refine w_region (k0 := 0) (id := 9) ?_
     obtain ⟨g4, h⟩ := chk_e h
     refine w_op (a := .raw (.int .i64 (s1.1 + 1))) rfl rfl rfl (op_q (q_add rfl rfl rfl rfl g4.1 g4.2)) (by dsimp only [aput, List.set]) ?_
     refine w_op (a := .raw (.int .i64 (s1.1 + 1))) rfl rfl rfl rfl (by dsimp only [aput, List.set]) ?_
     refine loop_next (p := p1) ((s1.1 + 1), (true, (s1.2.2 ++ (x3 ++ ([10] : List UInt8))))) h ?_
     exact wm_trim [false, true, false, false, false, false, true, false, false, false, false, false, false, false, false, false, false, false, true, true, true, false, false, false, false, false, false, false, false, false, false, false, false, false, false] 2 (by kernel_rfl) (Nat.le_of_ble_eq_true rfl) (okSt_of (okB_cons (okTrimL_clo _ _ (Enc.clo _)) (okB_cons (okT_bld (by decide)) rfl))) (by dsimp only [setAll, topAll, List.foldl, List.set]; exact (okTrimL_cons rfl (okTrimL_cons (by decide) (okTrimL_cons rfl (okTrimL_cons rfl (okTrimL_cons rfl (okTrimL_cons rfl (okTrimL_cons (by decide) (okTrimL_cons rfl (okTrimL_cons rfl (okTrimL_cons rfl (okTrimL_cons rfl (okTrimL_cons rfl (okTrimL_cons rfl (okTrimL_cons rfl (okTrimL_cons rfl (okTrimL_cons rfl (okTrimL_cons rfl (okTrimL_cons rfl (okTrimL_cons (okTrim_l (Enc.cloL _)) (okTrimL_cons rfl (okTrimL_cons rfl (okTrimL_cons rfl (okTrimL_cons rfl (okTrimL_cons rfl (okTrimL_cons rfl (okTrimL_cons rfl (okTrimL_cons rfl (okTrimL_cons rfl (okTrimL_cons rfl (okTrimL_cons rfl (okTrimL_cons rfl (okTrimL_cons rfl (okTrimL_cons rfl (okTrimL_cons rfl (okTrimL_cons rfl rfl)))))))))))))))))))))))))))))))))))) (by kernel_rfl)
    ·
     refine w_condF hc2 rfl ?_
     refine loop_exit h (fun h => ?_)
     refine cut_done (o := or1) ((s1.2.1, s1.2.2)) h ?_
     exact wm_of [false, true, false, false, false, false, true, false, false, false, false, false, false, false, false, false, false, false, false, false, false, false, false, false, false, false, false, false, false, false, false, false, false, false, false] (by kernel_rfl) (by kernel_rfl)
  ·
   intro j1 h
   refine w_start (by dsimp only [setAll, topAll, List.foldl, List.set]) rfl ?_
   refine w_seq (w_region ?_)
   refine w_op (a := .ptr 0 1) rfl rfl rfl rfl (by dsimp only [aput, List.set]) ?_
   refine w_op (a := .agg (Enc.cells (t.e : Ed))) rfl rfl rfl rfl (by dsimp only [aput, List.set]) ?_
   obtain ⟨x4, hx4, h⟩ := bindE_e h
   refine w_callc (args' := [.agg (Enc.cells (t.e : Ed))]) (r := .raw (.string (bs x4))) (endw_sh t.e x4 hx4) rfl rfl (stripL_cons (strip_c (clo_agg (Enc.clo _))) rfl) (okTrimL_cons (okTrim_clo _ _ (clo_agg (Enc.clo _))) rfl) (by dsimp only [aput, List.set]) ?_
   obtain ⟨g5, h⟩ := chk_e h
   refine w_op (a := .raw (.string (bs (x4 ++ ([10] : List UInt8))))) rfl rfl rfl (op_q (q_stradd g5 rfl rfl rfl)) (by dsimp only [aput, List.set]) ?_
   obtain ⟨g6, h⟩ := chk_e h
   refine w_snd (r := .tup [.raw (.int .i64 (List.length (x4 ++ ([10] : List UInt8)) : Int)), .raw .nilIface]) (σ' := (ownSt [(26, (Enc.cells (t : Trc))), (71, (bldC 1 true (j1.2 ++ (x4 ++ ([10] : List UInt8)))))] 5 (List.length ((j1.2 ++ (x4 ++ ([10] : List UInt8))) : List UInt8)) 1)) (bld_write (u := j1.1) (l := j1.2) (b := (x4 ++ ([10] : List UInt8))) g6 rfl) rfl rfl ⟨rfl, rfl⟩ (by dsimp only [aput, List.set]) ?_
   refine w_seq (w_region ?_)
   refine w_snd (r := .raw (.string (bs (j1.2 ++ (x4 ++ ([10] : List UInt8)))))) (σ' := (ownSt [(26, (Enc.cells (t : Trc))), (71, (bldC 1 true (j1.2 ++ (x4 ++ ([10] : List UInt8)))))] 5 (List.length ((j1.2 ++ (x4 ++ ([10] : List UInt8))) : List UInt8)) 1)) (bld_string (u := true) (l := (j1.2 ++ (x4 ++ ([10] : List UInt8)))) rfl) rfl rfl ⟨rfl, rfl⟩ (by dsimp only [aput, List.set]) ?_
   refine w_op (a := .raw (.string (bs (j1.2 ++ (x4 ++ ([10] : List UInt8)))))) rfl rfl rfl rfl (by dsimp only [aput, List.set]) ?_
   refine w_op (a := .raw (.int .i64 0)) rfl rfl rfl rfl (by dsimp only [aput, List.set]) ?_
   exact end_pureF (fun (r : ((List UInt8) × Int)) => (.tup [.raw (.string (bs r.1)), .raw (.int .i64 r.2)] : AV)) h (a := .tup [.raw (.string (bs (j1.2 ++ (x4 ++ ([10] : List UInt8))))), .raw (.int .i64 0)]) rfl (show okTrimL _ _ = true from (okTrimL_cons rfl (okTrimL_cons rfl rfl))) (show AV.tup (stripL _) = _ from congrArg AV.tup (stripL_cons rfl (stripL_cons rfl rfl)))
end Go.Ab

