/-
  trace: Write, Read.
-/
import Derived.Test.YtcdmdnadilafhaaDoorZtWa
import Derived.Test.YtcdmdnadilafhaaDoorZtW7
set_option linter.unusedSimpArgs false
set_option linter.unusedVariables false
namespace Go.Ab
open Go Go.RowKit Go.Fwd Go.Proofs
def F_write (fuel : Nat) (t : Trc) : Option ((List UInt8) × Int) :=
  (bindE (F_check fuel t) (fun x1 => (bif (x1.2 != 0) then (some (([] : List UInt8), x1.2)) else (cutE (τ := (Bool × List UInt8)) (loopE (β := Int × (Bool × List UInt8)) (fun s1 => (bif (decide (s1.1 < (List.length t.l : Int))) then (chk (0 ≤ s1.1 ∧ s1.1 < (List.length t.l : Int)) (letE (ix t.l s1.1) (fun x2 => (bindE (F_line fuel x2) (fun x3 => (chk (List.length x3 + List.length ([10] : List UInt8) ≤ 9223372036854775807) (chk ((List.length s1.2.2 + List.length (x3 ++ ([10] : List UInt8))) * 1 ≤ 140737488355328) (chk (-9223372036854775808 ≤ (s1.1 + 1) ∧ (s1.1 + 1) < 9223372036854775808) (some (Sum.inl ((s1.1 + 1), (true, (s1.2.2 ++ (x3 ++ ([10] : List UInt8))))))))))))))) else (some (Sum.inr (Sum.inl ((s1.2.1, s1.2.2))))))) fuel (0, (false, ([] : List UInt8)))) (fun j1 => (bindE (F_endw t.e) (fun x4 => (chk (List.length x4 + List.length ([10] : List UInt8) ≤ 9223372036854775807) (chk ((List.length j1.2 + List.length (x4 ++ ([10] : List UInt8))) * 1 ≤ 140737488355328) (some ((j1.2 ++ (x4 ++ ([10] : List UInt8))), 0)))))))))))
theorem ent15 : Ent Tryd.prog 15 := enters_of Tryd.func15 (by kernel_rfl) rfl
set_option maxRecDepth 100000 in
set_option maxHeartbeats 4000000 in
theorem write_sh (fuel : Nat) (t : Trc) (r : ((List UInt8) × Int)) (h : F_write fuel t = some r) : Pure (ITP Tryd.prog) Tryd.prog 15 [.agg (Enc.cells (t : Trc))] (.tup [.raw (.string (bs r.1)), .raw (.int .i64 r.2)]) := by
 obtain ⟨d, hd⟩ : ∃ d, Tryd.f15.body = some d := ⟨_, rfl⟩
 refine pure_of mix Tryd.func15 hd ent15 ?_
 cases hd
 unfold F_write at h
 refine w_start (by dsimp only [abeginS, Tryd.f15, List.length_cons, List.length_nil, Nat.zero_add, Nat.reduceAdd, Nat.reduceSub, List.replicate, List.cons_append, List.nil_append]) (by dsimp only [St.empty]) ?_
 refine w_seq (w_region ?_)
 refine w_opm (a := .ptr 0 0) (σ'' := ⟨[(26, (Enc.cells (t : Trc)))], [], [], 0, false⟩) rfl rfl rfl rfl (by dsimp only [aput, List.set]) rfl ?_
 refine w_op (a := .raw (.string (bs ([] : List UInt8)))) rfl rfl rfl rfl (by dsimp only [aput, List.set]) ?_
 refine w_op (a := .raw (.int .i64 0)) rfl rfl rfl rfl (by dsimp only [aput, List.set]) ?_
 refine w_seq ?_
 refine w_seq (w_region ?_)
 refine w_op (a := .agg (Enc.cells (t : Trc))) rfl rfl rfl rfl (by dsimp only [aput, List.set]) ?_
 obtain ⟨x1, hx1, h⟩ := bindE_e h
 refine w_callc (args' := [.agg (Enc.cells (t : Trc))]) (r := .tup [.raw (.int .i64 x1.1), .raw (.int .i64 x1.2)]) (check_sh fuel t x1 hx1) rfl rfl (stripL_cons (strip_c (clo_agg (Enc.clo _))) rfl) (okTrimL_cons (okTrim_clo _ _ (clo_agg (Enc.clo _))) rfl) (by dsimp only [aput, List.set]) ?_
 refine w_op (a := .tup [.raw (.int .i64 x1.1), .raw (.int .i64 x1.2)]) rfl rfl rfl rfl (by dsimp only [aput, List.set]) ?_
 refine w_op (a := .raw (.int .i64 x1.1)) rfl rfl rfl rfl (by dsimp only [aput, List.set]) ?_
 refine w_op (a := .raw (.int .i64 x1.2)) rfl rfl rfl rfl (by dsimp only [aput, List.set]) ?_
 refine w_op (a := .raw (.int .i64 x1.1)) rfl rfl rfl rfl (by dsimp only [aput, List.set]) ?_
 refine w_op (a := .raw (.int .i64 x1.2)) rfl rfl rfl rfl (by dsimp only [aput, List.set]) ?_
 refine w_seq (w_region ?_)
 refine w_op (a := .raw (.int .i64 x1.2)) rfl rfl rfl rfl (by dsimp only [aput, List.set]) ?_
 refine w_op (a := .raw (.bool (x1.2 != 0))) rfl rfl rfl rfl (by dsimp only [aput, List.set]) ?_
 refine bif_e h (fun hc1 h => ?_) (fun hc1 h => ?_)
 ·
  refine w_condT hc1 rfl ?_
  refine w_seq (w_region ?_)
  refine w_op (a := .raw (.int .i64 x1.2)) rfl rfl rfl rfl (by dsimp only [aput, List.set]) ?_
  refine w_op (a := .raw (.string (bs ([] : List UInt8)))) rfl rfl rfl rfl (by dsimp only [aput, List.set]) ?_
  refine w_op (a := .raw (.int .i64 x1.2)) rfl rfl rfl rfl (by dsimp only [aput, List.set]) ?_
  exact end_pureF (fun (r : ((List UInt8) × Int)) => (.tup [.raw (.string (bs r.1)), .raw (.int .i64 r.2)] : AV)) h (a := .tup [.raw (.string (bs ([] : List UInt8))), .raw (.int .i64 x1.2)]) rfl (show okTrimL _ _ = true from (okTrimL_cons rfl (okTrimL_cons rfl rfl))) (show AV.tup (stripL _) = _ from congrArg AV.tup (stripL_cons rfl (stripL_cons rfl rfl)))
 ·
  refine w_condF hc1 rfl ?_
  refine w_seq (w_region ?_)
  refine w_opB (a := .ptr 1 0) (σ'' := (ownSt [(26, (Enc.cells (t : Trc))), (71, (bldC 1 false ([] : List UInt8)))] 5 (List.length (([] : List UInt8) : List UInt8)) 1)) rfl rfl rfl rfl (by dsimp only [aput, List.set]) rfl ?_
  refine w_cutF h [0, 2, 3, 4, 5, 7, 8, 9, 10, 11, 12, 13, 14, 15, 16, 17, 18, 19, 20, 21, 22, 23, 24, 25, 26, 27, 28, 29, 30, 31, 32, 33, 34] (fun j1 => []) (fun j1 => (ownSt [(26, (Enc.cells (t : Trc))), (71, (bldC 1 j1.1 j1.2))] 5 (List.length (j1.2 : List UInt8)) 1)) ?_ ?_
  ·
   intro or1 h hr1
   refine w_seq (w_region ?_)
   refine w_op (a := .ptr 0 0) rfl rfl rfl rfl (by dsimp only [aput, List.set]) ?_
   refine w_op (a := .list (List.length (t.l : List En)) (Enc.cellsL (t.l : List En)) .none) rfl rfl rfl rfl (by dsimp only [aput, List.set]) ?_
   refine w_op (a := .raw (.int .i64 (List.length t.l : Int))) rfl rfl rfl rfl (by dsimp only [aput, List.set]) ?_
   refine w_op (a := .raw (.int .i64 0)) rfl rfl rfl rfl (by dsimp only [aput, List.set]) ?_
   refine w_block ?_
   refine w_loopF h [0, 2, 3, 4, 5, 7, 8, 9, 10, 11, 12, 13, 14, 15, 16, 17, 20, 21, 22, 23, 24, 25, 26, 27, 28, 29, 30, 31, 32, 33, 34] (fun s1 => [(20, .raw (.int .i64 s1.1))]) (fun s1 => (ownSt [(26, (Enc.cells (t : Trc))), (71, (bldC 1 s1.2.1 s1.2.2))] 5 (List.length (s1.2.2 : List UInt8)) 1)) ?_ ?_
   ·
    exact wm_of [false, true, false, false, false, false, true, false, false, false, false, false, false, false, false, false, false, false, true, true, true, false, false, false, false, false, false, false, false, false, false, false, false, false, false] (by kernel_rfl) (by kernel_rfl)
   ·
    intro s1 p1 h
    refine w_start (by dsimp only [setAll, topAll, List.foldl, List.set]) rfl ?_
    refine w_seq (w_region ?_)
    refine w_op (a := .raw (.bool (decide (s1.1 < (List.length t.l : Int))))) rfl rfl rfl rfl (by dsimp only [aput, List.set]) ?_
    refine w_seq ?_
    refine bif_e h (fun hc2 h => ?_) (fun hc2 h => ?_)
    ·
     refine w_condT hc2 rfl ?_
     refine w_seq ?_
     refine w_block ?_
     refine w_seq (w_region ?_)
     obtain ⟨g1, h⟩ := chk_e h
     obtain ⟨x2, hx2, h⟩ := letE_e h
     refine w_op (a := .iptr (Enc.cells x2 ++ Enc.cellsL (List.drop (Int.toNat s1.1 + 1) t.l))) rfl rfl rfl (op_q (by rw [← hx2]; exact (q_idx (α := En) (l := t.l) g1 rfl rfl rfl rfl rfl))) (by dsimp only [aput, List.set]) ?_
     refine w_op (a := .agg (Enc.cells (x2 : En))) rfl rfl rfl rfl (by dsimp only [aput, List.set]) ?_
     refine w_opm (a := .ptr 2 0) (σ'' := (ownSt [(26, (Enc.cells (t : Trc))), (71, (bldC 1 s1.2.1 s1.2.2)), (43, (Enc.cells ((En.mk 0 0 0 []) : En)))] 5 (List.length (s1.2.2 : List UInt8)) 1)) rfl rfl rfl rfl (by dsimp only [aput, List.set]) rfl ?_
     refine w_opm (σ'' := (ownSt [(26, (Enc.cells (t : Trc))), (71, (bldC 1 s1.2.1 s1.2.2)), (43, (Enc.cells (x2 : En)))] 5 (List.length (s1.2.2 : List UInt8)) 1)) rfl rfl rfl (op_storeW (n := 4) rfl rfl rfl rfl rfl rfl rfl rfl (by decide)) (by dsimp only [aput, List.set]) rfl ?_
     refine w_region (k0 := 0) (id := 8) ?_
     refine w_op (a := .agg (Enc.cells (x2 : En))) rfl rfl rfl rfl (by dsimp only [aput, List.set]) ?_
     obtain ⟨x3, hx3, h⟩ := bindE_e h
     refine w_callc (args' := [.agg (Enc.cells (x2 : En))]) (r := .raw (.string (bs x3))) (line_sh fuel x2 x3 hx3) rfl rfl (stripL_cons (strip_c (clo_agg (Enc.clo _))) rfl) (okTrimL_cons (okTrim_clo _ _ (clo_agg (Enc.clo _))) rfl) (by dsimp only [aput, List.set]) ?_
     obtain ⟨g2, h⟩ := chk_e h
     refine w_op (a := .raw (.string (bs (x3 ++ ([10] : List UInt8))))) rfl rfl rfl (op_q (q_stradd g2 rfl rfl rfl)) (by dsimp only [aput, List.set]) ?_
     obtain ⟨g3, h⟩ := chk_e h
     refine w_snd (r := .tup [.raw (.int .i64 (List.length (x3 ++ ([10] : List UInt8)) : Int)), .raw .nilIface]) (σ' := (ownSt [(26, (Enc.cells (t : Trc))), (71, (bldC 1 true (s1.2.2 ++ (x3 ++ ([10] : List UInt8))))), (43, (Enc.cells (x2 : En)))] 5 (List.length ((s1.2.2 ++ (x3 ++ ([10] : List UInt8))) : List UInt8)) 1)) (bld_write (u := s1.2.1) (l := s1.2.2) (b := (x3 ++ ([10] : List UInt8))) g3 rfl) rfl rfl ⟨rfl, rfl⟩ (by dsimp only [aput, List.set]) ?_
     refine w_region (k0 := 0) (id := 9) ?_
     obtain ⟨g4, h⟩ := chk_e h
     refine w_op (a := .raw (.int .i64 (s1.1 + 1))) rfl rfl rfl (op_q (q_add rfl rfl rfl rfl g4.1 g4.2)) (by dsimp only [aput, List.set]) ?_
     refine w_op (a := .raw (.int .i64 (s1.1 + 1))) rfl rfl rfl rfl (by dsimp only [aput, List.set]) ?_
     refine loop_next (p := p1) ((s1.1 + 1), (true, (s1.2.2 ++ (x3 ++ ([10] : List UInt8))))) h ?_
     exact wm_trim [false, true, false, false, false, false, true, false, false, false, false, false, false, false, false, false, false, false, true, true, true, false, false, false, false, false, false, false, false, false, false, false, false, false, false] 2 (by kernel_rfl) (Nat.le_of_ble_eq_true rfl) (okSt_of (okB_cons (okTrimL_clo _ _ (Enc.clo _)) (okB_cons (okT_bld (by decide)) rfl))) (by dsimp only [setAll, topAll, List.foldl, List.set]; exact (okTrimL_cons rfl (okTrimL_cons (by decide) (okTrimL_cons rfl (okTrimL_cons rfl (okTrimL_cons rfl (okTrimL_cons rfl (okTrimL_cons (by decide) (okTrimL_cons rfl (okTrimL_cons rfl (okTrimL_cons rfl (okTrimL_cons rfl (okTrimL_cons rfl (okTrimL_cons rfl (okTrimL_cons rfl (okTrimL_cons rfl (okTrimL_cons rfl (okTrimL_cons rfl (okTrimL_cons rfl (okTrimL_cons (okTrim_l (Enc.cloL _)) (okTrimL_cons rfl (okTrimL_cons rfl (okTrimL_cons rfl (okTrimL_cons rfl (okTrimL_cons rfl (okTrimL_cons rfl (okTrimL_cons rfl (okTrimL_cons rfl (okTrimL_cons rfl (okTrimL_cons rfl (okTrimL_cons rfl (okTrimL_cons rfl (okTrimL_cons rfl (okTrimL_cons rfl (okTrimL_cons rfl (okTrimL_cons rfl rfl)))))))))))))))))))))))))))))))))))) (by kernel_rfl)
    ·
     refine w_condF hc2 rfl ?_
     refine loop_exit h (fun h => ?_)
     refine cut_done (o := or1) ((s1.2.1, s1.2.2)) h ?_
     exact wm_of [false, true, false, false, false, false, true, false, false, false, false, false, false, false, false, false, false, false, false, false, false, false, false, false, false, false, false, false, false, false, false, false, false, false, false] (by kernel_rfl) (by kernel_rfl)
  ·
   intro j1 h
   refine w_start (by dsimp only [setAll, topAll, List.foldl, List.set]) rfl ?_
   refine w_seq (w_region ?_)
   refine w_op (a := .ptr 0 1) rfl rfl rfl rfl (by dsimp only [aput, List.set]) ?_
   refine w_op (a := .agg (Enc.cells (t.e : Ed))) rfl rfl rfl rfl (by dsimp only [aput, List.set]) ?_
   obtain ⟨x4, hx4, h⟩ := bindE_e h
   refine w_callc (args' := [.agg (Enc.cells (t.e : Ed))]) (r := .raw (.string (bs x4))) (endw_sh t.e x4 hx4) rfl rfl (stripL_cons (strip_c (clo_agg (Enc.clo _))) rfl) (okTrimL_cons (okTrim_clo _ _ (clo_agg (Enc.clo _))) rfl) (by dsimp only [aput, List.set]) ?_
   obtain ⟨g5, h⟩ := chk_e h
   refine w_op (a := .raw (.string (bs (x4 ++ ([10] : List UInt8))))) rfl rfl rfl (op_q (q_stradd g5 rfl rfl rfl)) (by dsimp only [aput, List.set]) ?_
   obtain ⟨g6, h⟩ := chk_e h
   refine w_snd (r := .tup [.raw (.int .i64 (List.length (x4 ++ ([10] : List UInt8)) : Int)), .raw .nilIface]) (σ' := (ownSt [(26, (Enc.cells (t : Trc))), (71, (bldC 1 true (j1.2 ++ (x4 ++ ([10] : List UInt8)))))] 5 (List.length ((j1.2 ++ (x4 ++ ([10] : List UInt8))) : List UInt8)) 1)) (bld_write (u := j1.1) (l := j1.2) (b := (x4 ++ ([10] : List UInt8))) g6 rfl) rfl rfl ⟨rfl, rfl⟩ (by dsimp only [aput, List.set]) ?_
   refine w_seq (w_region ?_)
   refine w_snd (r := .raw (.string (bs (j1.2 ++ (x4 ++ ([10] : List UInt8)))))) (σ' := (ownSt [(26, (Enc.cells (t : Trc))), (71, (bldC 1 true (j1.2 ++ (x4 ++ ([10] : List UInt8)))))] 5 (List.length ((j1.2 ++ (x4 ++ ([10] : List UInt8))) : List UInt8)) 1)) (bld_string (u := true) (l := (j1.2 ++ (x4 ++ ([10] : List UInt8)))) rfl) rfl rfl ⟨rfl, rfl⟩ (by dsimp only [aput, List.set]) ?_
   refine w_op (a := .raw (.string (bs (j1.2 ++ (x4 ++ ([10] : List UInt8)))))) rfl rfl rfl rfl (by dsimp only [aput, List.set]) ?_
   refine w_op (a := .raw (.int .i64 0)) rfl rfl rfl rfl (by dsimp only [aput, List.set]) ?_
   exact end_pureF (fun (r : ((List UInt8) × Int)) => (.tup [.raw (.string (bs r.1)), .raw (.int .i64 r.2)] : AV)) h (a := .tup [.raw (.string (bs (j1.2 ++ (x4 ++ ([10] : List UInt8))))), .raw (.int .i64 0)]) rfl (show okTrimL _ _ = true from (okTrimL_cons rfl (okTrimL_cons rfl rfl))) (show AV.tup (stripL _) = _ from congrArg AV.tup (stripL_cons rfl (stripL_cons rfl rfl)))
def F_ends (fuel : Nat) (t : (List UInt8)) : Option (Ed × Bool) :=
  (chk (List.length t < 4294967281) (letE (Lib.cut t ([32] : List UInt8)) (fun x1 => (cutE (τ := Unit) (loopE (β := Int) (fun s1 => (bif (decide (s1 ≤ 5)) then (chk (0 ≤ s1 ∧ s1 < 256) (letE (nameE s1) (fun x2 => (bif (x2 == x1.1) then (chk (List.length x1.2.1 ≤ 281474976710656) (letE (atoiP x1.2.1) (fun x3 => (bindE (F_ended (Ed.mk s1 x3)) (fun x4 => (bif x4 then (bindE (F_endw (Ed.mk s1 x3)) (fun x5 => (some (Sum.inr (Sum.inr ((Ed.mk s1 x3), (x5 == t))))))) else (some (Sum.inr (Sum.inr ((Ed.mk s1 x3), false)))))))))) else (some (Sum.inl ((IntKind.u8.wrap (s1 + 1))))))))) else (some (Sum.inr (Sum.inl ()))))) fuel (1)) (fun j1 => (some ((Ed.mk 0 0), false)))))))
theorem ent38 : Ent Tryd.prog 38 := enters_of Tryd.func38 (by kernel_rfl) rfl
set_option maxRecDepth 100000 in
set_option maxHeartbeats 4000000 in
theorem ends_sh (fuel : Nat) (t : (List UInt8)) (r : (Ed × Bool)) (h : F_ends fuel t = some r) : Pure (ITP Tryd.prog) Tryd.prog 38 [.raw (.string (bs t))] (.tup [.agg (Enc.cells (r.1 : Ed)), .raw (.bool r.2)]) := by
 obtain ⟨d, hd⟩ : ∃ d, Tryd.f38.body = some d := ⟨_, rfl⟩
 refine pure_of mix Tryd.func38 hd ent38 ?_
 cases hd
 unfold F_ends at h
 refine w_start (by dsimp only [abeginS, Tryd.f38, List.length_cons, List.length_nil, Nat.zero_add, Nat.reduceAdd, Nat.reduceSub, List.replicate, List.cons_append, List.nil_append]) (by dsimp only [St.empty]) ?_
 refine w_seq (w_region ?_)
 refine w_opm (a := .ptr 0 0) (σ'' := ⟨[(24, (Enc.cells ((Ed.mk 0 0) : Ed)))], [], [], 0, false⟩) rfl rfl rfl rfl (by dsimp only [aput, List.set]) rfl ?_
 refine w_op (a := .raw (.bool false)) rfl rfl rfl rfl (by dsimp only [aput, List.set]) ?_
 refine w_seq (w_region ?_)
 refine w_op (a := .raw (.string (bs t))) rfl rfl rfl rfl (by dsimp only [aput, List.set]) ?_
 obtain ⟨g1, h⟩ := chk_e h
 obtain ⟨x1, hx1, h⟩ := letE_e h
 refine w_callc (args' := [.raw (.string (bs t)), .raw (.string (bs ([32] : List UInt8)))]) (r := .tup [.raw (.string (bs x1.1)), .raw (.string (bs x1.2.1)), .raw (.bool x1.2.2)]) (by rw [← hx1]; exact (cut_pure t ([32] : List UInt8) g1)) rfl rfl (stripL_cons rfl (stripL_cons rfl rfl)) (okTrimL_cons rfl (okTrimL_cons rfl rfl)) (by dsimp only [aput, List.set]) ?_
 refine w_op (a := .tup [.raw (.string (bs x1.1)), .raw (.string (bs x1.2.1)), .raw (.bool x1.2.2)]) rfl rfl rfl rfl (by dsimp only [aput, List.set]) ?_
 refine w_op (a := .raw (.string (bs x1.1))) rfl rfl rfl rfl (by dsimp only [aput, List.set]) ?_
 refine w_op (a := .raw (.string (bs x1.2.1))) rfl rfl rfl rfl (by dsimp only [aput, List.set]) ?_
 refine w_op (a := .raw (.bool x1.2.2)) rfl rfl rfl rfl (by dsimp only [aput, List.set]) ?_
 refine w_op (a := .raw (.string (bs x1.1))) rfl rfl rfl rfl (by dsimp only [aput, List.set]) ?_
 refine w_op (a := .raw (.string (bs x1.2.1))) rfl rfl rfl rfl (by dsimp only [aput, List.set]) ?_
 refine w_op (a := .raw (.bool x1.2.2)) rfl rfl rfl rfl (by dsimp only [aput, List.set]) ?_
 refine w_cutF h [0, 1, 3, 4, 5, 6, 7, 8, 9, 10, 11, 12, 13, 14, 15, 16, 17, 18, 19, 20, 21, 22, 23, 24, 25, 26, 27, 28, 29, 30, 31, 32, 33, 34, 35, 36, 37, 38, 39, 40, 41, 42] (fun j1 => []) (fun j1 => ⟨[(24, (Enc.cells ((Ed.mk 0 0) : Ed)))], [], [], 0, false⟩) ?_ ?_
 ·
  intro or1 h hr1
  refine w_seq (w_region ?_)
  refine w_op (a := .raw (.int .u8 1)) rfl rfl rfl rfl (by dsimp only [aput, List.set]) ?_
  refine w_block ?_
  refine w_loopF h [1, 3, 6, 7, 8, 9, 10, 11, 12, 13, 14, 15, 16, 17, 18, 19, 20, 21, 22, 23, 24, 25, 26, 27, 28, 29, 30, 31, 32, 33, 34, 35, 36, 37, 38, 39, 40, 41, 42] (fun s1 => [(7, .raw (.int .u8 s1))]) (fun s1 => ⟨[(24, (Enc.cells ((Ed.mk 0 0) : Ed)))], [], [], 0, false⟩) ?_ ?_
  ·
   exact wm_of [true, false, true, false, true, true, false, true, false, false, false, false, false, false, false, false, false, false, false, false, false, false, false, false, false, false, false, false, false, false, false, false, false, false, false, false, false, false, false, false, false, false, false] (by kernel_rfl) (by kernel_rfl)
  ·
   intro s1 p1 h
   refine w_start (by dsimp only [setAll, topAll, List.foldl, List.set]) rfl ?_
   refine w_seq ?_
   refine w_seq (w_region ?_)
   refine w_op (a := .raw (.int .u8 s1)) rfl rfl rfl rfl (by dsimp only [aput, List.set]) ?_
   refine w_op (a := .raw (.bool (decide (s1 ≤ 5)))) rfl rfl rfl rfl (by dsimp only [aput, List.set]) ?_
   refine bif_e h (fun hc1 h => ?_) (fun hc1 h => ?_)
   ·
    refine w_condT hc1 rfl ?_
    refine w_seq ?_
    refine w_block ?_
    refine w_seq (w_region ?_)
    refine w_op (a := .raw (.int .u8 s1)) rfl rfl rfl rfl (by dsimp only [aput, List.set]) ?_
    obtain ⟨g2, h⟩ := chk_e h
    obtain ⟨x2, hx2, h⟩ := letE_e h
    refine w_callc (args' := [.raw (.int .u8 s1)]) (r := .raw (.string (bs x2))) (by rw [← hx2]; exact (name_pure s1 g2)) rfl rfl (stripL_cons rfl rfl) (okTrimL_cons rfl rfl) (by dsimp only [aput, List.set]) ?_
    refine w_op (a := .raw (.string (bs x1.1))) rfl rfl rfl rfl (by dsimp only [aput, List.set]) ?_
    refine w_op (a := .raw (.bool (x2 == x1.1))) rfl rfl rfl (op_q (q_streq rfl rfl rfl)) (by dsimp only [aput, List.set]) ?_
    refine bif_e h (fun hc2 h => ?_) (fun hc2 h => ?_)
    ·
     refine w_condT hc2 rfl ?_
     refine w_seq (w_region ?_)
     refine w_op (a := .raw (.string (bs x1.2.1))) rfl rfl rfl rfl (by dsimp only [aput, List.set]) ?_
     obtain ⟨g3, h⟩ := chk_e h
     obtain ⟨x3, hx3, h⟩ := letE_e h
     refine w_callc (args' := [.raw (.string (bs x1.2.1))]) (r := .tup [.raw (.int .i64 x3), .top]) (by rw [← hx3]; exact (atoi_pure x1.2.1 g3)) rfl rfl (stripL_cons rfl rfl) (okTrimL_cons rfl rfl) (by dsimp only [aput, List.set]) ?_
     refine w_op (a := .tup [.raw (.int .i64 x3), .top]) rfl rfl rfl rfl (by dsimp only [aput, List.set]) ?_
     refine w_op (a := .raw (.int .i64 x3)) rfl rfl rfl rfl (by dsimp only [aput, List.set]) ?_
     refine w_op (a := .top) rfl rfl rfl rfl (by dsimp only [aput, List.set]) ?_
     refine w_op (a := .raw (.int .i64 x3)) rfl rfl rfl rfl (by dsimp only [aput, List.set]) ?_
     refine w_op (a := .top) rfl rfl rfl rfl (by dsimp only [aput, List.set]) ?_
     refine w_seq (w_region ?_)
     refine w_op (a := .raw (.int .u8 s1)) rfl rfl rfl rfl (by dsimp only [aput, List.set]) ?_
     refine w_op (a := .raw (.int .i64 x3)) rfl rfl rfl rfl (by dsimp only [aput, List.set]) ?_
     refine w_op (a := .agg (Enc.cells ((Ed.mk s1 x3) : Ed))) rfl rfl rfl rfl (by dsimp only [aput, List.set]) ?_
     refine w_opm (a := .ptr 1 0) (σ'' := ⟨[(24, (Enc.cells ((Ed.mk 0 0) : Ed))), (24, (Enc.cells ((Ed.mk 0 0) : Ed)))], [], [], 0, false⟩) rfl rfl rfl rfl (by dsimp only [aput, List.set]) rfl ?_
     refine w_opm (σ'' := ⟨[(24, (Enc.cells ((Ed.mk 0 0) : Ed))), (24, (Enc.cells ((Ed.mk s1 x3) : Ed)))], [], [], 0, false⟩) rfl rfl rfl (op_storeW (n := 2) rfl rfl rfl rfl rfl rfl rfl rfl (by decide)) (by dsimp only [aput, List.set]) rfl ?_
     obtain ⟨x4, hx4, h⟩ := bindE_e h
     refine bif_e h (fun hc3 h => ?_) (fun hc3 h => ?_)
     ·
      obtain ⟨x5, hx5, h⟩ := bindE_e h
      refine w_seqAny (id := 8) [.raw (.string (bs t)), .top, .ptr 0 0, .raw (.bool (x5 == t)), .raw (.string (bs x1.1)), .raw (.string (bs x1.2.1)), .top, .raw (.int .u8 s1), .raw (.int .i64 x3), .top, .ptr 1 0, .top, .top, .top, .top, .top, .top, .raw (.int .u8 s1), .raw (.bool (decide (s1 ≤ 5))), .top, .top, .raw (.int .u8 s1), .raw (.string (bs x2)), .raw (.string (bs x1.1)), .raw (.bool (x2 == x1.1)), .tup [.raw (.int .i64 x3), .top], .raw (.string (bs x1.2.1)), .tup [.raw (.int .i64 x3), .top], .raw (.int .i64 x3), .top, .raw (.int .u8 s1), .raw (.int .i64 x3), .agg (Enc.cells ((Ed.mk s1 x3) : Ed)), .agg (Enc.cells ((Ed.mk s1 x3) : Ed)), .agg (Enc.cells ((Ed.mk s1 x3) : Ed)), .raw (.bool x4), .raw (.bool true), .agg (Enc.cells ((Ed.mk s1 x3) : Ed)), .raw (.string (bs x5)), .raw (.string (bs t)), .raw (.bool (x5 == t)), .raw (.bool (x5 == t)), .top] ⟨[(24, (Enc.cells ((Ed.mk s1 x3) : Ed))), (24, (Enc.cells ((Ed.mk s1 x3) : Ed)))], [], [], 0, false⟩ ?_ ?_
      ·
       refine aany_intro (fun ops hops FIN hFIN S0 hS0 => ?_)
       have n26 : aany (ITP Tryd.prog) Tryd.prog none ops FIN 0 ⟨[true, true, true, true, true, true, true, true, true, true, true]⟩ (setAll S0 [(33, .agg (Enc.cells ((Ed.mk s1 x3) : Ed))), (34, .agg (Enc.cells ((Ed.mk s1 x3) : Ed))), (35, .raw (.bool x4)), (36, .raw (.bool true)), (37, .agg (Enc.cells ((Ed.mk s1 x3) : Ed))), (38, .raw (.string (bs x5))), (39, .raw (.string (bs t))), (40, .raw (.bool (x5 == t))), (41, .raw (.bool (x5 == t))), (3, .raw (.bool (x5 == t)))]) ⟨[(24, (Enc.cells ((Ed.mk s1 x3) : Ed))), (24, (Enc.cells ((Ed.mk s1 x3) : Ed)))], [], [], 0, false⟩ := by
        rw [hS0]
        dsimp only [setAll, List.foldl, List.set]
        exact aany_0 hops (by kernel_rfl) (hFIN _ _ (Wk.refl _ _ _))
       have n25 : aany (ITP Tryd.prog) Tryd.prog none ops FIN 1 ⟨[true, true, true, true, true, true, true, true, true, true, false]⟩ (setAll S0 [(33, .agg (Enc.cells ((Ed.mk s1 x3) : Ed))), (34, .agg (Enc.cells ((Ed.mk s1 x3) : Ed))), (35, .raw (.bool x4)), (36, .raw (.bool true)), (37, .agg (Enc.cells ((Ed.mk s1 x3) : Ed))), (38, .raw (.string (bs x5))), (39, .raw (.string (bs t))), (40, .raw (.bool (x5 == t))), (41, .raw (.bool (x5 == t)))]) ⟨[(24, (Enc.cells ((Ed.mk s1 x3) : Ed))), (24, (Enc.cells ((Ed.mk s1 x3) : Ed)))], [], [], 0, false⟩ := by
        rw [hS0]
        dsimp only [setAll, List.foldl, List.set]
        refine aany_n hops [10] (by kernel_rfl) (by decide) (all_cons (aopAt_s hops rfl ?_) all_nil)
        ·
         refine w_op (a := .raw (.bool (x5 == t))) rfl rfl rfl rfl (by dsimp only [aput, List.set]) ?_
         have hn := n26
         rw [hS0] at hn
         exact hn
       have n24 : aany (ITP Tryd.prog) Tryd.prog none ops FIN 2 ⟨[true, true, true, true, true, true, true, true, false, true, false]⟩ (setAll S0 [(33, .agg (Enc.cells ((Ed.mk s1 x3) : Ed))), (34, .agg (Enc.cells ((Ed.mk s1 x3) : Ed))), (35, .raw (.bool x4)), (36, .raw (.bool true)), (37, .agg (Enc.cells ((Ed.mk s1 x3) : Ed))), (38, .raw (.string (bs x5))), (39, .raw (.string (bs t))), (40, .raw (.bool (x5 == t)))]) ⟨[(24, (Enc.cells ((Ed.mk s1 x3) : Ed))), (24, (Enc.cells ((Ed.mk s1 x3) : Ed)))], [], [], 0, false⟩ := by
        rw [hS0]
        dsimp only [setAll, List.foldl, List.set]
        refine aany_n hops [8] (by kernel_rfl) (by decide) (all_cons (aopAt_s hops rfl ?_) all_nil)
        ·
         refine w_op (a := .raw (.bool (x5 == t))) rfl rfl rfl rfl (by dsimp only [aput, List.set]) ?_
         have hn := n25
         rw [hS0] at hn
         exact hn
       have n23 : aany (ITP Tryd.prog) Tryd.prog none ops FIN 2 ⟨[true, true, true, true, true, true, true, true, true, false, false]⟩ (setAll S0 [(33, .agg (Enc.cells ((Ed.mk s1 x3) : Ed))), (34, .agg (Enc.cells ((Ed.mk s1 x3) : Ed))), (35, .raw (.bool x4)), (36, .raw (.bool true)), (37, .agg (Enc.cells ((Ed.mk s1 x3) : Ed))), (38, .raw (.string (bs x5))), (39, .raw (.string (bs t))), (40, .raw (.bool (x5 == t))), (41, .raw (.bool (x5 == t)))]) ⟨[(24, (Enc.cells ((Ed.mk 0 0) : Ed))), (24, (Enc.cells ((Ed.mk s1 x3) : Ed)))], [], [], 0, false⟩ := by
        rw [hS0]
        dsimp only [setAll, List.foldl, List.set]
        refine aany_n hops [9] (by kernel_rfl) (by decide) (all_cons (aopAt_s hops rfl ?_) all_nil)
        ·
         refine w_opm (σ'' := ⟨[(24, (Enc.cells ((Ed.mk s1 x3) : Ed))), (24, (Enc.cells ((Ed.mk s1 x3) : Ed)))], [], [], 0, false⟩) rfl rfl rfl (op_storeW (n := 2) rfl rfl rfl rfl rfl rfl rfl rfl (by decide)) (by dsimp only [aput, List.set]) rfl ?_
         have hn := n25
         rw [hS0] at hn
         exact hn
       have n22 : aany (ITP Tryd.prog) Tryd.prog none ops FIN 3 ⟨[false, true, true, true, true, true, true, true, true, false, false]⟩ (setAll S0 [(34, .agg (Enc.cells ((Ed.mk s1 x3) : Ed))), (35, .raw (.bool x4)), (36, .raw (.bool true)), (37, .agg (Enc.cells ((Ed.mk s1 x3) : Ed))), (38, .raw (.string (bs x5))), (39, .raw (.string (bs t))), (40, .raw (.bool (x5 == t))), (41, .raw (.bool (x5 == t)))]) ⟨[(24, (Enc.cells ((Ed.mk 0 0) : Ed))), (24, (Enc.cells ((Ed.mk s1 x3) : Ed)))], [], [], 0, false⟩ := by
        rw [hS0]
        dsimp only [setAll, List.foldl, List.set]
        refine aany_n hops [0] (by kernel_rfl) (by decide) (all_cons (aopAt_s hops rfl ?_) all_nil)
        ·
         refine w_op (a := .agg (Enc.cells ((Ed.mk s1 x3) : Ed))) rfl rfl rfl rfl (by dsimp only [aput, List.set]) ?_
         have hn := n23
         rw [hS0] at hn
         exact hn
       have n21 : aany (ITP Tryd.prog) Tryd.prog none ops FIN 3 ⟨[true, true, true, true, true, true, true, false, false, true, false]⟩ (setAll S0 [(33, .agg (Enc.cells ((Ed.mk s1 x3) : Ed))), (34, .agg (Enc.cells ((Ed.mk s1 x3) : Ed))), (35, .raw (.bool x4)), (36, .raw (.bool true)), (37, .agg (Enc.cells ((Ed.mk s1 x3) : Ed))), (38, .raw (.string (bs x5))), (39, .raw (.string (bs t)))]) ⟨[(24, (Enc.cells ((Ed.mk s1 x3) : Ed))), (24, (Enc.cells ((Ed.mk s1 x3) : Ed)))], [], [], 0, false⟩ := by
        rw [hS0]
        dsimp only [setAll, List.foldl, List.set]
        refine aany_n hops [7] (by kernel_rfl) (by decide) (all_cons (aopAt_s hops rfl ?_) all_nil)
        ·
         refine w_metH hops rfl rfl ?_
         refine w_op (a := .raw (.bool (x5 == t))) rfl rfl rfl (op_q (q_streq rfl rfl rfl)) (by dsimp only [aput, List.set]) ?_
         have hn := n24
         rw [hS0] at hn
         exact hn
       have n20 : aany (ITP Tryd.prog) Tryd.prog none ops FIN 3 ⟨[true, true, true, true, true, true, true, true, false, false, false]⟩ (setAll S0 [(33, .agg (Enc.cells ((Ed.mk s1 x3) : Ed))), (34, .agg (Enc.cells ((Ed.mk s1 x3) : Ed))), (35, .raw (.bool x4)), (36, .raw (.bool true)), (37, .agg (Enc.cells ((Ed.mk s1 x3) : Ed))), (38, .raw (.string (bs x5))), (39, .raw (.string (bs t))), (40, .raw (.bool (x5 == t)))]) ⟨[(24, (Enc.cells ((Ed.mk 0 0) : Ed))), (24, (Enc.cells ((Ed.mk s1 x3) : Ed)))], [], [], 0, false⟩ := by
        rw [hS0]
        dsimp only [setAll, List.foldl, List.set]
        refine aany_n hops [8, 9] (by kernel_rfl) (by decide) (all_cons (aopAt_s hops rfl ?_) (all_cons (aopAt_s hops rfl ?_) all_nil))
        ·
         refine w_op (a := .raw (.bool (x5 == t))) rfl rfl rfl rfl (by dsimp only [aput, List.set]) ?_
         have hn := n23
         rw [hS0] at hn
         exact hn
        ·
         refine w_opm (σ'' := ⟨[(24, (Enc.cells ((Ed.mk s1 x3) : Ed))), (24, (Enc.cells ((Ed.mk s1 x3) : Ed)))], [], [], 0, false⟩) rfl rfl rfl (op_storeW (n := 2) rfl rfl rfl rfl rfl rfl rfl rfl (by decide)) (by dsimp only [aput, List.set]) rfl ?_
         have hn := n24
         rw [hS0] at hn
         exact hn
       have n19 : aany (ITP Tryd.prog) Tryd.prog none ops FIN 4 ⟨[false, true, true, true, true, true, true, true, false, false, false]⟩ (setAll S0 [(34, .agg (Enc.cells ((Ed.mk s1 x3) : Ed))), (35, .raw (.bool x4)), (36, .raw (.bool true)), (37, .agg (Enc.cells ((Ed.mk s1 x3) : Ed))), (38, .raw (.string (bs x5))), (39, .raw (.string (bs t))), (40, .raw (.bool (x5 == t)))]) ⟨[(24, (Enc.cells ((Ed.mk 0 0) : Ed))), (24, (Enc.cells ((Ed.mk s1 x3) : Ed)))], [], [], 0, false⟩ := by
        rw [hS0]
        dsimp only [setAll, List.foldl, List.set]
        refine aany_n hops [0, 8] (by kernel_rfl) (by decide) (all_cons (aopAt_s hops rfl ?_) (all_cons (aopAt_s hops rfl ?_) all_nil))
        ·
         refine w_op (a := .agg (Enc.cells ((Ed.mk s1 x3) : Ed))) rfl rfl rfl rfl (by dsimp only [aput, List.set]) ?_
         have hn := n20
         rw [hS0] at hn
         exact hn
        ·
         refine w_op (a := .raw (.bool (x5 == t))) rfl rfl rfl rfl (by dsimp only [aput, List.set]) ?_
         have hn := n22
         rw [hS0] at hn
         exact hn
       have n18 : aany (ITP Tryd.prog) Tryd.prog none ops FIN 4 ⟨[true, true, true, true, true, true, false, false, false, true, false]⟩ (setAll S0 [(33, .agg (Enc.cells ((Ed.mk s1 x3) : Ed))), (34, .agg (Enc.cells ((Ed.mk s1 x3) : Ed))), (35, .raw (.bool x4)), (36, .raw (.bool true)), (37, .agg (Enc.cells ((Ed.mk s1 x3) : Ed))), (38, .raw (.string (bs x5)))]) ⟨[(24, (Enc.cells ((Ed.mk s1 x3) : Ed))), (24, (Enc.cells ((Ed.mk s1 x3) : Ed)))], [], [], 0, false⟩ := by
        rw [hS0]
        dsimp only [setAll, List.foldl, List.set]
        refine aany_n hops [6] (by kernel_rfl) (by decide) (all_cons (aopAt_s hops rfl ?_) all_nil)
        ·
         refine w_metH hops rfl rfl ?_
         refine w_op (a := .raw (.string (bs t))) rfl rfl rfl rfl (by dsimp only [aput, List.set]) ?_
         have hn := n21
         rw [hS0] at hn
         exact hn
       have n17 : aany (ITP Tryd.prog) Tryd.prog none ops FIN 4 ⟨[true, true, true, true, true, true, true, false, false, false, false]⟩ (setAll S0 [(33, .agg (Enc.cells ((Ed.mk s1 x3) : Ed))), (34, .agg (Enc.cells ((Ed.mk s1 x3) : Ed))), (35, .raw (.bool x4)), (36, .raw (.bool true)), (37, .agg (Enc.cells ((Ed.mk s1 x3) : Ed))), (38, .raw (.string (bs x5))), (39, .raw (.string (bs t)))]) ⟨[(24, (Enc.cells ((Ed.mk 0 0) : Ed))), (24, (Enc.cells ((Ed.mk s1 x3) : Ed)))], [], [], 0, false⟩ := by
        rw [hS0]
        dsimp only [setAll, List.foldl, List.set]
        refine aany_n hops [7, 9] (by kernel_rfl) (by decide) (all_cons (aopAt_s hops rfl ?_) (all_cons (aopAt_s hops rfl ?_) all_nil))
        ·
         refine w_metH hops rfl rfl ?_
         refine w_op (a := .raw (.bool (x5 == t))) rfl rfl rfl (op_q (q_streq rfl rfl rfl)) (by dsimp only [aput, List.set]) ?_
         have hn := n20
         rw [hS0] at hn
         exact hn
        ·
         refine w_opm (σ'' := ⟨[(24, (Enc.cells ((Ed.mk s1 x3) : Ed))), (24, (Enc.cells ((Ed.mk s1 x3) : Ed)))], [], [], 0, false⟩) rfl rfl rfl (op_storeW (n := 2) rfl rfl rfl rfl rfl rfl rfl rfl (by decide)) (by dsimp only [aput, List.set]) rfl ?_
         have hn := n21
         rw [hS0] at hn
         exact hn
       have n16 : aany (ITP Tryd.prog) Tryd.prog none ops FIN 5 ⟨[false, true, true, true, true, true, true, false, false, false, false]⟩ (setAll S0 [(34, .agg (Enc.cells ((Ed.mk s1 x3) : Ed))), (35, .raw (.bool x4)), (36, .raw (.bool true)), (37, .agg (Enc.cells ((Ed.mk s1 x3) : Ed))), (38, .raw (.string (bs x5))), (39, .raw (.string (bs t)))]) ⟨[(24, (Enc.cells ((Ed.mk 0 0) : Ed))), (24, (Enc.cells ((Ed.mk s1 x3) : Ed)))], [], [], 0, false⟩ := by
        rw [hS0]
        dsimp only [setAll, List.foldl, List.set]
        refine aany_n hops [0, 7] (by kernel_rfl) (by decide) (all_cons (aopAt_s hops rfl ?_) (all_cons (aopAt_s hops rfl ?_) all_nil))
        ·
         refine w_op (a := .agg (Enc.cells ((Ed.mk s1 x3) : Ed))) rfl rfl rfl rfl (by dsimp only [aput, List.set]) ?_
         have hn := n17
         rw [hS0] at hn
         exact hn
        ·
         refine w_metH hops rfl rfl ?_
         refine w_op (a := .raw (.bool (x5 == t))) rfl rfl rfl (op_q (q_streq rfl rfl rfl)) (by dsimp only [aput, List.set]) ?_
         have hn := n19
         rw [hS0] at hn
         exact hn
       have n15 : aany (ITP Tryd.prog) Tryd.prog none ops FIN 5 ⟨[true, true, true, true, true, false, true, false, false, false, false]⟩ (setAll S0 [(33, .agg (Enc.cells ((Ed.mk s1 x3) : Ed))), (34, .agg (Enc.cells ((Ed.mk s1 x3) : Ed))), (35, .raw (.bool x4)), (36, .raw (.bool true)), (37, .agg (Enc.cells ((Ed.mk s1 x3) : Ed))), (39, .raw (.string (bs t)))]) ⟨[(24, (Enc.cells ((Ed.mk 0 0) : Ed))), (24, (Enc.cells ((Ed.mk s1 x3) : Ed)))], [], [], 0, false⟩ := by
        rw [hS0]
        dsimp only [setAll, List.foldl, List.set]
        refine aany_n hops [5] (by kernel_rfl) (by decide) (all_cons (aopAt_s hops rfl ?_) all_nil)
        ·
         refine w_metH hops rfl rfl ?_
         refine w_callc (args' := [.agg (Enc.cells ((Ed.mk s1 x3) : Ed))]) (r := .raw (.string (bs x5))) (endw_sh (Ed.mk s1 x3) x5 hx5) rfl rfl (stripL_cons (strip_c (clo_agg (Enc.clo _))) rfl) (okTrimL_cons (okTrim_clo _ _ (clo_agg (Enc.clo _))) rfl) (by dsimp only [aput, List.set]) ?_
         have hn := n17
         rw [hS0] at hn
         exact hn
       have n14 : aany (ITP Tryd.prog) Tryd.prog none ops FIN 5 ⟨[true, true, true, true, true, true, false, false, false, false, false]⟩ (setAll S0 [(33, .agg (Enc.cells ((Ed.mk s1 x3) : Ed))), (34, .agg (Enc.cells ((Ed.mk s1 x3) : Ed))), (35, .raw (.bool x4)), (36, .raw (.bool true)), (37, .agg (Enc.cells ((Ed.mk s1 x3) : Ed))), (38, .raw (.string (bs x5)))]) ⟨[(24, (Enc.cells ((Ed.mk 0 0) : Ed))), (24, (Enc.cells ((Ed.mk s1 x3) : Ed)))], [], [], 0, false⟩ := by
        rw [hS0]
        dsimp only [setAll, List.foldl, List.set]
        refine aany_n hops [6, 9] (by kernel_rfl) (by decide) (all_cons (aopAt_s hops rfl ?_) (all_cons (aopAt_s hops rfl ?_) all_nil))
        ·
         refine w_metH hops rfl rfl ?_
         refine w_op (a := .raw (.string (bs t))) rfl rfl rfl rfl (by dsimp only [aput, List.set]) ?_
         have hn := n17
         rw [hS0] at hn
         exact hn
        ·
         refine w_opm (σ'' := ⟨[(24, (Enc.cells ((Ed.mk s1 x3) : Ed))), (24, (Enc.cells ((Ed.mk s1 x3) : Ed)))], [], [], 0, false⟩) rfl rfl rfl (op_storeW (n := 2) rfl rfl rfl rfl rfl rfl rfl rfl (by decide)) (by dsimp only [aput, List.set]) rfl ?_
         have hn := n18
         rw [hS0] at hn
         exact hn
       have n13 : aany (ITP Tryd.prog) Tryd.prog none ops FIN 6 ⟨[false, true, true, true, true, false, true, false, false, false, false]⟩ (setAll S0 [(34, .agg (Enc.cells ((Ed.mk s1 x3) : Ed))), (35, .raw (.bool x4)), (36, .raw (.bool true)), (37, .agg (Enc.cells ((Ed.mk s1 x3) : Ed))), (39, .raw (.string (bs t)))]) ⟨[(24, (Enc.cells ((Ed.mk 0 0) : Ed))), (24, (Enc.cells ((Ed.mk s1 x3) : Ed)))], [], [], 0, false⟩ := by
        rw [hS0]
        dsimp only [setAll, List.foldl, List.set]
        refine aany_n hops [0, 5] (by kernel_rfl) (by decide) (all_cons (aopAt_s hops rfl ?_) (all_cons (aopAt_s hops rfl ?_) all_nil))
        ·
         refine w_op (a := .agg (Enc.cells ((Ed.mk s1 x3) : Ed))) rfl rfl rfl rfl (by dsimp only [aput, List.set]) ?_
         have hn := n15
         rw [hS0] at hn
         exact hn
        ·
         refine w_metH hops rfl rfl ?_
         refine w_callc (args' := [.agg (Enc.cells ((Ed.mk s1 x3) : Ed))]) (r := .raw (.string (bs x5))) (endw_sh (Ed.mk s1 x3) x5 hx5) rfl rfl (stripL_cons (strip_c (clo_agg (Enc.clo _))) rfl) (okTrimL_cons (okTrim_clo _ _ (clo_agg (Enc.clo _))) rfl) (by dsimp only [aput, List.set]) ?_
         have hn := n16
         rw [hS0] at hn
         exact hn
       have n12 : aany (ITP Tryd.prog) Tryd.prog none ops FIN 6 ⟨[false, true, true, true, true, true, false, false, false, false, false]⟩ (setAll S0 [(34, .agg (Enc.cells ((Ed.mk s1 x3) : Ed))), (35, .raw (.bool x4)), (36, .raw (.bool true)), (37, .agg (Enc.cells ((Ed.mk s1 x3) : Ed))), (38, .raw (.string (bs x5)))]) ⟨[(24, (Enc.cells ((Ed.mk 0 0) : Ed))), (24, (Enc.cells ((Ed.mk s1 x3) : Ed)))], [], [], 0, false⟩ := by
        rw [hS0]
        dsimp only [setAll, List.foldl, List.set]
        refine aany_n hops [0, 6] (by kernel_rfl) (by decide) (all_cons (aopAt_s hops rfl ?_) (all_cons (aopAt_s hops rfl ?_) all_nil))
        ·
         refine w_op (a := .agg (Enc.cells ((Ed.mk s1 x3) : Ed))) rfl rfl rfl rfl (by dsimp only [aput, List.set]) ?_
         have hn := n14
         rw [hS0] at hn
         exact hn
        ·
         refine w_metH hops rfl rfl ?_
         refine w_op (a := .raw (.string (bs t))) rfl rfl rfl rfl (by dsimp only [aput, List.set]) ?_
         have hn := n16
         rw [hS0] at hn
         exact hn
       have n11 : aany (ITP Tryd.prog) Tryd.prog none ops FIN 6 ⟨[true, true, true, true, false, false, true, false, false, false, false]⟩ (setAll S0 [(33, .agg (Enc.cells ((Ed.mk s1 x3) : Ed))), (34, .agg (Enc.cells ((Ed.mk s1 x3) : Ed))), (35, .raw (.bool x4)), (36, .raw (.bool true)), (39, .raw (.string (bs t)))]) ⟨[(24, (Enc.cells ((Ed.mk 0 0) : Ed))), (24, (Enc.cells ((Ed.mk s1 x3) : Ed)))], [], [], 0, false⟩ := by
        rw [hS0]
        dsimp only [setAll, List.foldl, List.set]
        refine aany_n hops [4] (by kernel_rfl) (by decide) (all_cons (aopAt_s hops rfl ?_) all_nil)
        ·
         refine w_metH hops rfl rfl ?_
         refine w_op (a := .agg (Enc.cells ((Ed.mk s1 x3) : Ed))) rfl rfl rfl rfl (by dsimp only [aput, List.set]) ?_
         have hn := n15
         rw [hS0] at hn
         exact hn
       have n10 : aany (ITP Tryd.prog) Tryd.prog none ops FIN 6 ⟨[true, true, true, true, true, false, false, false, false, false, false]⟩ (setAll S0 [(33, .agg (Enc.cells ((Ed.mk s1 x3) : Ed))), (34, .agg (Enc.cells ((Ed.mk s1 x3) : Ed))), (35, .raw (.bool x4)), (36, .raw (.bool true)), (37, .agg (Enc.cells ((Ed.mk s1 x3) : Ed)))]) ⟨[(24, (Enc.cells ((Ed.mk 0 0) : Ed))), (24, (Enc.cells ((Ed.mk s1 x3) : Ed)))], [], [], 0, false⟩ := by
        rw [hS0]
        dsimp only [setAll, List.foldl, List.set]
        refine aany_n hops [5, 6] (by kernel_rfl) (by decide) (all_cons (aopAt_s hops rfl ?_) (all_cons (aopAt_s hops rfl ?_) all_nil))
        ·
         refine w_metH hops rfl rfl ?_
         refine w_callc (args' := [.agg (Enc.cells ((Ed.mk s1 x3) : Ed))]) (r := .raw (.string (bs x5))) (endw_sh (Ed.mk s1 x3) x5 hx5) rfl rfl (stripL_cons (strip_c (clo_agg (Enc.clo _))) rfl) (okTrimL_cons (okTrim_clo _ _ (clo_agg (Enc.clo _))) rfl) (by dsimp only [aput, List.set]) ?_
         have hn := n14
         rw [hS0] at hn
         exact hn
        ·
         refine w_metH hops rfl rfl ?_
         refine w_op (a := .raw (.string (bs t))) rfl rfl rfl rfl (by dsimp only [aput, List.set]) ?_
         have hn := n15
         rw [hS0] at hn
         exact hn
       have n9 : aany (ITP Tryd.prog) Tryd.prog none ops FIN 7 ⟨[false, true, true, true, false, false, true, false, false, false, false]⟩ (setAll S0 [(34, .agg (Enc.cells ((Ed.mk s1 x3) : Ed))), (35, .raw (.bool x4)), (36, .raw (.bool true)), (39, .raw (.string (bs t)))]) ⟨[(24, (Enc.cells ((Ed.mk 0 0) : Ed))), (24, (Enc.cells ((Ed.mk s1 x3) : Ed)))], [], [], 0, false⟩ := by
        rw [hS0]
        dsimp only [setAll, List.foldl, List.set]
        refine aany_n hops [0, 4] (by kernel_rfl) (by decide) (all_cons (aopAt_s hops rfl ?_) (all_cons (aopAt_s hops rfl ?_) all_nil))
        ·
         refine w_op (a := .agg (Enc.cells ((Ed.mk s1 x3) : Ed))) rfl rfl rfl rfl (by dsimp only [aput, List.set]) ?_
         have hn := n11
         rw [hS0] at hn
         exact hn
        ·
         refine w_metH hops rfl rfl ?_
         refine w_op (a := .agg (Enc.cells ((Ed.mk s1 x3) : Ed))) rfl rfl rfl rfl (by dsimp only [aput, List.set]) ?_
         have hn := n13
         rw [hS0] at hn
         exact hn
       have n8 : aany (ITP Tryd.prog) Tryd.prog none ops FIN 7 ⟨[false, true, true, true, true, false, false, false, false, false, false]⟩ (setAll S0 [(34, .agg (Enc.cells ((Ed.mk s1 x3) : Ed))), (35, .raw (.bool x4)), (36, .raw (.bool true)), (37, .agg (Enc.cells ((Ed.mk s1 x3) : Ed)))]) ⟨[(24, (Enc.cells ((Ed.mk 0 0) : Ed))), (24, (Enc.cells ((Ed.mk s1 x3) : Ed)))], [], [], 0, false⟩ := by
        rw [hS0]
        dsimp only [setAll, List.foldl, List.set]
        refine aany_n hops [0, 5, 6] (by kernel_rfl) (by decide) (all_cons (aopAt_s hops rfl ?_) (all_cons (aopAt_s hops rfl ?_) (all_cons (aopAt_s hops rfl ?_) all_nil)))
        ·
         refine w_op (a := .agg (Enc.cells ((Ed.mk s1 x3) : Ed))) rfl rfl rfl rfl (by dsimp only [aput, List.set]) ?_
         have hn := n10
         rw [hS0] at hn
         exact hn
        ·
         refine w_metH hops rfl rfl ?_
         refine w_callc (args' := [.agg (Enc.cells ((Ed.mk s1 x3) : Ed))]) (r := .raw (.string (bs x5))) (endw_sh (Ed.mk s1 x3) x5 hx5) rfl rfl (stripL_cons (strip_c (clo_agg (Enc.clo _))) rfl) (okTrimL_cons (okTrim_clo _ _ (clo_agg (Enc.clo _))) rfl) (by dsimp only [aput, List.set]) ?_
         have hn := n12
         rw [hS0] at hn
         exact hn
        ·
         refine w_metH hops rfl rfl ?_
         refine w_op (a := .raw (.string (bs t))) rfl rfl rfl rfl (by dsimp only [aput, List.set]) ?_
         have hn := n13
         rw [hS0] at hn
         exact hn
       have n7 : aany (ITP Tryd.prog) Tryd.prog none ops FIN 7 ⟨[true, true, true, true, false, false, false, false, false, false, false]⟩ (setAll S0 [(33, .agg (Enc.cells ((Ed.mk s1 x3) : Ed))), (34, .agg (Enc.cells ((Ed.mk s1 x3) : Ed))), (35, .raw (.bool x4)), (36, .raw (.bool true))]) ⟨[(24, (Enc.cells ((Ed.mk 0 0) : Ed))), (24, (Enc.cells ((Ed.mk s1 x3) : Ed)))], [], [], 0, false⟩ := by
        rw [hS0]
        dsimp only [setAll, List.foldl, List.set]
        refine aany_n hops [4, 6] (by kernel_rfl) (by decide) (all_cons (aopAt_s hops rfl ?_) (all_cons (aopAt_s hops rfl ?_) all_nil))
        ·
         refine w_metH hops rfl rfl ?_
         refine w_op (a := .agg (Enc.cells ((Ed.mk s1 x3) : Ed))) rfl rfl rfl rfl (by dsimp only [aput, List.set]) ?_
         have hn := n10
         rw [hS0] at hn
         exact hn
        ·
         refine w_metH hops rfl rfl ?_
         refine w_op (a := .raw (.string (bs t))) rfl rfl rfl rfl (by dsimp only [aput, List.set]) ?_
         have hn := n11
         rw [hS0] at hn
         exact hn
       have n6 : aany (ITP Tryd.prog) Tryd.prog none ops FIN 8 ⟨[false, true, true, true, false, false, false, false, false, false, false]⟩ (setAll S0 [(34, .agg (Enc.cells ((Ed.mk s1 x3) : Ed))), (35, .raw (.bool x4)), (36, .raw (.bool true))]) ⟨[(24, (Enc.cells ((Ed.mk 0 0) : Ed))), (24, (Enc.cells ((Ed.mk s1 x3) : Ed)))], [], [], 0, false⟩ := by
        rw [hS0]
        dsimp only [setAll, List.foldl, List.set]
        refine aany_n hops [0, 4, 6] (by kernel_rfl) (by decide) (all_cons (aopAt_s hops rfl ?_) (all_cons (aopAt_s hops rfl ?_) (all_cons (aopAt_s hops rfl ?_) all_nil)))
        ·
         refine w_op (a := .agg (Enc.cells ((Ed.mk s1 x3) : Ed))) rfl rfl rfl rfl (by dsimp only [aput, List.set]) ?_
         have hn := n7
         rw [hS0] at hn
         exact hn
        ·
         refine w_metH hops rfl rfl ?_
         refine w_op (a := .agg (Enc.cells ((Ed.mk s1 x3) : Ed))) rfl rfl rfl rfl (by dsimp only [aput, List.set]) ?_
         have hn := n8
         rw [hS0] at hn
         exact hn
        ·
         refine w_metH hops rfl rfl ?_
         refine w_op (a := .raw (.string (bs t))) rfl rfl rfl rfl (by dsimp only [aput, List.set]) ?_
         have hn := n9
         rw [hS0] at hn
         exact hn
       have n5 : aany (ITP Tryd.prog) Tryd.prog none ops FIN 8 ⟨[true, true, true, false, false, false, false, false, false, false, false]⟩ (setAll S0 [(33, .agg (Enc.cells ((Ed.mk s1 x3) : Ed))), (34, .agg (Enc.cells ((Ed.mk s1 x3) : Ed))), (35, .raw (.bool x4))]) ⟨[(24, (Enc.cells ((Ed.mk 0 0) : Ed))), (24, (Enc.cells ((Ed.mk s1 x3) : Ed)))], [], [], 0, false⟩ := by
        rw [hS0]
        dsimp only [setAll, List.foldl, List.set]
        refine aany_n hops [3] (by kernel_rfl) (by decide) (all_cons (aopAt_s hops rfl ?_) all_nil)
        ·
         refine w_op (a := .raw (.bool true)) rfl rfl rfl (op_q (q_bool rfl hc3)) (by dsimp only [aput, List.set]) ?_
         have hn := n7
         rw [hS0] at hn
         exact hn
       have n4 : aany (ITP Tryd.prog) Tryd.prog none ops FIN 9 ⟨[false, true, true, false, false, false, false, false, false, false, false]⟩ (setAll S0 [(34, .agg (Enc.cells ((Ed.mk s1 x3) : Ed))), (35, .raw (.bool x4))]) ⟨[(24, (Enc.cells ((Ed.mk 0 0) : Ed))), (24, (Enc.cells ((Ed.mk s1 x3) : Ed)))], [], [], 0, false⟩ := by
        rw [hS0]
        dsimp only [setAll, List.foldl, List.set]
        refine aany_n hops [0, 3] (by kernel_rfl) (by decide) (all_cons (aopAt_s hops rfl ?_) (all_cons (aopAt_s hops rfl ?_) all_nil))
        ·
         refine w_op (a := .agg (Enc.cells ((Ed.mk s1 x3) : Ed))) rfl rfl rfl rfl (by dsimp only [aput, List.set]) ?_
         have hn := n5
         rw [hS0] at hn
         exact hn
        ·
         refine w_op (a := .raw (.bool true)) rfl rfl rfl (op_q (q_bool rfl hc3)) (by dsimp only [aput, List.set]) ?_
         have hn := n6
         rw [hS0] at hn
         exact hn
       have n3 : aany (ITP Tryd.prog) Tryd.prog none ops FIN 9 ⟨[true, true, false, false, false, false, false, false, false, false, false]⟩ (setAll S0 [(33, .agg (Enc.cells ((Ed.mk s1 x3) : Ed))), (34, .agg (Enc.cells ((Ed.mk s1 x3) : Ed)))]) ⟨[(24, (Enc.cells ((Ed.mk 0 0) : Ed))), (24, (Enc.cells ((Ed.mk s1 x3) : Ed)))], [], [], 0, false⟩ := by
        rw [hS0]
        dsimp only [setAll, List.foldl, List.set]
        refine aany_n hops [2] (by kernel_rfl) (by decide) (all_cons (aopAt_s hops rfl ?_) all_nil)
        ·
         refine w_callc (args' := [.agg (Enc.cells ((Ed.mk s1 x3) : Ed))]) (r := .raw (.bool x4)) (ended_sh (Ed.mk s1 x3) x4 hx4) rfl rfl (stripL_cons (strip_c (clo_agg (Enc.clo _))) rfl) (okTrimL_cons (okTrim_clo _ _ (clo_agg (Enc.clo _))) rfl) (by dsimp only [aput, List.set]) ?_
         have hn := n5
         rw [hS0] at hn
         exact hn
       have n2 : aany (ITP Tryd.prog) Tryd.prog none ops FIN 10 ⟨[false, true, false, false, false, false, false, false, false, false, false]⟩ (setAll S0 [(34, .agg (Enc.cells ((Ed.mk s1 x3) : Ed)))]) ⟨[(24, (Enc.cells ((Ed.mk 0 0) : Ed))), (24, (Enc.cells ((Ed.mk s1 x3) : Ed)))], [], [], 0, false⟩ := by
        rw [hS0]
        dsimp only [setAll, List.foldl, List.set]
        refine aany_n hops [0, 2] (by kernel_rfl) (by decide) (all_cons (aopAt_s hops rfl ?_) (all_cons (aopAt_s hops rfl ?_) all_nil))
        ·
         refine w_op (a := .agg (Enc.cells ((Ed.mk s1 x3) : Ed))) rfl rfl rfl rfl (by dsimp only [aput, List.set]) ?_
         have hn := n3
         rw [hS0] at hn
         exact hn
        ·
         refine w_callc (args' := [.agg (Enc.cells ((Ed.mk s1 x3) : Ed))]) (r := .raw (.bool x4)) (ended_sh (Ed.mk s1 x3) x4 hx4) rfl rfl (stripL_cons (strip_c (clo_agg (Enc.clo _))) rfl) (okTrimL_cons (okTrim_clo _ _ (clo_agg (Enc.clo _))) rfl) (by dsimp only [aput, List.set]) ?_
         have hn := n4
         rw [hS0] at hn
         exact hn
       have n1 : aany (ITP Tryd.prog) Tryd.prog none ops FIN 10 ⟨[true, false, false, false, false, false, false, false, false, false, false]⟩ (setAll S0 [(33, .agg (Enc.cells ((Ed.mk s1 x3) : Ed)))]) ⟨[(24, (Enc.cells ((Ed.mk 0 0) : Ed))), (24, (Enc.cells ((Ed.mk s1 x3) : Ed)))], [], [], 0, false⟩ := by
        rw [hS0]
        dsimp only [setAll, List.foldl, List.set]
        refine aany_n hops [1] (by kernel_rfl) (by decide) (all_cons (aopAt_s hops rfl ?_) all_nil)
        ·
         refine w_op (a := .agg (Enc.cells ((Ed.mk s1 x3) : Ed))) rfl rfl rfl rfl (by dsimp only [aput, List.set]) ?_
         have hn := n3
         rw [hS0] at hn
         exact hn
       have n0 : aany (ITP Tryd.prog) Tryd.prog none ops FIN 11 ⟨[false, false, false, false, false, false, false, false, false, false, false]⟩ (setAll S0 []) ⟨[(24, (Enc.cells ((Ed.mk 0 0) : Ed))), (24, (Enc.cells ((Ed.mk s1 x3) : Ed)))], [], [], 0, false⟩ := by
        rw [hS0]
        dsimp only [setAll, List.foldl, List.set]
        refine aany_n hops [0, 1] (by kernel_rfl) (by decide) (all_cons (aopAt_s hops rfl ?_) (all_cons (aopAt_s hops rfl ?_) all_nil))
        ·
         refine w_op (a := .agg (Enc.cells ((Ed.mk s1 x3) : Ed))) rfl rfl rfl rfl (by dsimp only [aput, List.set]) ?_
         have hn := n1
         rw [hS0] at hn
         exact hn
        ·
         refine w_op (a := .agg (Enc.cells ((Ed.mk s1 x3) : Ed))) rfl rfl rfl rfl (by dsimp only [aput, List.set]) ?_
         have hn := n2
         rw [hS0] at hn
         exact hn
       exact n0
      ·
       refine loop_exit h (fun h => ?_)
       replace h := cut_inr h hr1
       exact end_pureF (fun (r : (Ed × Bool)) => (.tup [.agg (Enc.cells (r.1 : Ed)), .raw (.bool r.2)] : AV)) h (a := .tup [.agg (Enc.cells ((Ed.mk s1 x3) : Ed)), .raw (.bool (x5 == t))]) rfl (show okTrimL _ _ = true from (okTrimL_cons (okTrim_clo _ _ (clo_agg (Enc.clo _))) (okTrimL_cons rfl rfl))) (show AV.tup (stripL _) = _ from congrArg AV.tup (stripL_cons (strip_c (clo_agg (Enc.clo _))) (stripL_cons rfl rfl)))
     ·
      refine w_seqAny (id := 8) [.raw (.string (bs t)), .top, .ptr 0 0, .raw (.bool false), .raw (.string (bs x1.1)), .raw (.string (bs x1.2.1)), .top, .raw (.int .u8 s1), .raw (.int .i64 x3), .top, .ptr 1 0, .top, .top, .top, .top, .top, .top, .raw (.int .u8 s1), .raw (.bool (decide (s1 ≤ 5))), .top, .top, .raw (.int .u8 s1), .raw (.string (bs x2)), .raw (.string (bs x1.1)), .raw (.bool (x2 == x1.1)), .tup [.raw (.int .i64 x3), .top], .raw (.string (bs x1.2.1)), .tup [.raw (.int .i64 x3), .top], .raw (.int .i64 x3), .top, .raw (.int .u8 s1), .raw (.int .i64 x3), .agg (Enc.cells ((Ed.mk s1 x3) : Ed)), .agg (Enc.cells ((Ed.mk s1 x3) : Ed)), .agg (Enc.cells ((Ed.mk s1 x3) : Ed)), .raw (.bool x4), .raw (.bool false), .raw undef, .raw undef, .raw undef, .raw undef, .raw (.bool false), .top] ⟨[(24, (Enc.cells ((Ed.mk s1 x3) : Ed))), (24, (Enc.cells ((Ed.mk s1 x3) : Ed)))], [], [], 0, false⟩ ?_ ?_
      ·
       refine aany_intro (fun ops hops FIN hFIN S0 hS0 => ?_)
       have n26 : aany (ITP Tryd.prog) Tryd.prog none ops FIN 0 ⟨[true, true, true, true, true, true, true, true, true, true, true]⟩ (setAll S0 [(33, .agg (Enc.cells ((Ed.mk s1 x3) : Ed))), (34, .agg (Enc.cells ((Ed.mk s1 x3) : Ed))), (35, .raw (.bool x4)), (36, .raw (.bool false)), (37, .raw undef), (38, .raw undef), (39, .raw undef), (40, .raw undef), (41, .raw (.bool false)), (3, .raw (.bool false))]) ⟨[(24, (Enc.cells ((Ed.mk s1 x3) : Ed))), (24, (Enc.cells ((Ed.mk s1 x3) : Ed)))], [], [], 0, false⟩ := by
        rw [hS0]
        dsimp only [setAll, List.foldl, List.set]
        exact aany_0 hops (by kernel_rfl) (hFIN _ _ (Wk.refl _ _ _))
       have n25 : aany (ITP Tryd.prog) Tryd.prog none ops FIN 1 ⟨[true, true, true, true, true, true, true, true, true, true, false]⟩ (setAll S0 [(33, .agg (Enc.cells ((Ed.mk s1 x3) : Ed))), (34, .agg (Enc.cells ((Ed.mk s1 x3) : Ed))), (35, .raw (.bool x4)), (36, .raw (.bool false)), (37, .raw undef), (38, .raw undef), (39, .raw undef), (40, .raw undef), (41, .raw (.bool false))]) ⟨[(24, (Enc.cells ((Ed.mk s1 x3) : Ed))), (24, (Enc.cells ((Ed.mk s1 x3) : Ed)))], [], [], 0, false⟩ := by
        rw [hS0]
        dsimp only [setAll, List.foldl, List.set]
        refine aany_n hops [10] (by kernel_rfl) (by decide) (all_cons (aopAt_s hops rfl ?_) all_nil)
        ·
         refine w_op (a := .raw (.bool false)) rfl rfl rfl rfl (by dsimp only [aput, List.set]) ?_
         have hn := n26
         rw [hS0] at hn
         exact hn
       have n24 : aany (ITP Tryd.prog) Tryd.prog none ops FIN 2 ⟨[true, true, true, true, true, true, true, true, false, true, false]⟩ (setAll S0 [(33, .agg (Enc.cells ((Ed.mk s1 x3) : Ed))), (34, .agg (Enc.cells ((Ed.mk s1 x3) : Ed))), (35, .raw (.bool x4)), (36, .raw (.bool false)), (37, .raw undef), (38, .raw undef), (39, .raw undef), (40, .raw undef)]) ⟨[(24, (Enc.cells ((Ed.mk s1 x3) : Ed))), (24, (Enc.cells ((Ed.mk s1 x3) : Ed)))], [], [], 0, false⟩ := by
        rw [hS0]
        dsimp only [setAll, List.foldl, List.set]
        refine aany_n hops [8] (by kernel_rfl) (by decide) (all_cons (aopAt_s hops rfl ?_) all_nil)
        ·
         refine w_op (a := .raw (.bool false)) rfl rfl rfl rfl (by dsimp only [aput, List.set]) ?_
         have hn := n25
         rw [hS0] at hn
         exact hn
       have n23 : aany (ITP Tryd.prog) Tryd.prog none ops FIN 2 ⟨[true, true, true, true, true, true, true, true, true, false, false]⟩ (setAll S0 [(33, .agg (Enc.cells ((Ed.mk s1 x3) : Ed))), (34, .agg (Enc.cells ((Ed.mk s1 x3) : Ed))), (35, .raw (.bool x4)), (36, .raw (.bool false)), (37, .raw undef), (38, .raw undef), (39, .raw undef), (40, .raw undef), (41, .raw (.bool false))]) ⟨[(24, (Enc.cells ((Ed.mk 0 0) : Ed))), (24, (Enc.cells ((Ed.mk s1 x3) : Ed)))], [], [], 0, false⟩ := by
        rw [hS0]
        dsimp only [setAll, List.foldl, List.set]
        refine aany_n hops [9] (by kernel_rfl) (by decide) (all_cons (aopAt_s hops rfl ?_) all_nil)
        ·
         refine w_opm (σ'' := ⟨[(24, (Enc.cells ((Ed.mk s1 x3) : Ed))), (24, (Enc.cells ((Ed.mk s1 x3) : Ed)))], [], [], 0, false⟩) rfl rfl rfl (op_storeW (n := 2) rfl rfl rfl rfl rfl rfl rfl rfl (by decide)) (by dsimp only [aput, List.set]) rfl ?_
         have hn := n25
         rw [hS0] at hn
         exact hn
       have n22 : aany (ITP Tryd.prog) Tryd.prog none ops FIN 3 ⟨[false, true, true, true, true, true, true, true, true, false, false]⟩ (setAll S0 [(34, .agg (Enc.cells ((Ed.mk s1 x3) : Ed))), (35, .raw (.bool x4)), (36, .raw (.bool false)), (37, .raw undef), (38, .raw undef), (39, .raw undef), (40, .raw undef), (41, .raw (.bool false))]) ⟨[(24, (Enc.cells ((Ed.mk 0 0) : Ed))), (24, (Enc.cells ((Ed.mk s1 x3) : Ed)))], [], [], 0, false⟩ := by
        rw [hS0]
        dsimp only [setAll, List.foldl, List.set]
        refine aany_n hops [0] (by kernel_rfl) (by decide) (all_cons (aopAt_s hops rfl ?_) all_nil)
        ·
         refine w_op (a := .agg (Enc.cells ((Ed.mk s1 x3) : Ed))) rfl rfl rfl rfl (by dsimp only [aput, List.set]) ?_
         have hn := n23
         rw [hS0] at hn
         exact hn
       have n21 : aany (ITP Tryd.prog) Tryd.prog none ops FIN 3 ⟨[true, true, true, true, true, true, true, false, false, true, false]⟩ (setAll S0 [(33, .agg (Enc.cells ((Ed.mk s1 x3) : Ed))), (34, .agg (Enc.cells ((Ed.mk s1 x3) : Ed))), (35, .raw (.bool x4)), (36, .raw (.bool false)), (37, .raw undef), (38, .raw undef), (39, .raw undef)]) ⟨[(24, (Enc.cells ((Ed.mk s1 x3) : Ed))), (24, (Enc.cells ((Ed.mk s1 x3) : Ed)))], [], [], 0, false⟩ := by
        rw [hS0]
        dsimp only [setAll, List.foldl, List.set]
        refine aany_n hops [7] (by kernel_rfl) (by decide) (all_cons (aopAt_s hops rfl ?_) all_nil)
        ·
         refine w_passH hops rfl rfl (by decide) (by dsimp only [aput, List.set]) ?_
         have hn := n24
         rw [hS0] at hn
         exact hn
       have n20 : aany (ITP Tryd.prog) Tryd.prog none ops FIN 3 ⟨[true, true, true, true, true, true, true, true, false, false, false]⟩ (setAll S0 [(33, .agg (Enc.cells ((Ed.mk s1 x3) : Ed))), (34, .agg (Enc.cells ((Ed.mk s1 x3) : Ed))), (35, .raw (.bool x4)), (36, .raw (.bool false)), (37, .raw undef), (38, .raw undef), (39, .raw undef), (40, .raw undef)]) ⟨[(24, (Enc.cells ((Ed.mk 0 0) : Ed))), (24, (Enc.cells ((Ed.mk s1 x3) : Ed)))], [], [], 0, false⟩ := by
        rw [hS0]
        dsimp only [setAll, List.foldl, List.set]
        refine aany_n hops [8, 9] (by kernel_rfl) (by decide) (all_cons (aopAt_s hops rfl ?_) (all_cons (aopAt_s hops rfl ?_) all_nil))
        ·
         refine w_op (a := .raw (.bool false)) rfl rfl rfl rfl (by dsimp only [aput, List.set]) ?_
         have hn := n23
         rw [hS0] at hn
         exact hn
        ·
         refine w_opm (σ'' := ⟨[(24, (Enc.cells ((Ed.mk s1 x3) : Ed))), (24, (Enc.cells ((Ed.mk s1 x3) : Ed)))], [], [], 0, false⟩) rfl rfl rfl (op_storeW (n := 2) rfl rfl rfl rfl rfl rfl rfl rfl (by decide)) (by dsimp only [aput, List.set]) rfl ?_
         have hn := n24
         rw [hS0] at hn
         exact hn
       have n19 : aany (ITP Tryd.prog) Tryd.prog none ops FIN 4 ⟨[false, true, true, true, true, true, true, true, false, false, false]⟩ (setAll S0 [(34, .agg (Enc.cells ((Ed.mk s1 x3) : Ed))), (35, .raw (.bool x4)), (36, .raw (.bool false)), (37, .raw undef), (38, .raw undef), (39, .raw undef), (40, .raw undef)]) ⟨[(24, (Enc.cells ((Ed.mk 0 0) : Ed))), (24, (Enc.cells ((Ed.mk s1 x3) : Ed)))], [], [], 0, false⟩ := by
        rw [hS0]
        dsimp only [setAll, List.foldl, List.set]
        refine aany_n hops [0, 8] (by kernel_rfl) (by decide) (all_cons (aopAt_s hops rfl ?_) (all_cons (aopAt_s hops rfl ?_) all_nil))
        ·
         refine w_op (a := .agg (Enc.cells ((Ed.mk s1 x3) : Ed))) rfl rfl rfl rfl (by dsimp only [aput, List.set]) ?_
         have hn := n20
         rw [hS0] at hn
         exact hn
        ·
         refine w_op (a := .raw (.bool false)) rfl rfl rfl rfl (by dsimp only [aput, List.set]) ?_
         have hn := n22
         rw [hS0] at hn
         exact hn
       have n18 : aany (ITP Tryd.prog) Tryd.prog none ops FIN 4 ⟨[true, true, true, true, true, true, false, false, false, true, false]⟩ (setAll S0 [(33, .agg (Enc.cells ((Ed.mk s1 x3) : Ed))), (34, .agg (Enc.cells ((Ed.mk s1 x3) : Ed))), (35, .raw (.bool x4)), (36, .raw (.bool false)), (37, .raw undef), (38, .raw undef)]) ⟨[(24, (Enc.cells ((Ed.mk s1 x3) : Ed))), (24, (Enc.cells ((Ed.mk s1 x3) : Ed)))], [], [], 0, false⟩ := by
        rw [hS0]
        dsimp only [setAll, List.foldl, List.set]
        refine aany_n hops [6] (by kernel_rfl) (by decide) (all_cons (aopAt_s hops rfl ?_) all_nil)
        ·
         refine w_passH hops rfl rfl (by decide) (by dsimp only [aput, List.set]) ?_
         have hn := n21
         rw [hS0] at hn
         exact hn
       have n17 : aany (ITP Tryd.prog) Tryd.prog none ops FIN 4 ⟨[true, true, true, true, true, true, true, false, false, false, false]⟩ (setAll S0 [(33, .agg (Enc.cells ((Ed.mk s1 x3) : Ed))), (34, .agg (Enc.cells ((Ed.mk s1 x3) : Ed))), (35, .raw (.bool x4)), (36, .raw (.bool false)), (37, .raw undef), (38, .raw undef), (39, .raw undef)]) ⟨[(24, (Enc.cells ((Ed.mk 0 0) : Ed))), (24, (Enc.cells ((Ed.mk s1 x3) : Ed)))], [], [], 0, false⟩ := by
        rw [hS0]
        dsimp only [setAll, List.foldl, List.set]
        refine aany_n hops [7, 9] (by kernel_rfl) (by decide) (all_cons (aopAt_s hops rfl ?_) (all_cons (aopAt_s hops rfl ?_) all_nil))
        ·
         refine w_passH hops rfl rfl (by decide) (by dsimp only [aput, List.set]) ?_
         have hn := n20
         rw [hS0] at hn
         exact hn
        ·
         refine w_opm (σ'' := ⟨[(24, (Enc.cells ((Ed.mk s1 x3) : Ed))), (24, (Enc.cells ((Ed.mk s1 x3) : Ed)))], [], [], 0, false⟩) rfl rfl rfl (op_storeW (n := 2) rfl rfl rfl rfl rfl rfl rfl rfl (by decide)) (by dsimp only [aput, List.set]) rfl ?_
         have hn := n21
         rw [hS0] at hn
         exact hn
       have n16 : aany (ITP Tryd.prog) Tryd.prog none ops FIN 5 ⟨[false, true, true, true, true, true, true, false, false, false, false]⟩ (setAll S0 [(34, .agg (Enc.cells ((Ed.mk s1 x3) : Ed))), (35, .raw (.bool x4)), (36, .raw (.bool false)), (37, .raw undef), (38, .raw undef), (39, .raw undef)]) ⟨[(24, (Enc.cells ((Ed.mk 0 0) : Ed))), (24, (Enc.cells ((Ed.mk s1 x3) : Ed)))], [], [], 0, false⟩ := by
        rw [hS0]
        dsimp only [setAll, List.foldl, List.set]
        refine aany_n hops [0, 7] (by kernel_rfl) (by decide) (all_cons (aopAt_s hops rfl ?_) (all_cons (aopAt_s hops rfl ?_) all_nil))
        ·
         refine w_op (a := .agg (Enc.cells ((Ed.mk s1 x3) : Ed))) rfl rfl rfl rfl (by dsimp only [aput, List.set]) ?_
         have hn := n17
         rw [hS0] at hn
         exact hn
        ·
         refine w_passH hops rfl rfl (by decide) (by dsimp only [aput, List.set]) ?_
         have hn := n19
         rw [hS0] at hn
         exact hn
       have n15 : aany (ITP Tryd.prog) Tryd.prog none ops FIN 5 ⟨[true, true, true, true, true, false, true, false, false, false, false]⟩ (setAll S0 [(33, .agg (Enc.cells ((Ed.mk s1 x3) : Ed))), (34, .agg (Enc.cells ((Ed.mk s1 x3) : Ed))), (35, .raw (.bool x4)), (36, .raw (.bool false)), (37, .raw undef), (39, .raw undef)]) ⟨[(24, (Enc.cells ((Ed.mk 0 0) : Ed))), (24, (Enc.cells ((Ed.mk s1 x3) : Ed)))], [], [], 0, false⟩ := by
        rw [hS0]
        dsimp only [setAll, List.foldl, List.set]
        refine aany_n hops [5] (by kernel_rfl) (by decide) (all_cons (aopAt_s hops rfl ?_) all_nil)
        ·
         refine w_passH hops rfl rfl (by decide) (by dsimp only [aput, List.set]) ?_
         have hn := n17
         rw [hS0] at hn
         exact hn
       have n14 : aany (ITP Tryd.prog) Tryd.prog none ops FIN 5 ⟨[true, true, true, true, true, true, false, false, false, false, false]⟩ (setAll S0 [(33, .agg (Enc.cells ((Ed.mk s1 x3) : Ed))), (34, .agg (Enc.cells ((Ed.mk s1 x3) : Ed))), (35, .raw (.bool x4)), (36, .raw (.bool false)), (37, .raw undef), (38, .raw undef)]) ⟨[(24, (Enc.cells ((Ed.mk 0 0) : Ed))), (24, (Enc.cells ((Ed.mk s1 x3) : Ed)))], [], [], 0, false⟩ := by
        rw [hS0]
        dsimp only [setAll, List.foldl, List.set]
        refine aany_n hops [6, 9] (by kernel_rfl) (by decide) (all_cons (aopAt_s hops rfl ?_) (all_cons (aopAt_s hops rfl ?_) all_nil))
        ·
         refine w_passH hops rfl rfl (by decide) (by dsimp only [aput, List.set]) ?_
         have hn := n17
         rw [hS0] at hn
         exact hn
        ·
         refine w_opm (σ'' := ⟨[(24, (Enc.cells ((Ed.mk s1 x3) : Ed))), (24, (Enc.cells ((Ed.mk s1 x3) : Ed)))], [], [], 0, false⟩) rfl rfl rfl (op_storeW (n := 2) rfl rfl rfl rfl rfl rfl rfl rfl (by decide)) (by dsimp only [aput, List.set]) rfl ?_
         have hn := n18
         rw [hS0] at hn
         exact hn
       have n13 : aany (ITP Tryd.prog) Tryd.prog none ops FIN 6 ⟨[false, true, true, true, true, false, true, false, false, false, false]⟩ (setAll S0 [(34, .agg (Enc.cells ((Ed.mk s1 x3) : Ed))), (35, .raw (.bool x4)), (36, .raw (.bool false)), (37, .raw undef), (39, .raw undef)]) ⟨[(24, (Enc.cells ((Ed.mk 0 0) : Ed))), (24, (Enc.cells ((Ed.mk s1 x3) : Ed)))], [], [], 0, false⟩ := by
        rw [hS0]
        dsimp only [setAll, List.foldl, List.set]
        refine aany_n hops [0, 5] (by kernel_rfl) (by decide) (all_cons (aopAt_s hops rfl ?_) (all_cons (aopAt_s hops rfl ?_) all_nil))
        ·
         refine w_op (a := .agg (Enc.cells ((Ed.mk s1 x3) : Ed))) rfl rfl rfl rfl (by dsimp only [aput, List.set]) ?_
         have hn := n15
         rw [hS0] at hn
         exact hn
        ·
         refine w_passH hops rfl rfl (by decide) (by dsimp only [aput, List.set]) ?_
         have hn := n16
         rw [hS0] at hn
         exact hn
       have n12 : aany (ITP Tryd.prog) Tryd.prog none ops FIN 6 ⟨[false, true, true, true, true, true, false, false, false, false, false]⟩ (setAll S0 [(34, .agg (Enc.cells ((Ed.mk s1 x3) : Ed))), (35, .raw (.bool x4)), (36, .raw (.bool false)), (37, .raw undef), (38, .raw undef)]) ⟨[(24, (Enc.cells ((Ed.mk 0 0) : Ed))), (24, (Enc.cells ((Ed.mk s1 x3) : Ed)))], [], [], 0, false⟩ := by
        rw [hS0]
        dsimp only [setAll, List.foldl, List.set]
        refine aany_n hops [0, 6] (by kernel_rfl) (by decide) (all_cons (aopAt_s hops rfl ?_) (all_cons (aopAt_s hops rfl ?_) all_nil))
        ·
         refine w_op (a := .agg (Enc.cells ((Ed.mk s1 x3) : Ed))) rfl rfl rfl rfl (by dsimp only [aput, List.set]) ?_
         have hn := n14
         rw [hS0] at hn
         exact hn
        ·
         refine w_passH hops rfl rfl (by decide) (by dsimp only [aput, List.set]) ?_
         have hn := n16
         rw [hS0] at hn
         exact hn
       have n11 : aany (ITP Tryd.prog) Tryd.prog none ops FIN 6 ⟨[true, true, true, true, false, false, true, false, false, false, false]⟩ (setAll S0 [(33, .agg (Enc.cells ((Ed.mk s1 x3) : Ed))), (34, .agg (Enc.cells ((Ed.mk s1 x3) : Ed))), (35, .raw (.bool x4)), (36, .raw (.bool false)), (39, .raw undef)]) ⟨[(24, (Enc.cells ((Ed.mk 0 0) : Ed))), (24, (Enc.cells ((Ed.mk s1 x3) : Ed)))], [], [], 0, false⟩ := by
        rw [hS0]
        dsimp only [setAll, List.foldl, List.set]
        refine aany_n hops [4] (by kernel_rfl) (by decide) (all_cons (aopAt_s hops rfl ?_) all_nil)
        ·
         refine w_passH hops rfl rfl (by decide) (by dsimp only [aput, List.set]) ?_
         have hn := n15
         rw [hS0] at hn
         exact hn
       have n10 : aany (ITP Tryd.prog) Tryd.prog none ops FIN 6 ⟨[true, true, true, true, true, false, false, false, false, false, false]⟩ (setAll S0 [(33, .agg (Enc.cells ((Ed.mk s1 x3) : Ed))), (34, .agg (Enc.cells ((Ed.mk s1 x3) : Ed))), (35, .raw (.bool x4)), (36, .raw (.bool false)), (37, .raw undef)]) ⟨[(24, (Enc.cells ((Ed.mk 0 0) : Ed))), (24, (Enc.cells ((Ed.mk s1 x3) : Ed)))], [], [], 0, false⟩ := by
        rw [hS0]
        dsimp only [setAll, List.foldl, List.set]
        refine aany_n hops [5, 6] (by kernel_rfl) (by decide) (all_cons (aopAt_s hops rfl ?_) (all_cons (aopAt_s hops rfl ?_) all_nil))
        ·
         refine w_passH hops rfl rfl (by decide) (by dsimp only [aput, List.set]) ?_
         have hn := n14
         rw [hS0] at hn
         exact hn
        ·
         refine w_passH hops rfl rfl (by decide) (by dsimp only [aput, List.set]) ?_
         have hn := n15
         rw [hS0] at hn
         exact hn
       have n9 : aany (ITP Tryd.prog) Tryd.prog none ops FIN 7 ⟨[false, true, true, true, false, false, true, false, false, false, false]⟩ (setAll S0 [(34, .agg (Enc.cells ((Ed.mk s1 x3) : Ed))), (35, .raw (.bool x4)), (36, .raw (.bool false)), (39, .raw undef)]) ⟨[(24, (Enc.cells ((Ed.mk 0 0) : Ed))), (24, (Enc.cells ((Ed.mk s1 x3) : Ed)))], [], [], 0, false⟩ := by
        rw [hS0]
        dsimp only [setAll, List.foldl, List.set]
        refine aany_n hops [0, 4] (by kernel_rfl) (by decide) (all_cons (aopAt_s hops rfl ?_) (all_cons (aopAt_s hops rfl ?_) all_nil))
        ·
         refine w_op (a := .agg (Enc.cells ((Ed.mk s1 x3) : Ed))) rfl rfl rfl rfl (by dsimp only [aput, List.set]) ?_
         have hn := n11
         rw [hS0] at hn
         exact hn
        ·
         refine w_passH hops rfl rfl (by decide) (by dsimp only [aput, List.set]) ?_
         have hn := n13
         rw [hS0] at hn
         exact hn
       have n8 : aany (ITP Tryd.prog) Tryd.prog none ops FIN 7 ⟨[false, true, true, true, true, false, false, false, false, false, false]⟩ (setAll S0 [(34, .agg (Enc.cells ((Ed.mk s1 x3) : Ed))), (35, .raw (.bool x4)), (36, .raw (.bool false)), (37, .raw undef)]) ⟨[(24, (Enc.cells ((Ed.mk 0 0) : Ed))), (24, (Enc.cells ((Ed.mk s1 x3) : Ed)))], [], [], 0, false⟩ := by
        rw [hS0]
        dsimp only [setAll, List.foldl, List.set]
        refine aany_n hops [0, 5, 6] (by kernel_rfl) (by decide) (all_cons (aopAt_s hops rfl ?_) (all_cons (aopAt_s hops rfl ?_) (all_cons (aopAt_s hops rfl ?_) all_nil)))
        ·
         refine w_op (a := .agg (Enc.cells ((Ed.mk s1 x3) : Ed))) rfl rfl rfl rfl (by dsimp only [aput, List.set]) ?_
         have hn := n10
         rw [hS0] at hn
         exact hn
        ·
         refine w_passH hops rfl rfl (by decide) (by dsimp only [aput, List.set]) ?_
         have hn := n12
         rw [hS0] at hn
         exact hn
        ·
         refine w_passH hops rfl rfl (by decide) (by dsimp only [aput, List.set]) ?_
         have hn := n13
         rw [hS0] at hn
         exact hn
       have n7 : aany (ITP Tryd.prog) Tryd.prog none ops FIN 7 ⟨[true, true, true, true, false, false, false, false, false, false, false]⟩ (setAll S0 [(33, .agg (Enc.cells ((Ed.mk s1 x3) : Ed))), (34, .agg (Enc.cells ((Ed.mk s1 x3) : Ed))), (35, .raw (.bool x4)), (36, .raw (.bool false))]) ⟨[(24, (Enc.cells ((Ed.mk 0 0) : Ed))), (24, (Enc.cells ((Ed.mk s1 x3) : Ed)))], [], [], 0, false⟩ := by
        rw [hS0]
        dsimp only [setAll, List.foldl, List.set]
        refine aany_n hops [4, 6] (by kernel_rfl) (by decide) (all_cons (aopAt_s hops rfl ?_) (all_cons (aopAt_s hops rfl ?_) all_nil))
        ·
         refine w_passH hops rfl rfl (by decide) (by dsimp only [aput, List.set]) ?_
         have hn := n10
         rw [hS0] at hn
         exact hn
        ·
         refine w_passH hops rfl rfl (by decide) (by dsimp only [aput, List.set]) ?_
         have hn := n11
         rw [hS0] at hn
         exact hn
       have n6 : aany (ITP Tryd.prog) Tryd.prog none ops FIN 8 ⟨[false, true, true, true, false, false, false, false, false, false, false]⟩ (setAll S0 [(34, .agg (Enc.cells ((Ed.mk s1 x3) : Ed))), (35, .raw (.bool x4)), (36, .raw (.bool false))]) ⟨[(24, (Enc.cells ((Ed.mk 0 0) : Ed))), (24, (Enc.cells ((Ed.mk s1 x3) : Ed)))], [], [], 0, false⟩ := by
        rw [hS0]
        dsimp only [setAll, List.foldl, List.set]
        refine aany_n hops [0, 4, 6] (by kernel_rfl) (by decide) (all_cons (aopAt_s hops rfl ?_) (all_cons (aopAt_s hops rfl ?_) (all_cons (aopAt_s hops rfl ?_) all_nil)))
        ·
         refine w_op (a := .agg (Enc.cells ((Ed.mk s1 x3) : Ed))) rfl rfl rfl rfl (by dsimp only [aput, List.set]) ?_
         have hn := n7
         rw [hS0] at hn
         exact hn
        ·
         refine w_passH hops rfl rfl (by decide) (by dsimp only [aput, List.set]) ?_
         have hn := n8
         rw [hS0] at hn
         exact hn
        ·
         refine w_passH hops rfl rfl (by decide) (by dsimp only [aput, List.set]) ?_
         have hn := n9
         rw [hS0] at hn
         exact hn
       have n5 : aany (ITP Tryd.prog) Tryd.prog none ops FIN 8 ⟨[true, true, true, false, false, false, false, false, false, false, false]⟩ (setAll S0 [(33, .agg (Enc.cells ((Ed.mk s1 x3) : Ed))), (34, .agg (Enc.cells ((Ed.mk s1 x3) : Ed))), (35, .raw (.bool x4))]) ⟨[(24, (Enc.cells ((Ed.mk 0 0) : Ed))), (24, (Enc.cells ((Ed.mk s1 x3) : Ed)))], [], [], 0, false⟩ := by
        rw [hS0]
        dsimp only [setAll, List.foldl, List.set]
        refine aany_n hops [3] (by kernel_rfl) (by decide) (all_cons (aopAt_s hops rfl ?_) all_nil)
        ·
         refine w_op (a := .raw (.bool false)) rfl rfl rfl (op_q (q_bool rfl hc3)) (by dsimp only [aput, List.set]) ?_
         have hn := n7
         rw [hS0] at hn
         exact hn
       have n4 : aany (ITP Tryd.prog) Tryd.prog none ops FIN 9 ⟨[false, true, true, false, false, false, false, false, false, false, false]⟩ (setAll S0 [(34, .agg (Enc.cells ((Ed.mk s1 x3) : Ed))), (35, .raw (.bool x4))]) ⟨[(24, (Enc.cells ((Ed.mk 0 0) : Ed))), (24, (Enc.cells ((Ed.mk s1 x3) : Ed)))], [], [], 0, false⟩ := by
        rw [hS0]
        dsimp only [setAll, List.foldl, List.set]
        refine aany_n hops [0, 3] (by kernel_rfl) (by decide) (all_cons (aopAt_s hops rfl ?_) (all_cons (aopAt_s hops rfl ?_) all_nil))
        ·
         refine w_op (a := .agg (Enc.cells ((Ed.mk s1 x3) : Ed))) rfl rfl rfl rfl (by dsimp only [aput, List.set]) ?_
         have hn := n5
         rw [hS0] at hn
         exact hn
        ·
         refine w_op (a := .raw (.bool false)) rfl rfl rfl (op_q (q_bool rfl hc3)) (by dsimp only [aput, List.set]) ?_
         have hn := n6
         rw [hS0] at hn
         exact hn
       have n3 : aany (ITP Tryd.prog) Tryd.prog none ops FIN 9 ⟨[true, true, false, false, false, false, false, false, false, false, false]⟩ (setAll S0 [(33, .agg (Enc.cells ((Ed.mk s1 x3) : Ed))), (34, .agg (Enc.cells ((Ed.mk s1 x3) : Ed)))]) ⟨[(24, (Enc.cells ((Ed.mk 0 0) : Ed))), (24, (Enc.cells ((Ed.mk s1 x3) : Ed)))], [], [], 0, false⟩ := by
        rw [hS0]
        dsimp only [setAll, List.foldl, List.set]
        refine aany_n hops [2] (by kernel_rfl) (by decide) (all_cons (aopAt_s hops rfl ?_) all_nil)
        ·
         refine w_callc (args' := [.agg (Enc.cells ((Ed.mk s1 x3) : Ed))]) (r := .raw (.bool x4)) (ended_sh (Ed.mk s1 x3) x4 hx4) rfl rfl (stripL_cons (strip_c (clo_agg (Enc.clo _))) rfl) (okTrimL_cons (okTrim_clo _ _ (clo_agg (Enc.clo _))) rfl) (by dsimp only [aput, List.set]) ?_
         have hn := n5
         rw [hS0] at hn
         exact hn
       have n2 : aany (ITP Tryd.prog) Tryd.prog none ops FIN 10 ⟨[false, true, false, false, false, false, false, false, false, false, false]⟩ (setAll S0 [(34, .agg (Enc.cells ((Ed.mk s1 x3) : Ed)))]) ⟨[(24, (Enc.cells ((Ed.mk 0 0) : Ed))), (24, (Enc.cells ((Ed.mk s1 x3) : Ed)))], [], [], 0, false⟩ := by
        rw [hS0]
        dsimp only [setAll, List.foldl, List.set]
        refine aany_n hops [0, 2] (by kernel_rfl) (by decide) (all_cons (aopAt_s hops rfl ?_) (all_cons (aopAt_s hops rfl ?_) all_nil))
        ·
         refine w_op (a := .agg (Enc.cells ((Ed.mk s1 x3) : Ed))) rfl rfl rfl rfl (by dsimp only [aput, List.set]) ?_
         have hn := n3
         rw [hS0] at hn
         exact hn
        ·
         refine w_callc (args' := [.agg (Enc.cells ((Ed.mk s1 x3) : Ed))]) (r := .raw (.bool x4)) (ended_sh (Ed.mk s1 x3) x4 hx4) rfl rfl (stripL_cons (strip_c (clo_agg (Enc.clo _))) rfl) (okTrimL_cons (okTrim_clo _ _ (clo_agg (Enc.clo _))) rfl) (by dsimp only [aput, List.set]) ?_
         have hn := n4
         rw [hS0] at hn
         exact hn
       have n1 : aany (ITP Tryd.prog) Tryd.prog none ops FIN 10 ⟨[true, false, false, false, false, false, false, false, false, false, false]⟩ (setAll S0 [(33, .agg (Enc.cells ((Ed.mk s1 x3) : Ed)))]) ⟨[(24, (Enc.cells ((Ed.mk 0 0) : Ed))), (24, (Enc.cells ((Ed.mk s1 x3) : Ed)))], [], [], 0, false⟩ := by
        rw [hS0]
        dsimp only [setAll, List.foldl, List.set]
        refine aany_n hops [1] (by kernel_rfl) (by decide) (all_cons (aopAt_s hops rfl ?_) all_nil)
        ·
         refine w_op (a := .agg (Enc.cells ((Ed.mk s1 x3) : Ed))) rfl rfl rfl rfl (by dsimp only [aput, List.set]) ?_
         have hn := n3
         rw [hS0] at hn
         exact hn
       have n0 : aany (ITP Tryd.prog) Tryd.prog none ops FIN 11 ⟨[false, false, false, false, false, false, false, false, false, false, false]⟩ (setAll S0 []) ⟨[(24, (Enc.cells ((Ed.mk 0 0) : Ed))), (24, (Enc.cells ((Ed.mk s1 x3) : Ed)))], [], [], 0, false⟩ := by
        rw [hS0]
        dsimp only [setAll, List.foldl, List.set]
        refine aany_n hops [0, 1] (by kernel_rfl) (by decide) (all_cons (aopAt_s hops rfl ?_) (all_cons (aopAt_s hops rfl ?_) all_nil))
        ·
         refine w_op (a := .agg (Enc.cells ((Ed.mk s1 x3) : Ed))) rfl rfl rfl rfl (by dsimp only [aput, List.set]) ?_
         have hn := n1
         rw [hS0] at hn
         exact hn
        ·
         refine w_op (a := .agg (Enc.cells ((Ed.mk s1 x3) : Ed))) rfl rfl rfl rfl (by dsimp only [aput, List.set]) ?_
         have hn := n2
         rw [hS0] at hn
         exact hn
       exact n0
      ·
       refine loop_exit h (fun h => ?_)
       replace h := cut_inr h hr1
       exact end_pureF (fun (r : (Ed × Bool)) => (.tup [.agg (Enc.cells (r.1 : Ed)), .raw (.bool r.2)] : AV)) h (a := .tup [.agg (Enc.cells ((Ed.mk s1 x3) : Ed)), .raw (.bool false)]) rfl (show okTrimL _ _ = true from (okTrimL_cons (okTrim_clo _ _ (clo_agg (Enc.clo _))) (okTrimL_cons rfl rfl))) (show AV.tup (stripL _) = _ from congrArg AV.tup (stripL_cons (strip_c (clo_agg (Enc.clo _))) (stripL_cons rfl rfl)))
    ·
     refine w_condF hc2 rfl ?_
     refine w_region (k0 := 0) (id := 4) ?_
     refine w_op (a := .raw (.int .u8 s1)) rfl rfl rfl rfl (by dsimp only [aput, List.set]) ?_
     refine w_op (a := .raw (.int .u8 (IntKind.u8.wrap (s1 + 1)))) rfl rfl rfl rfl (by dsimp only [aput, List.set]) ?_
     refine w_op (a := .raw (.int .u8 (IntKind.u8.wrap (s1 + 1)))) rfl rfl rfl rfl (by dsimp only [aput, List.set]) ?_
     refine loop_next (p := p1) ((IntKind.u8.wrap (s1 + 1))) h ?_
     exact wm_of [true, false, true, false, true, true, false, true, false, false, false, false, false, false, false, false, false, false, false, false, false, false, false, false, false, false, false, false, false, false, false, false, false, false, false, false, false, false, false, false, false, false, false] (by kernel_rfl) (by kernel_rfl)
   ·
    refine w_condF hc1 rfl ?_
    refine loop_exit h (fun h => ?_)
    refine cut_done (o := or1) () h ?_
    exact wm_of [false, false, true, false, false, false, false, false, false, false, false, false, false, false, false, false, false, false, false, false, false, false, false, false, false, false, false, false, false, false, false, false, false, false, false, false, false, false, false, false, false, false, false] (by kernel_rfl) (by kernel_rfl)
 ·
  intro j1 h
  refine w_start (by dsimp only [setAll, topAll, List.foldl, List.set]) rfl ?_
  refine w_seq (w_region ?_)
  refine w_op (a := .agg (Enc.cells ((Ed.mk 0 0) : Ed))) rfl rfl rfl rfl (by dsimp only [aput, List.set]) ?_
  refine w_opm (σ'' := ⟨[(24, (Enc.cells ((Ed.mk 0 0) : Ed)))], [], [], 0, false⟩) rfl rfl rfl (op_storeW (n := 2) rfl rfl rfl rfl rfl rfl rfl rfl (by decide)) (by dsimp only [aput, List.set]) rfl ?_
  refine w_op (a := .raw (.bool false)) rfl rfl rfl rfl (by dsimp only [aput, List.set]) ?_
  exact end_pureF (fun (r : (Ed × Bool)) => (.tup [.agg (Enc.cells (r.1 : Ed)), .raw (.bool r.2)] : AV)) h (a := .tup [.agg (Enc.cells ((Ed.mk 0 0) : Ed)), .raw (.bool false)]) rfl (show okTrimL _ _ = true from (okTrimL_cons (okTrim_clo _ _ (clo_agg (Enc.clo _))) (okTrimL_cons rfl rfl))) (show AV.tup (stripL _) = _ from congrArg AV.tup (stripL_cons (strip_c (clo_agg (Enc.clo _))) (stripL_cons rfl rfl)))
def F_entry (fuel : Nat) (t : (List UInt8)) : Option (En × Bool) :=
  (chk (List.length t < 4294967281) (letE (Lib.cut t ([32] : List UInt8)) (fun x1 => (cutE (τ := En) (loopE (β := Int × En) (fun s1 => (bif (decide (s1.1 ≤ 3)) then (cutE (τ := En) (chk (1 ≤ s1.1 ∧ s1.1 ≤ 3) (bif ((kindAt s1.1).w == x1.1) then (some (Sum.inl ((En.mk s1.1 s1.2.fr s1.2.to s1.2.b)))) else (some (Sum.inl (s1.2))))) (fun j2 => (some (Sum.inl ((IntKind.u8.wrap (s1.1 + 1)), j2))))) else (some (Sum.inr (Sum.inl (s1.2)))))) fuel (1, (En.mk 0 0 0 []))) (fun j1 => (bif (j1.k == 0) then (some (j1, false)) else (bif (j1.k == 1) then (bindE (F_unquote fuel x1.2.1) (fun x2 => (bif (x2.2.2 == 0) then (bindE (F_line fuel (En.mk j1.k j1.fr j1.to x2.1)) (fun x3 => (some ((En.mk j1.k j1.fr j1.to x2.1), (x3 == t))))) else (some ((En.mk j1.k j1.fr j1.to x2.1), false))))) else (chk (List.length x1.2.1 < 4294967281) (letE (Lib.cut x1.2.1 ([32] : List UInt8)) (fun x4 => (chk (List.length x4.1 ≤ 281474976710656) (letE (atoiP x4.1) (fun x5 => (chk (List.length x4.2.1 ≤ 281474976710656) (letE (atoiP x4.2.1) (fun x6 => (bindE (F_line fuel (En.mk ((En.mk j1.k x5 j1.to j1.b).k) ((En.mk j1.k x5 j1.to j1.b).fr) x6 ((En.mk j1.k x5 j1.to j1.b).b))) (fun x7 => (some ((En.mk ((En.mk j1.k x5 j1.to j1.b).k) ((En.mk j1.k x5 j1.to j1.b).fr) x6 ((En.mk j1.k x5 j1.to j1.b).b)), (x7 == t)))))))))))))))))))))
theorem ent39 : Ent Tryd.prog 39 := enters_of Tryd.func39 (by kernel_rfl) rfl
set_option maxRecDepth 100000 in
set_option maxHeartbeats 4000000 in
theorem entry_sh (fuel : Nat) (t : (List UInt8)) (r : (En × Bool)) (h : F_entry fuel t = some r) : Pure (ITP Tryd.prog) Tryd.prog 39 [.raw (.string (bs t))] (.tup [.agg (Enc.cells (r.1 : En)), .raw (.bool r.2)]) := by
 obtain ⟨d, hd⟩ : ∃ d, Tryd.f39.body = some d := ⟨_, rfl⟩
 refine pure_of mix Tryd.func39 hd ent39 ?_
 cases hd
 unfold F_entry at h
 refine w_start (by dsimp only [abeginS, Tryd.f39, List.length_cons, List.length_nil, Nat.zero_add, Nat.reduceAdd, Nat.reduceSub, List.replicate, List.cons_append, List.nil_append]) (by dsimp only [St.empty]) ?_
 refine w_seq (w_region ?_)
 refine w_opm (a := .ptr 0 0) (σ'' := ⟨[(43, (Enc.cells ((En.mk 0 0 0 []) : En)))], [], [], 0, false⟩) rfl rfl rfl rfl (by dsimp only [aput, List.set]) rfl ?_
 refine w_op (a := .raw (.bool false)) rfl rfl rfl rfl (by dsimp only [aput, List.set]) ?_
 refine w_seq (w_region ?_)
 refine w_op (a := .raw (.string (bs t))) rfl rfl rfl rfl (by dsimp only [aput, List.set]) ?_
 obtain ⟨g1, h⟩ := chk_e h
 obtain ⟨x1, hx1, h⟩ := letE_e h
 refine w_callc (args' := [.raw (.string (bs t)), .raw (.string (bs ([32] : List UInt8)))]) (r := .tup [.raw (.string (bs x1.1)), .raw (.string (bs x1.2.1)), .raw (.bool x1.2.2)]) (by rw [← hx1]; exact (cut_pure t ([32] : List UInt8) g1)) rfl rfl (stripL_cons rfl (stripL_cons rfl rfl)) (okTrimL_cons rfl (okTrimL_cons rfl rfl)) (by dsimp only [aput, List.set]) ?_
 refine w_op (a := .tup [.raw (.string (bs x1.1)), .raw (.string (bs x1.2.1)), .raw (.bool x1.2.2)]) rfl rfl rfl rfl (by dsimp only [aput, List.set]) ?_
 refine w_op (a := .raw (.string (bs x1.1))) rfl rfl rfl rfl (by dsimp only [aput, List.set]) ?_
 refine w_op (a := .raw (.string (bs x1.2.1))) rfl rfl rfl rfl (by dsimp only [aput, List.set]) ?_
 refine w_op (a := .raw (.bool x1.2.2)) rfl rfl rfl rfl (by dsimp only [aput, List.set]) ?_
 refine w_op (a := .raw (.string (bs x1.1))) rfl rfl rfl rfl (by dsimp only [aput, List.set]) ?_
 refine w_op (a := .raw (.string (bs x1.2.1))) rfl rfl rfl rfl (by dsimp only [aput, List.set]) ?_
 refine w_op (a := .raw (.bool x1.2.2)) rfl rfl rfl rfl (by dsimp only [aput, List.set]) ?_
 refine w_seq (w_region ?_)
 refine w_op (a := .agg (Enc.cells ((En.mk 0 0 0 []) : En))) rfl rfl rfl rfl (by dsimp only [aput, List.set]) ?_
 refine w_opm (a := .ptr 1 0) (σ'' := ⟨[(43, (Enc.cells ((En.mk 0 0 0 []) : En))), (43, (Enc.cells ((En.mk 0 0 0 []) : En)))], [], [], 0, false⟩) rfl rfl rfl rfl (by dsimp only [aput, List.set]) rfl ?_
 refine w_opm (σ'' := ⟨[(43, (Enc.cells ((En.mk 0 0 0 []) : En))), (43, (Enc.cells ((En.mk 0 0 0 []) : En)))], [], [], 0, false⟩) rfl rfl rfl (op_storeW (n := 4) rfl rfl rfl rfl rfl rfl rfl rfl (by decide)) (by dsimp only [aput, List.set]) rfl ?_
 refine w_cutF h [1, 3, 4, 6, 8, 9, 10, 11, 12, 13, 14, 15, 16, 17, 18, 19, 20, 21, 22, 23, 24, 25, 26, 27, 28, 29, 30, 31, 32, 33, 34, 35, 36, 37, 38, 39, 40, 41, 42, 43, 44, 45, 46, 47, 48, 49, 50, 51, 52, 53, 54, 55, 56, 57, 58, 59, 60, 61, 62, 63, 64, 65, 66, 67, 68, 69, 70, 71, 72, 73, 74, 75, 76, 77, 78, 79, 80] (fun j1 => []) (fun j1 => ⟨[(43, (Enc.cells ((En.mk 0 0 0 []) : En))), (43, (Enc.cells (j1 : En)))], [], [], 0, false⟩) ?_ ?_
 ·
  intro or1 h hr1
  refine w_seq (w_region ?_)
  refine w_op (a := .raw (.int .u8 1)) rfl rfl rfl rfl (by dsimp only [aput, List.set]) ?_
  refine w_block ?_
  refine w_loopF h [1, 3, 6, 8, 9, 10, 11, 12, 13, 14, 15, 16, 17, 18, 19, 20, 21, 22, 23, 24, 25, 26, 27, 28, 29, 30, 31, 32, 33, 34, 35, 36, 37, 38, 39, 40, 41, 42, 43, 44, 45, 46, 47, 48, 49, 50, 51, 52, 53, 54, 55, 56, 57, 58, 59, 60, 61, 62, 63, 64, 65, 66, 67, 68, 69, 70, 71, 72, 73, 74, 75, 76, 77, 78, 79, 80] (fun s1 => [(8, .raw (.int .u8 s1.1))]) (fun s1 => ⟨[(43, (Enc.cells ((En.mk 0 0 0 []) : En))), (43, (Enc.cells (s1.2 : En)))], [], [], 0, false⟩) ?_ ?_
  ·
   exact wm_of [true, false, true, false, true, true, false, true, true, false, false, false, false, false, false, false, false, false, false, false, false, false, false, false, false, false, false, false, false, false, false, false, false, false, false, false, false, false, false, false, false, false, false, false, false, false, false, false, false, false, false, false, false, false, false, false, false, false, false, false, false, false, false, false, false, false, false, false, false, false, false, false, false, false, false, false, false, false, false, false, false] (by kernel_rfl) (by kernel_rfl)
  ·
   intro s1 p1 h
   refine w_start (by dsimp only [setAll, topAll, List.foldl, List.set]) rfl ?_
   refine w_seq ?_
   refine w_seq (w_region ?_)
   refine w_op (a := .raw (.int .u8 s1.1)) rfl rfl rfl rfl (by dsimp only [aput, List.set]) ?_
   refine w_op (a := .raw (.bool (decide (s1.1 ≤ 3)))) rfl rfl rfl rfl (by dsimp only [aput, List.set]) ?_
   refine bif_e h (fun hc1 h => ?_) (fun hc1 h => ?_)
   ·
    refine w_condT hc1 rfl ?_
    refine w_cutF h [22, 23, 26, 27, 28, 29, 30, 31, 32, 33] (fun j2 => []) (fun j2 => ⟨[(43, (Enc.cells ((En.mk 0 0 0 []) : En))), (43, (Enc.cells (j2 : En)))], [], [], 0, false⟩) ?_ ?_
    ·
     intro or2 h hr2
     refine w_block ?_
     refine w_seq (w_region ?_)
     refine w_callc (args' := []) (r := kindsA) kinds_pure rfl rfl rfl rfl (by dsimp only [aput, List.set]) ?_
     refine w_op (a := .raw (.int .u8 s1.1)) rfl rfl rfl rfl (by dsimp only [aput, List.set]) ?_
     obtain ⟨g2, h⟩ := chk_e h
     refine w_op (a := .agg (Enc.cells ((kindAt s1.1) : Kd))) rfl rfl rfl (op_q (q_kidx g2 rfl rfl rfl)) (by dsimp only [aput, List.set]) ?_
     refine w_op (a := .raw (.string (bs ((kindAt s1.1).w)))) rfl rfl rfl rfl (by dsimp only [aput, List.set]) ?_
     refine w_op (a := .raw (.string (bs x1.1))) rfl rfl rfl rfl (by dsimp only [aput, List.set]) ?_
     refine w_op (a := .raw (.bool ((kindAt s1.1).w == x1.1))) rfl rfl rfl (op_q (q_streq rfl rfl rfl)) (by dsimp only [aput, List.set]) ?_
     refine bif_e h (fun hc2 h => ?_) (fun hc2 h => ?_)
     ·
      refine w_condT hc2 rfl ?_
      refine w_region (k0 := 0) (id := 7) ?_
      refine w_op (a := .raw (.int .u8 s1.1)) rfl rfl rfl rfl (by dsimp only [aput, List.set]) ?_
      refine w_op (a := .ptr 1 0) rfl rfl rfl rfl (by dsimp only [aput, List.set]) ?_
      refine w_opm (σ'' := ⟨[(43, (Enc.cells ((En.mk 0 0 0 []) : En))), (43, (Enc.cells ((En.mk s1.1 s1.2.fr s1.2.to s1.2.b) : En)))], [], [], 0, false⟩) rfl rfl rfl (op_store (n := 1) rfl rfl rfl rfl rfl ⟨rfl, rfl, Nat.le_of_ble_eq_true rfl, by decide⟩) (by dsimp only [aput, List.set]) rfl ?_
      refine cut_done (o := or2) ((En.mk s1.1 s1.2.fr s1.2.to s1.2.b)) h ?_
      exact wm_of [true, true, true, true, true, true, true, true, true, true, true, true, true, true, true, true, true, true, true, true, true, true, false, false, true, true, false, false, false, false, false, false, false, false, true, true, true, true, true, true, true, true, true, true, true, true, true, true, true, true, true, true, true, true, true, true, true, true, true, true, true, true, true, true, true, true, true, true, true, true, true, true, true, true, true, true, true, true, true, true, true] (by kernel_rfl) (by kernel_rfl)
     ·
      refine w_condF hc2 rfl ?_
      refine cut_done (o := or2) (s1.2) h ?_
      exact wm_of [true, true, true, true, true, true, true, true, true, true, true, true, true, true, true, true, true, true, true, true, true, true, false, false, true, true, false, false, false, false, false, false, false, false, true, true, true, true, true, true, true, true, true, true, true, true, true, true, true, true, true, true, true, true, true, true, true, true, true, true, true, true, true, true, true, true, true, true, true, true, true, true, true, true, true, true, true, true, true, true, true] (by kernel_rfl) (by kernel_rfl)
    ·
     intro j2 h
     refine w_start (by dsimp only [setAll, topAll, List.foldl, List.set]) rfl ?_
     refine w_region (k0 := 0) (id := 5) ?_
     refine w_op (a := .raw (.int .u8 s1.1)) rfl rfl rfl rfl (by dsimp only [aput, List.set]) ?_
     refine w_op (a := .raw (.int .u8 (IntKind.u8.wrap (s1.1 + 1)))) rfl rfl rfl rfl (by dsimp only [aput, List.set]) ?_
     refine w_op (a := .raw (.int .u8 (IntKind.u8.wrap (s1.1 + 1)))) rfl rfl rfl rfl (by dsimp only [aput, List.set]) ?_
     refine loop_next (p := p1) ((IntKind.u8.wrap (s1.1 + 1)), j2) h ?_
     exact wm_of [true, false, true, false, true, true, false, true, true, false, false, false, false, false, false, false, false, false, false, false, false, false, false, false, false, false, false, false, false, false, false, false, false, false, false, false, false, false, false, false, false, false, false, false, false, false, false, false, false, false, false, false, false, false, false, false, false, false, false, false, false, false, false, false, false, false, false, false, false, false, false, false, false, false, false, false, false, false, false, false, false] (by kernel_rfl) (by kernel_rfl)
   ·
    refine w_condF hc1 rfl ?_
    refine loop_exit h (fun h => ?_)
    refine cut_done (o := or1) (s1.2) h ?_
    exact wm_of [true, false, true, false, false, true, false, true, false, false, false, false, false, false, false, false, false, false, false, false, false, false, false, false, false, false, false, false, false, false, false, false, false, false, false, false, false, false, false, false, false, false, false, false, false, false, false, false, false, false, false, false, false, false, false, false, false, false, false, false, false, false, false, false, false, false, false, false, false, false, false, false, false, false, false, false, false, false, false, false, false] (by kernel_rfl) (by kernel_rfl)
 ·
  intro j1 h
  refine w_start (by dsimp only [setAll, topAll, List.foldl, List.set]) rfl ?_
  refine w_seq ?_
  refine w_seq (w_region ?_)
  refine w_op (a := .ptr 1 0) rfl rfl rfl rfl (by dsimp only [aput, List.set]) ?_
  refine w_op (a := .raw (.int .u8 j1.k)) rfl rfl rfl rfl (by dsimp only [aput, List.set]) ?_
  refine w_op (a := .raw (.bool (j1.k == 0))) rfl rfl rfl rfl (by dsimp only [aput, List.set]) ?_
  refine bif_e h (fun hc3 h => ?_) (fun hc3 h => ?_)
  ·
   refine w_condT hc3 rfl ?_
   refine w_seq (w_region ?_)
   refine w_op (a := .agg (Enc.cells (j1 : En))) rfl rfl rfl rfl (by dsimp only [aput, List.set]) ?_
   refine w_opm (σ'' := ⟨[(43, (Enc.cells (j1 : En))), (43, (Enc.cells (j1 : En)))], [], [], 0, false⟩) rfl rfl rfl (op_storeW (n := 4) rfl rfl rfl rfl rfl rfl rfl rfl (by decide)) (by dsimp only [aput, List.set]) rfl ?_
   refine w_op (a := .raw (.bool false)) rfl rfl rfl rfl (by dsimp only [aput, List.set]) ?_
   exact end_pureF (fun (r : (En × Bool)) => (.tup [.agg (Enc.cells (r.1 : En)), .raw (.bool r.2)] : AV)) h (a := .tup [.agg (Enc.cells (j1 : En)), .raw (.bool false)]) rfl (show okTrimL _ _ = true from (okTrimL_cons (okTrim_clo _ _ (clo_agg (Enc.clo _))) (okTrimL_cons rfl rfl))) (show AV.tup (stripL _) = _ from congrArg AV.tup (stripL_cons (strip_c (clo_agg (Enc.clo _))) (stripL_cons rfl rfl)))
  ·
   refine w_condF hc3 rfl ?_
   refine w_seq ?_
   refine w_seq (w_region ?_)
   refine w_op (a := .ptr 1 0) rfl rfl rfl rfl (by dsimp only [aput, List.set]) ?_
   refine w_op (a := .raw (.int .u8 j1.k)) rfl rfl rfl rfl (by dsimp only [aput, List.set]) ?_
   refine w_op (a := .raw (.bool (j1.k == 1))) rfl rfl rfl rfl (by dsimp only [aput, List.set]) ?_
   refine bif_e h (fun hc4 h => ?_) (fun hc4 h => ?_)
   ·
    refine w_condT hc4 rfl ?_
    refine w_seq (w_region ?_)
    refine w_op (a := .raw (.string (bs x1.2.1))) rfl rfl rfl rfl (by dsimp only [aput, List.set]) ?_
    obtain ⟨x2, hx2, h⟩ := bindE_e h
    refine w_callc (args' := [.raw (.string (bs x1.2.1))]) (r := .tup [.raw (.string (bs x2.1)), .raw (.int .i64 x2.2.1), .raw (.int .i64 x2.2.2)]) (unquote_sh fuel x1.2.1 x2 hx2) rfl rfl (stripL_cons rfl rfl) (okTrimL_cons rfl rfl) (by dsimp only [aput, List.set]) ?_
    refine w_op (a := .tup [.raw (.string (bs x2.1)), .raw (.int .i64 x2.2.1), .raw (.int .i64 x2.2.2)]) rfl rfl rfl rfl (by dsimp only [aput, List.set]) ?_
    refine w_op (a := .raw (.string (bs x2.1))) rfl rfl rfl rfl (by dsimp only [aput, List.set]) ?_
    refine w_op (a := .raw (.int .i64 x2.2.1)) rfl rfl rfl rfl (by dsimp only [aput, List.set]) ?_
    refine w_op (a := .raw (.int .i64 x2.2.2)) rfl rfl rfl rfl (by dsimp only [aput, List.set]) ?_
    refine w_op (a := .raw (.string (bs x2.1))) rfl rfl rfl rfl (by dsimp only [aput, List.set]) ?_
    refine w_op (a := .raw (.int .i64 x2.2.1)) rfl rfl rfl rfl (by dsimp only [aput, List.set]) ?_
    refine w_op (a := .raw (.int .i64 x2.2.2)) rfl rfl rfl rfl (by dsimp only [aput, List.set]) ?_
    refine w_seq (w_region ?_)
    refine w_op (a := .raw (.string (bs x2.1))) rfl rfl rfl rfl (by dsimp only [aput, List.set]) ?_
    refine w_op (a := .ptr 1 3) rfl rfl rfl rfl (by dsimp only [aput, List.set]) ?_
    refine w_opm (σ'' := ⟨[(43, (Enc.cells ((En.mk 0 0 0 []) : En))), (43, (Enc.cells ((En.mk j1.k j1.fr j1.to x2.1) : En)))], [], [], 0, false⟩) rfl rfl rfl (op_store (n := 1) rfl rfl rfl rfl rfl ⟨rfl, rfl, Nat.le_of_ble_eq_true rfl, by decide⟩) (by dsimp only [aput, List.set]) rfl ?_
    refine bif_e h (fun hc5 h => ?_) (fun hc5 h => ?_)
    ·
     obtain ⟨x3, hx3, h⟩ := bindE_e h
     refine w_seqAny (id := 13) [.raw (.string (bs t)), .top, .ptr 0 0, .raw (.bool (x3 == t)), .top, .raw (.string (bs x1.2.1)), .top, .ptr 1 0, .top, .raw (.string (bs x2.1)), .raw (.int .i64 x2.2.1), .raw (.int .i64 x2.2.2), .top, .top, .top, .top, .top, .top, .top, .top, .top, .top, .top, .top, .top, .top, .top, .top, .top, .top, .top, .top, .top, .top, .ptr 1 0, .raw (.int .u8 j1.k), .raw (.bool (j1.k == 0)), .top, .ptr 1 0, .raw (.int .u8 j1.k), .raw (.bool (j1.k == 1)), .tup [.raw (.string (bs x2.1)), .raw (.int .i64 x2.2.1), .raw (.int .i64 x2.2.2)], .raw (.string (bs x1.2.1)), .tup [.raw (.string (bs x2.1)), .raw (.int .i64 x2.2.1), .raw (.int .i64 x2.2.2)], .raw (.string (bs x2.1)), .raw (.int .i64 x2.2.1), .raw (.int .i64 x2.2.2), .raw (.string (bs x2.1)), .ptr 1 3, .agg (Enc.cells ((En.mk j1.k j1.fr j1.to x2.1) : En)), .raw (.int .i64 x2.2.2), .raw (.bool (x2.2.2 == 0)), .raw (.bool true), .agg (Enc.cells ((En.mk j1.k j1.fr j1.to x2.1) : En)), .raw (.string (bs x3)), .raw (.string (bs t)), .raw (.bool (x3 == t)), .raw (.bool (x3 == t)), .top, .top, .top, .top, .top, .top, .top, .top, .top, .top, .top, .top, .top, .top, .top, .top, .top, .top, .top, .top, .top, .top, .top] ⟨[(43, (Enc.cells ((En.mk j1.k j1.fr j1.to x2.1) : En))), (43, (Enc.cells ((En.mk j1.k j1.fr j1.to x2.1) : En)))], [], [], 0, false⟩ ?_ ?_
     ·
      refine aany_intro (fun ops hops FIN hFIN S0 hS0 => ?_)
      have n26 : aany (ITP Tryd.prog) Tryd.prog none ops FIN 0 ⟨[true, true, true, true, true, true, true, true, true, true, true]⟩ (setAll S0 [(49, .agg (Enc.cells ((En.mk j1.k j1.fr j1.to x2.1) : En))), (50, .raw (.int .i64 x2.2.2)), (51, .raw (.bool (x2.2.2 == 0))), (52, .raw (.bool true)), (53, .agg (Enc.cells ((En.mk j1.k j1.fr j1.to x2.1) : En))), (54, .raw (.string (bs x3))), (55, .raw (.string (bs t))), (56, .raw (.bool (x3 == t))), (57, .raw (.bool (x3 == t))), (3, .raw (.bool (x3 == t)))]) ⟨[(43, (Enc.cells ((En.mk j1.k j1.fr j1.to x2.1) : En))), (43, (Enc.cells ((En.mk j1.k j1.fr j1.to x2.1) : En)))], [], [], 0, false⟩ := by
       rw [hS0]
       dsimp only [setAll, List.foldl, List.set]
       exact aany_0 hops (by kernel_rfl) (hFIN _ _ (Wk.refl _ _ _))
      have n25 : aany (ITP Tryd.prog) Tryd.prog none ops FIN 1 ⟨[true, true, true, true, true, true, true, true, true, true, false]⟩ (setAll S0 [(49, .agg (Enc.cells ((En.mk j1.k j1.fr j1.to x2.1) : En))), (50, .raw (.int .i64 x2.2.2)), (51, .raw (.bool (x2.2.2 == 0))), (52, .raw (.bool true)), (53, .agg (Enc.cells ((En.mk j1.k j1.fr j1.to x2.1) : En))), (54, .raw (.string (bs x3))), (55, .raw (.string (bs t))), (56, .raw (.bool (x3 == t))), (57, .raw (.bool (x3 == t)))]) ⟨[(43, (Enc.cells ((En.mk j1.k j1.fr j1.to x2.1) : En))), (43, (Enc.cells ((En.mk j1.k j1.fr j1.to x2.1) : En)))], [], [], 0, false⟩ := by
       rw [hS0]
       dsimp only [setAll, List.foldl, List.set]
       refine aany_n hops [10] (by kernel_rfl) (by decide) (all_cons (aopAt_s hops rfl ?_) all_nil)
       ·
        refine w_op (a := .raw (.bool (x3 == t))) rfl rfl rfl rfl (by dsimp only [aput, List.set]) ?_
        have hn := n26
        rw [hS0] at hn
        exact hn
      have n24 : aany (ITP Tryd.prog) Tryd.prog none ops FIN 2 ⟨[true, true, true, true, true, true, true, true, false, true, false]⟩ (setAll S0 [(49, .agg (Enc.cells ((En.mk j1.k j1.fr j1.to x2.1) : En))), (50, .raw (.int .i64 x2.2.2)), (51, .raw (.bool (x2.2.2 == 0))), (52, .raw (.bool true)), (53, .agg (Enc.cells ((En.mk j1.k j1.fr j1.to x2.1) : En))), (54, .raw (.string (bs x3))), (55, .raw (.string (bs t))), (56, .raw (.bool (x3 == t)))]) ⟨[(43, (Enc.cells ((En.mk j1.k j1.fr j1.to x2.1) : En))), (43, (Enc.cells ((En.mk j1.k j1.fr j1.to x2.1) : En)))], [], [], 0, false⟩ := by
       rw [hS0]
       dsimp only [setAll, List.foldl, List.set]
       refine aany_n hops [8] (by kernel_rfl) (by decide) (all_cons (aopAt_s hops rfl ?_) all_nil)
       ·
        refine w_op (a := .raw (.bool (x3 == t))) rfl rfl rfl rfl (by dsimp only [aput, List.set]) ?_
        have hn := n25
        rw [hS0] at hn
        exact hn
      have n23 : aany (ITP Tryd.prog) Tryd.prog none ops FIN 2 ⟨[true, true, true, true, true, true, true, true, true, false, false]⟩ (setAll S0 [(49, .agg (Enc.cells ((En.mk j1.k j1.fr j1.to x2.1) : En))), (50, .raw (.int .i64 x2.2.2)), (51, .raw (.bool (x2.2.2 == 0))), (52, .raw (.bool true)), (53, .agg (Enc.cells ((En.mk j1.k j1.fr j1.to x2.1) : En))), (54, .raw (.string (bs x3))), (55, .raw (.string (bs t))), (56, .raw (.bool (x3 == t))), (57, .raw (.bool (x3 == t)))]) ⟨[(43, (Enc.cells ((En.mk 0 0 0 []) : En))), (43, (Enc.cells ((En.mk j1.k j1.fr j1.to x2.1) : En)))], [], [], 0, false⟩ := by
       rw [hS0]
       dsimp only [setAll, List.foldl, List.set]
       refine aany_n hops [9] (by kernel_rfl) (by decide) (all_cons (aopAt_s hops rfl ?_) all_nil)
       ·
        refine w_opm (σ'' := ⟨[(43, (Enc.cells ((En.mk j1.k j1.fr j1.to x2.1) : En))), (43, (Enc.cells ((En.mk j1.k j1.fr j1.to x2.1) : En)))], [], [], 0, false⟩) rfl rfl rfl (op_storeW (n := 4) rfl rfl rfl rfl rfl rfl rfl rfl (by decide)) (by dsimp only [aput, List.set]) rfl ?_
        have hn := n25
        rw [hS0] at hn
        exact hn
      have n22 : aany (ITP Tryd.prog) Tryd.prog none ops FIN 3 ⟨[false, true, true, true, true, true, true, true, true, false, false]⟩ (setAll S0 [(50, .raw (.int .i64 x2.2.2)), (51, .raw (.bool (x2.2.2 == 0))), (52, .raw (.bool true)), (53, .agg (Enc.cells ((En.mk j1.k j1.fr j1.to x2.1) : En))), (54, .raw (.string (bs x3))), (55, .raw (.string (bs t))), (56, .raw (.bool (x3 == t))), (57, .raw (.bool (x3 == t)))]) ⟨[(43, (Enc.cells ((En.mk 0 0 0 []) : En))), (43, (Enc.cells ((En.mk j1.k j1.fr j1.to x2.1) : En)))], [], [], 0, false⟩ := by
       rw [hS0]
       dsimp only [setAll, List.foldl, List.set]
       refine aany_n hops [0] (by kernel_rfl) (by decide) (all_cons (aopAt_s hops rfl ?_) all_nil)
       ·
        refine w_op (a := .agg (Enc.cells ((En.mk j1.k j1.fr j1.to x2.1) : En))) rfl rfl rfl rfl (by dsimp only [aput, List.set]) ?_
        have hn := n23
        rw [hS0] at hn
        exact hn
      have n21 : aany (ITP Tryd.prog) Tryd.prog none ops FIN 3 ⟨[true, true, true, true, true, true, true, false, false, true, false]⟩ (setAll S0 [(49, .agg (Enc.cells ((En.mk j1.k j1.fr j1.to x2.1) : En))), (50, .raw (.int .i64 x2.2.2)), (51, .raw (.bool (x2.2.2 == 0))), (52, .raw (.bool true)), (53, .agg (Enc.cells ((En.mk j1.k j1.fr j1.to x2.1) : En))), (54, .raw (.string (bs x3))), (55, .raw (.string (bs t)))]) ⟨[(43, (Enc.cells ((En.mk j1.k j1.fr j1.to x2.1) : En))), (43, (Enc.cells ((En.mk j1.k j1.fr j1.to x2.1) : En)))], [], [], 0, false⟩ := by
       rw [hS0]
       dsimp only [setAll, List.foldl, List.set]
       refine aany_n hops [7] (by kernel_rfl) (by decide) (all_cons (aopAt_s hops rfl ?_) all_nil)
       ·
        refine w_metH hops rfl rfl ?_
        refine w_op (a := .raw (.bool (x3 == t))) rfl rfl rfl (op_q (q_streq rfl rfl rfl)) (by dsimp only [aput, List.set]) ?_
        have hn := n24
        rw [hS0] at hn
        exact hn
      have n20 : aany (ITP Tryd.prog) Tryd.prog none ops FIN 3 ⟨[true, true, true, true, true, true, true, true, false, false, false]⟩ (setAll S0 [(49, .agg (Enc.cells ((En.mk j1.k j1.fr j1.to x2.1) : En))), (50, .raw (.int .i64 x2.2.2)), (51, .raw (.bool (x2.2.2 == 0))), (52, .raw (.bool true)), (53, .agg (Enc.cells ((En.mk j1.k j1.fr j1.to x2.1) : En))), (54, .raw (.string (bs x3))), (55, .raw (.string (bs t))), (56, .raw (.bool (x3 == t)))]) ⟨[(43, (Enc.cells ((En.mk 0 0 0 []) : En))), (43, (Enc.cells ((En.mk j1.k j1.fr j1.to x2.1) : En)))], [], [], 0, false⟩ := by
       rw [hS0]
       dsimp only [setAll, List.foldl, List.set]
       refine aany_n hops [8, 9] (by kernel_rfl) (by decide) (all_cons (aopAt_s hops rfl ?_) (all_cons (aopAt_s hops rfl ?_) all_nil))
       ·
        refine w_op (a := .raw (.bool (x3 == t))) rfl rfl rfl rfl (by dsimp only [aput, List.set]) ?_
        have hn := n23
        rw [hS0] at hn
        exact hn
       ·
        refine w_opm (σ'' := ⟨[(43, (Enc.cells ((En.mk j1.k j1.fr j1.to x2.1) : En))), (43, (Enc.cells ((En.mk j1.k j1.fr j1.to x2.1) : En)))], [], [], 0, false⟩) rfl rfl rfl (op_storeW (n := 4) rfl rfl rfl rfl rfl rfl rfl rfl (by decide)) (by dsimp only [aput, List.set]) rfl ?_
        have hn := n24
        rw [hS0] at hn
        exact hn
      have n19 : aany (ITP Tryd.prog) Tryd.prog none ops FIN 4 ⟨[false, true, true, true, true, true, true, true, false, false, false]⟩ (setAll S0 [(50, .raw (.int .i64 x2.2.2)), (51, .raw (.bool (x2.2.2 == 0))), (52, .raw (.bool true)), (53, .agg (Enc.cells ((En.mk j1.k j1.fr j1.to x2.1) : En))), (54, .raw (.string (bs x3))), (55, .raw (.string (bs t))), (56, .raw (.bool (x3 == t)))]) ⟨[(43, (Enc.cells ((En.mk 0 0 0 []) : En))), (43, (Enc.cells ((En.mk j1.k j1.fr j1.to x2.1) : En)))], [], [], 0, false⟩ := by
       rw [hS0]
       dsimp only [setAll, List.foldl, List.set]
       refine aany_n hops [0, 8] (by kernel_rfl) (by decide) (all_cons (aopAt_s hops rfl ?_) (all_cons (aopAt_s hops rfl ?_) all_nil))
       ·
        refine w_op (a := .agg (Enc.cells ((En.mk j1.k j1.fr j1.to x2.1) : En))) rfl rfl rfl rfl (by dsimp only [aput, List.set]) ?_
        have hn := n20
        rw [hS0] at hn
        exact hn
       ·
        refine w_op (a := .raw (.bool (x3 == t))) rfl rfl rfl rfl (by dsimp only [aput, List.set]) ?_
        have hn := n22
        rw [hS0] at hn
        exact hn
      have n18 : aany (ITP Tryd.prog) Tryd.prog none ops FIN 4 ⟨[true, true, true, true, true, true, false, false, false, true, false]⟩ (setAll S0 [(49, .agg (Enc.cells ((En.mk j1.k j1.fr j1.to x2.1) : En))), (50, .raw (.int .i64 x2.2.2)), (51, .raw (.bool (x2.2.2 == 0))), (52, .raw (.bool true)), (53, .agg (Enc.cells ((En.mk j1.k j1.fr j1.to x2.1) : En))), (54, .raw (.string (bs x3)))]) ⟨[(43, (Enc.cells ((En.mk j1.k j1.fr j1.to x2.1) : En))), (43, (Enc.cells ((En.mk j1.k j1.fr j1.to x2.1) : En)))], [], [], 0, false⟩ := by
       rw [hS0]
       dsimp only [setAll, List.foldl, List.set]
       refine aany_n hops [6] (by kernel_rfl) (by decide) (all_cons (aopAt_s hops rfl ?_) all_nil)
       ·
        refine w_metH hops rfl rfl ?_
        refine w_op (a := .raw (.string (bs t))) rfl rfl rfl rfl (by dsimp only [aput, List.set]) ?_
        have hn := n21
        rw [hS0] at hn
        exact hn
      have n17 : aany (ITP Tryd.prog) Tryd.prog none ops FIN 4 ⟨[true, true, true, true, true, true, true, false, false, false, false]⟩ (setAll S0 [(49, .agg (Enc.cells ((En.mk j1.k j1.fr j1.to x2.1) : En))), (50, .raw (.int .i64 x2.2.2)), (51, .raw (.bool (x2.2.2 == 0))), (52, .raw (.bool true)), (53, .agg (Enc.cells ((En.mk j1.k j1.fr j1.to x2.1) : En))), (54, .raw (.string (bs x3))), (55, .raw (.string (bs t)))]) ⟨[(43, (Enc.cells ((En.mk 0 0 0 []) : En))), (43, (Enc.cells ((En.mk j1.k j1.fr j1.to x2.1) : En)))], [], [], 0, false⟩ := by
       rw [hS0]
       dsimp only [setAll, List.foldl, List.set]
       refine aany_n hops [7, 9] (by kernel_rfl) (by decide) (all_cons (aopAt_s hops rfl ?_) (all_cons (aopAt_s hops rfl ?_) all_nil))
       ·
        refine w_metH hops rfl rfl ?_
        refine w_op (a := .raw (.bool (x3 == t))) rfl rfl rfl (op_q (q_streq rfl rfl rfl)) (by dsimp only [aput, List.set]) ?_
        have hn := n20
        rw [hS0] at hn
        exact hn
       ·
        refine w_opm (σ'' := ⟨[(43, (Enc.cells ((En.mk j1.k j1.fr j1.to x2.1) : En))), (43, (Enc.cells ((En.mk j1.k j1.fr j1.to x2.1) : En)))], [], [], 0, false⟩) rfl rfl rfl (op_storeW (n := 4) rfl rfl rfl rfl rfl rfl rfl rfl (by decide)) (by dsimp only [aput, List.set]) rfl ?_
        have hn := n21
        rw [hS0] at hn
        exact hn
      have n16 : aany (ITP Tryd.prog) Tryd.prog none ops FIN 5 ⟨[false, true, true, true, true, true, true, false, false, false, false]⟩ (setAll S0 [(50, .raw (.int .i64 x2.2.2)), (51, .raw (.bool (x2.2.2 == 0))), (52, .raw (.bool true)), (53, .agg (Enc.cells ((En.mk j1.k j1.fr j1.to x2.1) : En))), (54, .raw (.string (bs x3))), (55, .raw (.string (bs t)))]) ⟨[(43, (Enc.cells ((En.mk 0 0 0 []) : En))), (43, (Enc.cells ((En.mk j1.k j1.fr j1.to x2.1) : En)))], [], [], 0, false⟩ := by
       rw [hS0]
       dsimp only [setAll, List.foldl, List.set]
       refine aany_n hops [0, 7] (by kernel_rfl) (by decide) (all_cons (aopAt_s hops rfl ?_) (all_cons (aopAt_s hops rfl ?_) all_nil))
       ·
        refine w_op (a := .agg (Enc.cells ((En.mk j1.k j1.fr j1.to x2.1) : En))) rfl rfl rfl rfl (by dsimp only [aput, List.set]) ?_
        have hn := n17
        rw [hS0] at hn
        exact hn
       ·
        refine w_metH hops rfl rfl ?_
        refine w_op (a := .raw (.bool (x3 == t))) rfl rfl rfl (op_q (q_streq rfl rfl rfl)) (by dsimp only [aput, List.set]) ?_
        have hn := n19
        rw [hS0] at hn
        exact hn
      have n15 : aany (ITP Tryd.prog) Tryd.prog none ops FIN 5 ⟨[true, true, true, true, true, false, true, false, false, false, false]⟩ (setAll S0 [(49, .agg (Enc.cells ((En.mk j1.k j1.fr j1.to x2.1) : En))), (50, .raw (.int .i64 x2.2.2)), (51, .raw (.bool (x2.2.2 == 0))), (52, .raw (.bool true)), (53, .agg (Enc.cells ((En.mk j1.k j1.fr j1.to x2.1) : En))), (55, .raw (.string (bs t)))]) ⟨[(43, (Enc.cells ((En.mk 0 0 0 []) : En))), (43, (Enc.cells ((En.mk j1.k j1.fr j1.to x2.1) : En)))], [], [], 0, false⟩ := by
       rw [hS0]
       dsimp only [setAll, List.foldl, List.set]
       refine aany_n hops [5] (by kernel_rfl) (by decide) (all_cons (aopAt_s hops rfl ?_) all_nil)
       ·
        refine w_metH hops rfl rfl ?_
        refine w_callc (args' := [.agg (Enc.cells ((En.mk j1.k j1.fr j1.to x2.1) : En))]) (r := .raw (.string (bs x3))) (line_sh fuel (En.mk j1.k j1.fr j1.to x2.1) x3 hx3) rfl rfl (stripL_cons (strip_c (clo_agg (Enc.clo _))) rfl) (okTrimL_cons (okTrim_clo _ _ (clo_agg (Enc.clo _))) rfl) (by dsimp only [aput, List.set]) ?_
        have hn := n17
        rw [hS0] at hn
        exact hn
      have n14 : aany (ITP Tryd.prog) Tryd.prog none ops FIN 5 ⟨[true, true, true, true, true, true, false, false, false, false, false]⟩ (setAll S0 [(49, .agg (Enc.cells ((En.mk j1.k j1.fr j1.to x2.1) : En))), (50, .raw (.int .i64 x2.2.2)), (51, .raw (.bool (x2.2.2 == 0))), (52, .raw (.bool true)), (53, .agg (Enc.cells ((En.mk j1.k j1.fr j1.to x2.1) : En))), (54, .raw (.string (bs x3)))]) ⟨[(43, (Enc.cells ((En.mk 0 0 0 []) : En))), (43, (Enc.cells ((En.mk j1.k j1.fr j1.to x2.1) : En)))], [], [], 0, false⟩ := by
       rw [hS0]
       dsimp only [setAll, List.foldl, List.set]
       refine aany_n hops [6, 9] (by kernel_rfl) (by decide) (all_cons (aopAt_s hops rfl ?_) (all_cons (aopAt_s hops rfl ?_) all_nil))
       ·
        refine w_metH hops rfl rfl ?_
        refine w_op (a := .raw (.string (bs t))) rfl rfl rfl rfl (by dsimp only [aput, List.set]) ?_
        have hn := n17
        rw [hS0] at hn
        exact hn
       ·
        refine w_opm (σ'' := ⟨[(43, (Enc.cells ((En.mk j1.k j1.fr j1.to x2.1) : En))), (43, (Enc.cells ((En.mk j1.k j1.fr j1.to x2.1) : En)))], [], [], 0, false⟩) rfl rfl rfl (op_storeW (n := 4) rfl rfl rfl rfl rfl rfl rfl rfl (by decide)) (by dsimp only [aput, List.set]) rfl ?_
        have hn := n18
        rw [hS0] at hn
        exact hn
      have n13 : aany (ITP Tryd.prog) Tryd.prog none ops FIN 6 ⟨[false, true, true, true, true, false, true, false, false, false, false]⟩ (setAll S0 [(50, .raw (.int .i64 x2.2.2)), (51, .raw (.bool (x2.2.2 == 0))), (52, .raw (.bool true)), (53, .agg (Enc.cells ((En.mk j1.k j1.fr j1.to x2.1) : En))), (55, .raw (.string (bs t)))]) ⟨[(43, (Enc.cells ((En.mk 0 0 0 []) : En))), (43, (Enc.cells ((En.mk j1.k j1.fr j1.to x2.1) : En)))], [], [], 0, false⟩ := by
       rw [hS0]
       dsimp only [setAll, List.foldl, List.set]
       refine aany_n hops [0, 5] (by kernel_rfl) (by decide) (all_cons (aopAt_s hops rfl ?_) (all_cons (aopAt_s hops rfl ?_) all_nil))
       ·
        refine w_op (a := .agg (Enc.cells ((En.mk j1.k j1.fr j1.to x2.1) : En))) rfl rfl rfl rfl (by dsimp only [aput, List.set]) ?_
        have hn := n15
        rw [hS0] at hn
        exact hn
       ·
        refine w_metH hops rfl rfl ?_
        refine w_callc (args' := [.agg (Enc.cells ((En.mk j1.k j1.fr j1.to x2.1) : En))]) (r := .raw (.string (bs x3))) (line_sh fuel (En.mk j1.k j1.fr j1.to x2.1) x3 hx3) rfl rfl (stripL_cons (strip_c (clo_agg (Enc.clo _))) rfl) (okTrimL_cons (okTrim_clo _ _ (clo_agg (Enc.clo _))) rfl) (by dsimp only [aput, List.set]) ?_
        have hn := n16
        rw [hS0] at hn
        exact hn
      have n12 : aany (ITP Tryd.prog) Tryd.prog none ops FIN 6 ⟨[false, true, true, true, true, true, false, false, false, false, false]⟩ (setAll S0 [(50, .raw (.int .i64 x2.2.2)), (51, .raw (.bool (x2.2.2 == 0))), (52, .raw (.bool true)), (53, .agg (Enc.cells ((En.mk j1.k j1.fr j1.to x2.1) : En))), (54, .raw (.string (bs x3)))]) ⟨[(43, (Enc.cells ((En.mk 0 0 0 []) : En))), (43, (Enc.cells ((En.mk j1.k j1.fr j1.to x2.1) : En)))], [], [], 0, false⟩ := by
       rw [hS0]
       dsimp only [setAll, List.foldl, List.set]
       refine aany_n hops [0, 6] (by kernel_rfl) (by decide) (all_cons (aopAt_s hops rfl ?_) (all_cons (aopAt_s hops rfl ?_) all_nil))
       ·
        refine w_op (a := .agg (Enc.cells ((En.mk j1.k j1.fr j1.to x2.1) : En))) rfl rfl rfl rfl (by dsimp only [aput, List.set]) ?_
        have hn := n14
        rw [hS0] at hn
        exact hn
       ·
        refine w_metH hops rfl rfl ?_
        refine w_op (a := .raw (.string (bs t))) rfl rfl rfl rfl (by dsimp only [aput, List.set]) ?_
        have hn := n16
        rw [hS0] at hn
        exact hn
      have n11 : aany (ITP Tryd.prog) Tryd.prog none ops FIN 6 ⟨[true, true, true, true, false, false, true, false, false, false, false]⟩ (setAll S0 [(49, .agg (Enc.cells ((En.mk j1.k j1.fr j1.to x2.1) : En))), (50, .raw (.int .i64 x2.2.2)), (51, .raw (.bool (x2.2.2 == 0))), (52, .raw (.bool true)), (55, .raw (.string (bs t)))]) ⟨[(43, (Enc.cells ((En.mk 0 0 0 []) : En))), (43, (Enc.cells ((En.mk j1.k j1.fr j1.to x2.1) : En)))], [], [], 0, false⟩ := by
       rw [hS0]
       dsimp only [setAll, List.foldl, List.set]
       refine aany_n hops [4] (by kernel_rfl) (by decide) (all_cons (aopAt_s hops rfl ?_) all_nil)
       ·
        refine w_metH hops rfl rfl ?_
        refine w_op (a := .agg (Enc.cells ((En.mk j1.k j1.fr j1.to x2.1) : En))) rfl rfl rfl rfl (by dsimp only [aput, List.set]) ?_
        have hn := n15
        rw [hS0] at hn
        exact hn
      have n10 : aany (ITP Tryd.prog) Tryd.prog none ops FIN 6 ⟨[true, true, true, true, true, false, false, false, false, false, false]⟩ (setAll S0 [(49, .agg (Enc.cells ((En.mk j1.k j1.fr j1.to x2.1) : En))), (50, .raw (.int .i64 x2.2.2)), (51, .raw (.bool (x2.2.2 == 0))), (52, .raw (.bool true)), (53, .agg (Enc.cells ((En.mk j1.k j1.fr j1.to x2.1) : En)))]) ⟨[(43, (Enc.cells ((En.mk 0 0 0 []) : En))), (43, (Enc.cells ((En.mk j1.k j1.fr j1.to x2.1) : En)))], [], [], 0, false⟩ := by
       rw [hS0]
       dsimp only [setAll, List.foldl, List.set]
       refine aany_n hops [5, 6] (by kernel_rfl) (by decide) (all_cons (aopAt_s hops rfl ?_) (all_cons (aopAt_s hops rfl ?_) all_nil))
       ·
        refine w_metH hops rfl rfl ?_
        refine w_callc (args' := [.agg (Enc.cells ((En.mk j1.k j1.fr j1.to x2.1) : En))]) (r := .raw (.string (bs x3))) (line_sh fuel (En.mk j1.k j1.fr j1.to x2.1) x3 hx3) rfl rfl (stripL_cons (strip_c (clo_agg (Enc.clo _))) rfl) (okTrimL_cons (okTrim_clo _ _ (clo_agg (Enc.clo _))) rfl) (by dsimp only [aput, List.set]) ?_
        have hn := n14
        rw [hS0] at hn
        exact hn
       ·
        refine w_metH hops rfl rfl ?_
        refine w_op (a := .raw (.string (bs t))) rfl rfl rfl rfl (by dsimp only [aput, List.set]) ?_
        have hn := n15
        rw [hS0] at hn
        exact hn
      have n9 : aany (ITP Tryd.prog) Tryd.prog none ops FIN 7 ⟨[false, true, true, true, false, false, true, false, false, false, false]⟩ (setAll S0 [(50, .raw (.int .i64 x2.2.2)), (51, .raw (.bool (x2.2.2 == 0))), (52, .raw (.bool true)), (55, .raw (.string (bs t)))]) ⟨[(43, (Enc.cells ((En.mk 0 0 0 []) : En))), (43, (Enc.cells ((En.mk j1.k j1.fr j1.to x2.1) : En)))], [], [], 0, false⟩ := by
       rw [hS0]
       dsimp only [setAll, List.foldl, List.set]
       refine aany_n hops [0, 4] (by kernel_rfl) (by decide) (all_cons (aopAt_s hops rfl ?_) (all_cons (aopAt_s hops rfl ?_) all_nil))
       ·
        refine w_op (a := .agg (Enc.cells ((En.mk j1.k j1.fr j1.to x2.1) : En))) rfl rfl rfl rfl (by dsimp only [aput, List.set]) ?_
        have hn := n11
        rw [hS0] at hn
        exact hn
       ·
        refine w_metH hops rfl rfl ?_
        refine w_op (a := .agg (Enc.cells ((En.mk j1.k j1.fr j1.to x2.1) : En))) rfl rfl rfl rfl (by dsimp only [aput, List.set]) ?_
        have hn := n13
        rw [hS0] at hn
        exact hn
      have n8 : aany (ITP Tryd.prog) Tryd.prog none ops FIN 7 ⟨[false, true, true, true, true, false, false, false, false, false, false]⟩ (setAll S0 [(50, .raw (.int .i64 x2.2.2)), (51, .raw (.bool (x2.2.2 == 0))), (52, .raw (.bool true)), (53, .agg (Enc.cells ((En.mk j1.k j1.fr j1.to x2.1) : En)))]) ⟨[(43, (Enc.cells ((En.mk 0 0 0 []) : En))), (43, (Enc.cells ((En.mk j1.k j1.fr j1.to x2.1) : En)))], [], [], 0, false⟩ := by
       rw [hS0]
       dsimp only [setAll, List.foldl, List.set]
       refine aany_n hops [0, 5, 6] (by kernel_rfl) (by decide) (all_cons (aopAt_s hops rfl ?_) (all_cons (aopAt_s hops rfl ?_) (all_cons (aopAt_s hops rfl ?_) all_nil)))
       ·
        refine w_op (a := .agg (Enc.cells ((En.mk j1.k j1.fr j1.to x2.1) : En))) rfl rfl rfl rfl (by dsimp only [aput, List.set]) ?_
        have hn := n10
        rw [hS0] at hn
        exact hn
       ·
        refine w_metH hops rfl rfl ?_
        refine w_callc (args' := [.agg (Enc.cells ((En.mk j1.k j1.fr j1.to x2.1) : En))]) (r := .raw (.string (bs x3))) (line_sh fuel (En.mk j1.k j1.fr j1.to x2.1) x3 hx3) rfl rfl (stripL_cons (strip_c (clo_agg (Enc.clo _))) rfl) (okTrimL_cons (okTrim_clo _ _ (clo_agg (Enc.clo _))) rfl) (by dsimp only [aput, List.set]) ?_
        have hn := n12
        rw [hS0] at hn
        exact hn
       ·
        refine w_metH hops rfl rfl ?_
        refine w_op (a := .raw (.string (bs t))) rfl rfl rfl rfl (by dsimp only [aput, List.set]) ?_
        have hn := n13
        rw [hS0] at hn
        exact hn
      have n7 : aany (ITP Tryd.prog) Tryd.prog none ops FIN 7 ⟨[true, true, true, true, false, false, false, false, false, false, false]⟩ (setAll S0 [(49, .agg (Enc.cells ((En.mk j1.k j1.fr j1.to x2.1) : En))), (50, .raw (.int .i64 x2.2.2)), (51, .raw (.bool (x2.2.2 == 0))), (52, .raw (.bool true))]) ⟨[(43, (Enc.cells ((En.mk 0 0 0 []) : En))), (43, (Enc.cells ((En.mk j1.k j1.fr j1.to x2.1) : En)))], [], [], 0, false⟩ := by
       rw [hS0]
       dsimp only [setAll, List.foldl, List.set]
       refine aany_n hops [4, 6] (by kernel_rfl) (by decide) (all_cons (aopAt_s hops rfl ?_) (all_cons (aopAt_s hops rfl ?_) all_nil))
       ·
        refine w_metH hops rfl rfl ?_
        refine w_op (a := .agg (Enc.cells ((En.mk j1.k j1.fr j1.to x2.1) : En))) rfl rfl rfl rfl (by dsimp only [aput, List.set]) ?_
        have hn := n10
        rw [hS0] at hn
        exact hn
       ·
        refine w_metH hops rfl rfl ?_
        refine w_op (a := .raw (.string (bs t))) rfl rfl rfl rfl (by dsimp only [aput, List.set]) ?_
        have hn := n11
        rw [hS0] at hn
        exact hn
      have n6 : aany (ITP Tryd.prog) Tryd.prog none ops FIN 8 ⟨[false, true, true, true, false, false, false, false, false, false, false]⟩ (setAll S0 [(50, .raw (.int .i64 x2.2.2)), (51, .raw (.bool (x2.2.2 == 0))), (52, .raw (.bool true))]) ⟨[(43, (Enc.cells ((En.mk 0 0 0 []) : En))), (43, (Enc.cells ((En.mk j1.k j1.fr j1.to x2.1) : En)))], [], [], 0, false⟩ := by
       rw [hS0]
       dsimp only [setAll, List.foldl, List.set]
       refine aany_n hops [0, 4, 6] (by kernel_rfl) (by decide) (all_cons (aopAt_s hops rfl ?_) (all_cons (aopAt_s hops rfl ?_) (all_cons (aopAt_s hops rfl ?_) all_nil)))
       ·
        refine w_op (a := .agg (Enc.cells ((En.mk j1.k j1.fr j1.to x2.1) : En))) rfl rfl rfl rfl (by dsimp only [aput, List.set]) ?_
        have hn := n7
        rw [hS0] at hn
        exact hn
       ·
        refine w_metH hops rfl rfl ?_
        refine w_op (a := .agg (Enc.cells ((En.mk j1.k j1.fr j1.to x2.1) : En))) rfl rfl rfl rfl (by dsimp only [aput, List.set]) ?_
        have hn := n8
        rw [hS0] at hn
        exact hn
       ·
        refine w_metH hops rfl rfl ?_
        refine w_op (a := .raw (.string (bs t))) rfl rfl rfl rfl (by dsimp only [aput, List.set]) ?_
        have hn := n9
        rw [hS0] at hn
        exact hn
      have n5 : aany (ITP Tryd.prog) Tryd.prog none ops FIN 8 ⟨[true, true, true, false, false, false, false, false, false, false, false]⟩ (setAll S0 [(49, .agg (Enc.cells ((En.mk j1.k j1.fr j1.to x2.1) : En))), (50, .raw (.int .i64 x2.2.2)), (51, .raw (.bool (x2.2.2 == 0)))]) ⟨[(43, (Enc.cells ((En.mk 0 0 0 []) : En))), (43, (Enc.cells ((En.mk j1.k j1.fr j1.to x2.1) : En)))], [], [], 0, false⟩ := by
       rw [hS0]
       dsimp only [setAll, List.foldl, List.set]
       refine aany_n hops [3] (by kernel_rfl) (by decide) (all_cons (aopAt_s hops rfl ?_) all_nil)
       ·
        refine w_op (a := .raw (.bool true)) rfl rfl rfl (op_q (q_bool rfl hc5)) (by dsimp only [aput, List.set]) ?_
        have hn := n7
        rw [hS0] at hn
        exact hn
      have n4 : aany (ITP Tryd.prog) Tryd.prog none ops FIN 9 ⟨[false, true, true, false, false, false, false, false, false, false, false]⟩ (setAll S0 [(50, .raw (.int .i64 x2.2.2)), (51, .raw (.bool (x2.2.2 == 0)))]) ⟨[(43, (Enc.cells ((En.mk 0 0 0 []) : En))), (43, (Enc.cells ((En.mk j1.k j1.fr j1.to x2.1) : En)))], [], [], 0, false⟩ := by
       rw [hS0]
       dsimp only [setAll, List.foldl, List.set]
       refine aany_n hops [0, 3] (by kernel_rfl) (by decide) (all_cons (aopAt_s hops rfl ?_) (all_cons (aopAt_s hops rfl ?_) all_nil))
       ·
        refine w_op (a := .agg (Enc.cells ((En.mk j1.k j1.fr j1.to x2.1) : En))) rfl rfl rfl rfl (by dsimp only [aput, List.set]) ?_
        have hn := n5
        rw [hS0] at hn
        exact hn
       ·
        refine w_op (a := .raw (.bool true)) rfl rfl rfl (op_q (q_bool rfl hc5)) (by dsimp only [aput, List.set]) ?_
        have hn := n6
        rw [hS0] at hn
        exact hn
      have n3 : aany (ITP Tryd.prog) Tryd.prog none ops FIN 9 ⟨[true, true, false, false, false, false, false, false, false, false, false]⟩ (setAll S0 [(49, .agg (Enc.cells ((En.mk j1.k j1.fr j1.to x2.1) : En))), (50, .raw (.int .i64 x2.2.2))]) ⟨[(43, (Enc.cells ((En.mk 0 0 0 []) : En))), (43, (Enc.cells ((En.mk j1.k j1.fr j1.to x2.1) : En)))], [], [], 0, false⟩ := by
       rw [hS0]
       dsimp only [setAll, List.foldl, List.set]
       refine aany_n hops [2] (by kernel_rfl) (by decide) (all_cons (aopAt_s hops rfl ?_) all_nil)
       ·
        refine w_op (a := .raw (.bool (x2.2.2 == 0))) rfl rfl rfl rfl (by dsimp only [aput, List.set]) ?_
        have hn := n5
        rw [hS0] at hn
        exact hn
      have n2 : aany (ITP Tryd.prog) Tryd.prog none ops FIN 10 ⟨[false, true, false, false, false, false, false, false, false, false, false]⟩ (setAll S0 [(50, .raw (.int .i64 x2.2.2))]) ⟨[(43, (Enc.cells ((En.mk 0 0 0 []) : En))), (43, (Enc.cells ((En.mk j1.k j1.fr j1.to x2.1) : En)))], [], [], 0, false⟩ := by
       rw [hS0]
       dsimp only [setAll, List.foldl, List.set]
       refine aany_n hops [0, 2] (by kernel_rfl) (by decide) (all_cons (aopAt_s hops rfl ?_) (all_cons (aopAt_s hops rfl ?_) all_nil))
       ·
        refine w_op (a := .agg (Enc.cells ((En.mk j1.k j1.fr j1.to x2.1) : En))) rfl rfl rfl rfl (by dsimp only [aput, List.set]) ?_
        have hn := n3
        rw [hS0] at hn
        exact hn
       ·
        refine w_op (a := .raw (.bool (x2.2.2 == 0))) rfl rfl rfl rfl (by dsimp only [aput, List.set]) ?_
        have hn := n4
        rw [hS0] at hn
        exact hn
      have n1 : aany (ITP Tryd.prog) Tryd.prog none ops FIN 10 ⟨[true, false, false, false, false, false, false, false, false, false, false]⟩ (setAll S0 [(49, .agg (Enc.cells ((En.mk j1.k j1.fr j1.to x2.1) : En)))]) ⟨[(43, (Enc.cells ((En.mk 0 0 0 []) : En))), (43, (Enc.cells ((En.mk j1.k j1.fr j1.to x2.1) : En)))], [], [], 0, false⟩ := by
       rw [hS0]
       dsimp only [setAll, List.foldl, List.set]
       refine aany_n hops [1] (by kernel_rfl) (by decide) (all_cons (aopAt_s hops rfl ?_) all_nil)
       ·
        refine w_op (a := .raw (.int .i64 x2.2.2)) rfl rfl rfl rfl (by dsimp only [aput, List.set]) ?_
        have hn := n3
        rw [hS0] at hn
        exact hn
      have n0 : aany (ITP Tryd.prog) Tryd.prog none ops FIN 11 ⟨[false, false, false, false, false, false, false, false, false, false, false]⟩ (setAll S0 []) ⟨[(43, (Enc.cells ((En.mk 0 0 0 []) : En))), (43, (Enc.cells ((En.mk j1.k j1.fr j1.to x2.1) : En)))], [], [], 0, false⟩ := by
       rw [hS0]
       dsimp only [setAll, List.foldl, List.set]
       refine aany_n hops [0, 1] (by kernel_rfl) (by decide) (all_cons (aopAt_s hops rfl ?_) (all_cons (aopAt_s hops rfl ?_) all_nil))
       ·
        refine w_op (a := .agg (Enc.cells ((En.mk j1.k j1.fr j1.to x2.1) : En))) rfl rfl rfl rfl (by dsimp only [aput, List.set]) ?_
        have hn := n1
        rw [hS0] at hn
        exact hn
       ·
        refine w_op (a := .raw (.int .i64 x2.2.2)) rfl rfl rfl rfl (by dsimp only [aput, List.set]) ?_
        have hn := n2
        rw [hS0] at hn
        exact hn
      exact n0
     ·
      exact end_pureF (fun (r : (En × Bool)) => (.tup [.agg (Enc.cells (r.1 : En)), .raw (.bool r.2)] : AV)) h (a := .tup [.agg (Enc.cells ((En.mk j1.k j1.fr j1.to x2.1) : En)), .raw (.bool (x3 == t))]) rfl (show okTrimL _ _ = true from (okTrimL_cons (okTrim_clo _ _ (clo_agg (Enc.clo _))) (okTrimL_cons rfl rfl))) (show AV.tup (stripL _) = _ from congrArg AV.tup (stripL_cons (strip_c (clo_agg (Enc.clo _))) (stripL_cons rfl rfl)))
    ·
     refine w_seqAny (id := 13) [.raw (.string (bs t)), .top, .ptr 0 0, .raw (.bool false), .top, .raw (.string (bs x1.2.1)), .top, .ptr 1 0, .top, .raw (.string (bs x2.1)), .raw (.int .i64 x2.2.1), .raw (.int .i64 x2.2.2), .top, .top, .top, .top, .top, .top, .top, .top, .top, .top, .top, .top, .top, .top, .top, .top, .top, .top, .top, .top, .top, .top, .ptr 1 0, .raw (.int .u8 j1.k), .raw (.bool (j1.k == 0)), .top, .ptr 1 0, .raw (.int .u8 j1.k), .raw (.bool (j1.k == 1)), .tup [.raw (.string (bs x2.1)), .raw (.int .i64 x2.2.1), .raw (.int .i64 x2.2.2)], .raw (.string (bs x1.2.1)), .tup [.raw (.string (bs x2.1)), .raw (.int .i64 x2.2.1), .raw (.int .i64 x2.2.2)], .raw (.string (bs x2.1)), .raw (.int .i64 x2.2.1), .raw (.int .i64 x2.2.2), .raw (.string (bs x2.1)), .ptr 1 3, .agg (Enc.cells ((En.mk j1.k j1.fr j1.to x2.1) : En)), .raw (.int .i64 x2.2.2), .raw (.bool (x2.2.2 == 0)), .raw (.bool false), .raw undef, .raw undef, .raw undef, .raw undef, .raw (.bool false), .top, .top, .top, .top, .top, .top, .top, .top, .top, .top, .top, .top, .top, .top, .top, .top, .top, .top, .top, .top, .top, .top, .top] ⟨[(43, (Enc.cells ((En.mk j1.k j1.fr j1.to x2.1) : En))), (43, (Enc.cells ((En.mk j1.k j1.fr j1.to x2.1) : En)))], [], [], 0, false⟩ ?_ ?_
     ·
      refine aany_intro (fun ops hops FIN hFIN S0 hS0 => ?_)
      have n26 : aany (ITP Tryd.prog) Tryd.prog none ops FIN 0 ⟨[true, true, true, true, true, true, true, true, true, true, true]⟩ (setAll S0 [(49, .agg (Enc.cells ((En.mk j1.k j1.fr j1.to x2.1) : En))), (50, .raw (.int .i64 x2.2.2)), (51, .raw (.bool (x2.2.2 == 0))), (52, .raw (.bool false)), (53, .raw undef), (54, .raw undef), (55, .raw undef), (56, .raw undef), (57, .raw (.bool false)), (3, .raw (.bool false))]) ⟨[(43, (Enc.cells ((En.mk j1.k j1.fr j1.to x2.1) : En))), (43, (Enc.cells ((En.mk j1.k j1.fr j1.to x2.1) : En)))], [], [], 0, false⟩ := by
       rw [hS0]
       dsimp only [setAll, List.foldl, List.set]
       exact aany_0 hops (by kernel_rfl) (hFIN _ _ (Wk.refl _ _ _))
      have n25 : aany (ITP Tryd.prog) Tryd.prog none ops FIN 1 ⟨[true, true, true, true, true, true, true, true, true, true, false]⟩ (setAll S0 [(49, .agg (Enc.cells ((En.mk j1.k j1.fr j1.to x2.1) : En))), (50, .raw (.int .i64 x2.2.2)), (51, .raw (.bool (x2.2.2 == 0))), (52, .raw (.bool false)), (53, .raw undef), (54, .raw undef), (55, .raw undef), (56, .raw undef), (57, .raw (.bool false))]) ⟨[(43, (Enc.cells ((En.mk j1.k j1.fr j1.to x2.1) : En))), (43, (Enc.cells ((En.mk j1.k j1.fr j1.to x2.1) : En)))], [], [], 0, false⟩ := by
       rw [hS0]
       dsimp only [setAll, List.foldl, List.set]
       refine aany_n hops [10] (by kernel_rfl) (by decide) (all_cons (aopAt_s hops rfl ?_) all_nil)
       ·
        refine w_op (a := .raw (.bool false)) rfl rfl rfl rfl (by dsimp only [aput, List.set]) ?_
        have hn := n26
        rw [hS0] at hn
        exact hn
      have n24 : aany (ITP Tryd.prog) Tryd.prog none ops FIN 2 ⟨[true, true, true, true, true, true, true, true, false, true, false]⟩ (setAll S0 [(49, .agg (Enc.cells ((En.mk j1.k j1.fr j1.to x2.1) : En))), (50, .raw (.int .i64 x2.2.2)), (51, .raw (.bool (x2.2.2 == 0))), (52, .raw (.bool false)), (53, .raw undef), (54, .raw undef), (55, .raw undef), (56, .raw undef)]) ⟨[(43, (Enc.cells ((En.mk j1.k j1.fr j1.to x2.1) : En))), (43, (Enc.cells ((En.mk j1.k j1.fr j1.to x2.1) : En)))], [], [], 0, false⟩ := by
       rw [hS0]
       dsimp only [setAll, List.foldl, List.set]
       refine aany_n hops [8] (by kernel_rfl) (by decide) (all_cons (aopAt_s hops rfl ?_) all_nil)
       ·
        refine w_op (a := .raw (.bool false)) rfl rfl rfl rfl (by dsimp only [aput, List.set]) ?_
        have hn := n25
        rw [hS0] at hn
        exact hn
      have n23 : aany (ITP Tryd.prog) Tryd.prog none ops FIN 2 ⟨[true, true, true, true, true, true, true, true, true, false, false]⟩ (setAll S0 [(49, .agg (Enc.cells ((En.mk j1.k j1.fr j1.to x2.1) : En))), (50, .raw (.int .i64 x2.2.2)), (51, .raw (.bool (x2.2.2 == 0))), (52, .raw (.bool false)), (53, .raw undef), (54, .raw undef), (55, .raw undef), (56, .raw undef), (57, .raw (.bool false))]) ⟨[(43, (Enc.cells ((En.mk 0 0 0 []) : En))), (43, (Enc.cells ((En.mk j1.k j1.fr j1.to x2.1) : En)))], [], [], 0, false⟩ := by
       rw [hS0]
       dsimp only [setAll, List.foldl, List.set]
       refine aany_n hops [9] (by kernel_rfl) (by decide) (all_cons (aopAt_s hops rfl ?_) all_nil)
       ·
        refine w_opm (σ'' := ⟨[(43, (Enc.cells ((En.mk j1.k j1.fr j1.to x2.1) : En))), (43, (Enc.cells ((En.mk j1.k j1.fr j1.to x2.1) : En)))], [], [], 0, false⟩) rfl rfl rfl (op_storeW (n := 4) rfl rfl rfl rfl rfl rfl rfl rfl (by decide)) (by dsimp only [aput, List.set]) rfl ?_
        have hn := n25
        rw [hS0] at hn
        exact hn
      have n22 : aany (ITP Tryd.prog) Tryd.prog none ops FIN 3 ⟨[false, true, true, true, true, true, true, true, true, false, false]⟩ (setAll S0 [(50, .raw (.int .i64 x2.2.2)), (51, .raw (.bool (x2.2.2 == 0))), (52, .raw (.bool false)), (53, .raw undef), (54, .raw undef), (55, .raw undef), (56, .raw undef), (57, .raw (.bool false))]) ⟨[(43, (Enc.cells ((En.mk 0 0 0 []) : En))), (43, (Enc.cells ((En.mk j1.k j1.fr j1.to x2.1) : En)))], [], [], 0, false⟩ := by
       rw [hS0]
       dsimp only [setAll, List.foldl, List.set]
       refine aany_n hops [0] (by kernel_rfl) (by decide) (all_cons (aopAt_s hops rfl ?_) all_nil)
       ·
        refine w_op (a := .agg (Enc.cells ((En.mk j1.k j1.fr j1.to x2.1) : En))) rfl rfl rfl rfl (by dsimp only [aput, List.set]) ?_
        have hn := n23
        rw [hS0] at hn
        exact hn
      have n21 : aany (ITP Tryd.prog) Tryd.prog none ops FIN 3 ⟨[true, true, true, true, true, true, true, false, false, true, false]⟩ (setAll S0 [(49, .agg (Enc.cells ((En.mk j1.k j1.fr j1.to x2.1) : En))), (50, .raw (.int .i64 x2.2.2)), (51, .raw (.bool (x2.2.2 == 0))), (52, .raw (.bool false)), (53, .raw undef), (54, .raw undef), (55, .raw undef)]) ⟨[(43, (Enc.cells ((En.mk j1.k j1.fr j1.to x2.1) : En))), (43, (Enc.cells ((En.mk j1.k j1.fr j1.to x2.1) : En)))], [], [], 0, false⟩ := by
       rw [hS0]
       dsimp only [setAll, List.foldl, List.set]
       refine aany_n hops [7] (by kernel_rfl) (by decide) (all_cons (aopAt_s hops rfl ?_) all_nil)
       ·
        refine w_passH hops rfl rfl (by decide) (by dsimp only [aput, List.set]) ?_
        have hn := n24
        rw [hS0] at hn
        exact hn
      have n20 : aany (ITP Tryd.prog) Tryd.prog none ops FIN 3 ⟨[true, true, true, true, true, true, true, true, false, false, false]⟩ (setAll S0 [(49, .agg (Enc.cells ((En.mk j1.k j1.fr j1.to x2.1) : En))), (50, .raw (.int .i64 x2.2.2)), (51, .raw (.bool (x2.2.2 == 0))), (52, .raw (.bool false)), (53, .raw undef), (54, .raw undef), (55, .raw undef), (56, .raw undef)]) ⟨[(43, (Enc.cells ((En.mk 0 0 0 []) : En))), (43, (Enc.cells ((En.mk j1.k j1.fr j1.to x2.1) : En)))], [], [], 0, false⟩ := by
       rw [hS0]
       dsimp only [setAll, List.foldl, List.set]
       refine aany_n hops [8, 9] (by kernel_rfl) (by decide) (all_cons (aopAt_s hops rfl ?_) (all_cons (aopAt_s hops rfl ?_) all_nil))
       ·
        refine w_op (a := .raw (.bool false)) rfl rfl rfl rfl (by dsimp only [aput, List.set]) ?_
        have hn := n23
        rw [hS0] at hn
        exact hn
       ·
        refine w_opm (σ'' := ⟨[(43, (Enc.cells ((En.mk j1.k j1.fr j1.to x2.1) : En))), (43, (Enc.cells ((En.mk j1.k j1.fr j1.to x2.1) : En)))], [], [], 0, false⟩) rfl rfl rfl (op_storeW (n := 4) rfl rfl rfl rfl rfl rfl rfl rfl (by decide)) (by dsimp only [aput, List.set]) rfl ?_
        have hn := n24
        rw [hS0] at hn
        exact hn
      have n19 : aany (ITP Tryd.prog) Tryd.prog none ops FIN 4 ⟨[false, true, true, true, true, true, true, true, false, false, false]⟩ (setAll S0 [(50, .raw (.int .i64 x2.2.2)), (51, .raw (.bool (x2.2.2 == 0))), (52, .raw (.bool false)), (53, .raw undef), (54, .raw undef), (55, .raw undef), (56, .raw undef)]) ⟨[(43, (Enc.cells ((En.mk 0 0 0 []) : En))), (43, (Enc.cells ((En.mk j1.k j1.fr j1.to x2.1) : En)))], [], [], 0, false⟩ := by
       rw [hS0]
       dsimp only [setAll, List.foldl, List.set]
       refine aany_n hops [0, 8] (by kernel_rfl) (by decide) (all_cons (aopAt_s hops rfl ?_) (all_cons (aopAt_s hops rfl ?_) all_nil))
       ·
        refine w_op (a := .agg (Enc.cells ((En.mk j1.k j1.fr j1.to x2.1) : En))) rfl rfl rfl rfl (by dsimp only [aput, List.set]) ?_
        have hn := n20
        rw [hS0] at hn
        exact hn
       ·
        refine w_op (a := .raw (.bool false)) rfl rfl rfl rfl (by dsimp only [aput, List.set]) ?_
        have hn := n22
        rw [hS0] at hn
        exact hn
      have n18 : aany (ITP Tryd.prog) Tryd.prog none ops FIN 4 ⟨[true, true, true, true, true, true, false, false, false, true, false]⟩ (setAll S0 [(49, .agg (Enc.cells ((En.mk j1.k j1.fr j1.to x2.1) : En))), (50, .raw (.int .i64 x2.2.2)), (51, .raw (.bool (x2.2.2 == 0))), (52, .raw (.bool false)), (53, .raw undef), (54, .raw undef)]) ⟨[(43, (Enc.cells ((En.mk j1.k j1.fr j1.to x2.1) : En))), (43, (Enc.cells ((En.mk j1.k j1.fr j1.to x2.1) : En)))], [], [], 0, false⟩ := by
       rw [hS0]
       dsimp only [setAll, List.foldl, List.set]
       refine aany_n hops [6] (by kernel_rfl) (by decide) (all_cons (aopAt_s hops rfl ?_) all_nil)
       ·
        refine w_passH hops rfl rfl (by decide) (by dsimp only [aput, List.set]) ?_
        have hn := n21
        rw [hS0] at hn
        exact hn
      have n17 : aany (ITP Tryd.prog) Tryd.prog none ops FIN 4 ⟨[true, true, true, true, true, true, true, false, false, false, false]⟩ (setAll S0 [(49, .agg (Enc.cells ((En.mk j1.k j1.fr j1.to x2.1) : En))), (50, .raw (.int .i64 x2.2.2)), (51, .raw (.bool (x2.2.2 == 0))), (52, .raw (.bool false)), (53, .raw undef), (54, .raw undef), (55, .raw undef)]) ⟨[(43, (Enc.cells ((En.mk 0 0 0 []) : En))), (43, (Enc.cells ((En.mk j1.k j1.fr j1.to x2.1) : En)))], [], [], 0, false⟩ := by
       rw [hS0]
       dsimp only [setAll, List.foldl, List.set]
       refine aany_n hops [7, 9] (by kernel_rfl) (by decide) (all_cons (aopAt_s hops rfl ?_) (all_cons (aopAt_s hops rfl ?_) all_nil))
       ·
        refine w_passH hops rfl rfl (by decide) (by dsimp only [aput, List.set]) ?_
        have hn := n20
        rw [hS0] at hn
        exact hn
       ·
        refine w_opm (σ'' := ⟨[(43, (Enc.cells ((En.mk j1.k j1.fr j1.to x2.1) : En))), (43, (Enc.cells ((En.mk j1.k j1.fr j1.to x2.1) : En)))], [], [], 0, false⟩) rfl rfl rfl (op_storeW (n := 4) rfl rfl rfl rfl rfl rfl rfl rfl (by decide)) (by dsimp only [aput, List.set]) rfl ?_
        have hn := n21
        rw [hS0] at hn
        exact hn
      have n16 : aany (ITP Tryd.prog) Tryd.prog none ops FIN 5 ⟨[false, true, true, true, true, true, true, false, false, false, false]⟩ (setAll S0 [(50, .raw (.int .i64 x2.2.2)), (51, .raw (.bool (x2.2.2 == 0))), (52, .raw (.bool false)), (53, .raw undef), (54, .raw undef), (55, .raw undef)]) ⟨[(43, (Enc.cells ((En.mk 0 0 0 []) : En))), (43, (Enc.cells ((En.mk j1.k j1.fr j1.to x2.1) : En)))], [], [], 0, false⟩ := by
       rw [hS0]
       dsimp only [setAll, List.foldl, List.set]
       refine aany_n hops [0, 7] (by kernel_rfl) (by decide) (all_cons (aopAt_s hops rfl ?_) (all_cons (aopAt_s hops rfl ?_) all_nil))
       ·
        refine w_op (a := .agg (Enc.cells ((En.mk j1.k j1.fr j1.to x2.1) : En))) rfl rfl rfl rfl (by dsimp only [aput, List.set]) ?_
        have hn := n17
        rw [hS0] at hn
        exact hn
       ·
        refine w_passH hops rfl rfl (by decide) (by dsimp only [aput, List.set]) ?_
        have hn := n19
        rw [hS0] at hn
        exact hn
      have n15 : aany (ITP Tryd.prog) Tryd.prog none ops FIN 5 ⟨[true, true, true, true, true, false, true, false, false, false, false]⟩ (setAll S0 [(49, .agg (Enc.cells ((En.mk j1.k j1.fr j1.to x2.1) : En))), (50, .raw (.int .i64 x2.2.2)), (51, .raw (.bool (x2.2.2 == 0))), (52, .raw (.bool false)), (53, .raw undef), (55, .raw undef)]) ⟨[(43, (Enc.cells ((En.mk 0 0 0 []) : En))), (43, (Enc.cells ((En.mk j1.k j1.fr j1.to x2.1) : En)))], [], [], 0, false⟩ := by
       rw [hS0]
       dsimp only [setAll, List.foldl, List.set]
       refine aany_n hops [5] (by kernel_rfl) (by decide) (all_cons (aopAt_s hops rfl ?_) all_nil)
       ·
        refine w_passH hops rfl rfl (by decide) (by dsimp only [aput, List.set]) ?_
        have hn := n17
        rw [hS0] at hn
        exact hn
      have n14 : aany (ITP Tryd.prog) Tryd.prog none ops FIN 5 ⟨[true, true, true, true, true, true, false, false, false, false, false]⟩ (setAll S0 [(49, .agg (Enc.cells ((En.mk j1.k j1.fr j1.to x2.1) : En))), (50, .raw (.int .i64 x2.2.2)), (51, .raw (.bool (x2.2.2 == 0))), (52, .raw (.bool false)), (53, .raw undef), (54, .raw undef)]) ⟨[(43, (Enc.cells ((En.mk 0 0 0 []) : En))), (43, (Enc.cells ((En.mk j1.k j1.fr j1.to x2.1) : En)))], [], [], 0, false⟩ := by
       rw [hS0]
       dsimp only [setAll, List.foldl, List.set]
       refine aany_n hops [6, 9] (by kernel_rfl) (by decide) (all_cons (aopAt_s hops rfl ?_) (all_cons (aopAt_s hops rfl ?_) all_nil))
       ·
        refine w_passH hops rfl rfl (by decide) (by dsimp only [aput, List.set]) ?_
        have hn := n17
        rw [hS0] at hn
        exact hn
       ·
        refine w_opm (σ'' := ⟨[(43, (Enc.cells ((En.mk j1.k j1.fr j1.to x2.1) : En))), (43, (Enc.cells ((En.mk j1.k j1.fr j1.to x2.1) : En)))], [], [], 0, false⟩) rfl rfl rfl (op_storeW (n := 4) rfl rfl rfl rfl rfl rfl rfl rfl (by decide)) (by dsimp only [aput, List.set]) rfl ?_
        have hn := n18
        rw [hS0] at hn
        exact hn
      have n13 : aany (ITP Tryd.prog) Tryd.prog none ops FIN 6 ⟨[false, true, true, true, true, false, true, false, false, false, false]⟩ (setAll S0 [(50, .raw (.int .i64 x2.2.2)), (51, .raw (.bool (x2.2.2 == 0))), (52, .raw (.bool false)), (53, .raw undef), (55, .raw undef)]) ⟨[(43, (Enc.cells ((En.mk 0 0 0 []) : En))), (43, (Enc.cells ((En.mk j1.k j1.fr j1.to x2.1) : En)))], [], [], 0, false⟩ := by
       rw [hS0]
       dsimp only [setAll, List.foldl, List.set]
       refine aany_n hops [0, 5] (by kernel_rfl) (by decide) (all_cons (aopAt_s hops rfl ?_) (all_cons (aopAt_s hops rfl ?_) all_nil))
       ·
        refine w_op (a := .agg (Enc.cells ((En.mk j1.k j1.fr j1.to x2.1) : En))) rfl rfl rfl rfl (by dsimp only [aput, List.set]) ?_
        have hn := n15
        rw [hS0] at hn
        exact hn
       ·
        refine w_passH hops rfl rfl (by decide) (by dsimp only [aput, List.set]) ?_
        have hn := n16
        rw [hS0] at hn
        exact hn
      have n12 : aany (ITP Tryd.prog) Tryd.prog none ops FIN 6 ⟨[false, true, true, true, true, true, false, false, false, false, false]⟩ (setAll S0 [(50, .raw (.int .i64 x2.2.2)), (51, .raw (.bool (x2.2.2 == 0))), (52, .raw (.bool false)), (53, .raw undef), (54, .raw undef)]) ⟨[(43, (Enc.cells ((En.mk 0 0 0 []) : En))), (43, (Enc.cells ((En.mk j1.k j1.fr j1.to x2.1) : En)))], [], [], 0, false⟩ := by
       rw [hS0]
       dsimp only [setAll, List.foldl, List.set]
       refine aany_n hops [0, 6] (by kernel_rfl) (by decide) (all_cons (aopAt_s hops rfl ?_) (all_cons (aopAt_s hops rfl ?_) all_nil))
       ·
        refine w_op (a := .agg (Enc.cells ((En.mk j1.k j1.fr j1.to x2.1) : En))) rfl rfl rfl rfl (by dsimp only [aput, List.set]) ?_
        have hn := n14
        rw [hS0] at hn
        exact hn
       ·
        refine w_passH hops rfl rfl (by decide) (by dsimp only [aput, List.set]) ?_
        have hn := n16
        rw [hS0] at hn
        exact hn
      have n11 : aany (ITP Tryd.prog) Tryd.prog none ops FIN 6 ⟨[true, true, true, true, false, false, true, false, false, false, false]⟩ (setAll S0 [(49, .agg (Enc.cells ((En.mk j1.k j1.fr j1.to x2.1) : En))), (50, .raw (.int .i64 x2.2.2)), (51, .raw (.bool (x2.2.2 == 0))), (52, .raw (.bool false)), (55, .raw undef)]) ⟨[(43, (Enc.cells ((En.mk 0 0 0 []) : En))), (43, (Enc.cells ((En.mk j1.k j1.fr j1.to x2.1) : En)))], [], [], 0, false⟩ := by
       rw [hS0]
       dsimp only [setAll, List.foldl, List.set]
       refine aany_n hops [4] (by kernel_rfl) (by decide) (all_cons (aopAt_s hops rfl ?_) all_nil)
       ·
        refine w_passH hops rfl rfl (by decide) (by dsimp only [aput, List.set]) ?_
        have hn := n15
        rw [hS0] at hn
        exact hn
      have n10 : aany (ITP Tryd.prog) Tryd.prog none ops FIN 6 ⟨[true, true, true, true, true, false, false, false, false, false, false]⟩ (setAll S0 [(49, .agg (Enc.cells ((En.mk j1.k j1.fr j1.to x2.1) : En))), (50, .raw (.int .i64 x2.2.2)), (51, .raw (.bool (x2.2.2 == 0))), (52, .raw (.bool false)), (53, .raw undef)]) ⟨[(43, (Enc.cells ((En.mk 0 0 0 []) : En))), (43, (Enc.cells ((En.mk j1.k j1.fr j1.to x2.1) : En)))], [], [], 0, false⟩ := by
       rw [hS0]
       dsimp only [setAll, List.foldl, List.set]
       refine aany_n hops [5, 6] (by kernel_rfl) (by decide) (all_cons (aopAt_s hops rfl ?_) (all_cons (aopAt_s hops rfl ?_) all_nil))
       ·
        refine w_passH hops rfl rfl (by decide) (by dsimp only [aput, List.set]) ?_
        have hn := n14
        rw [hS0] at hn
        exact hn
       ·
        refine w_passH hops rfl rfl (by decide) (by dsimp only [aput, List.set]) ?_
        have hn := n15
        rw [hS0] at hn
        exact hn
      have n9 : aany (ITP Tryd.prog) Tryd.prog none ops FIN 7 ⟨[false, true, true, true, false, false, true, false, false, false, false]⟩ (setAll S0 [(50, .raw (.int .i64 x2.2.2)), (51, .raw (.bool (x2.2.2 == 0))), (52, .raw (.bool false)), (55, .raw undef)]) ⟨[(43, (Enc.cells ((En.mk 0 0 0 []) : En))), (43, (Enc.cells ((En.mk j1.k j1.fr j1.to x2.1) : En)))], [], [], 0, false⟩ := by
       rw [hS0]
       dsimp only [setAll, List.foldl, List.set]
       refine aany_n hops [0, 4] (by kernel_rfl) (by decide) (all_cons (aopAt_s hops rfl ?_) (all_cons (aopAt_s hops rfl ?_) all_nil))
       ·
        refine w_op (a := .agg (Enc.cells ((En.mk j1.k j1.fr j1.to x2.1) : En))) rfl rfl rfl rfl (by dsimp only [aput, List.set]) ?_
        have hn := n11
        rw [hS0] at hn
        exact hn
       ·
        refine w_passH hops rfl rfl (by decide) (by dsimp only [aput, List.set]) ?_
        have hn := n13
        rw [hS0] at hn
        exact hn
      have n8 : aany (ITP Tryd.prog) Tryd.prog none ops FIN 7 ⟨[false, true, true, true, true, false, false, false, false, false, false]⟩ (setAll S0 [(50, .raw (.int .i64 x2.2.2)), (51, .raw (.bool (x2.2.2 == 0))), (52, .raw (.bool false)), (53, .raw undef)]) ⟨[(43, (Enc.cells ((En.mk 0 0 0 []) : En))), (43, (Enc.cells ((En.mk j1.k j1.fr j1.to x2.1) : En)))], [], [], 0, false⟩ := by
       rw [hS0]
       dsimp only [setAll, List.foldl, List.set]
       refine aany_n hops [0, 5, 6] (by kernel_rfl) (by decide) (all_cons (aopAt_s hops rfl ?_) (all_cons (aopAt_s hops rfl ?_) (all_cons (aopAt_s hops rfl ?_) all_nil)))
       ·
        refine w_op (a := .agg (Enc.cells ((En.mk j1.k j1.fr j1.to x2.1) : En))) rfl rfl rfl rfl (by dsimp only [aput, List.set]) ?_
        have hn := n10
        rw [hS0] at hn
        exact hn
       ·
        refine w_passH hops rfl rfl (by decide) (by dsimp only [aput, List.set]) ?_
        have hn := n12
        rw [hS0] at hn
        exact hn
       ·
        refine w_passH hops rfl rfl (by decide) (by dsimp only [aput, List.set]) ?_
        have hn := n13
        rw [hS0] at hn
        exact hn
      have n7 : aany (ITP Tryd.prog) Tryd.prog none ops FIN 7 ⟨[true, true, true, true, false, false, false, false, false, false, false]⟩ (setAll S0 [(49, .agg (Enc.cells ((En.mk j1.k j1.fr j1.to x2.1) : En))), (50, .raw (.int .i64 x2.2.2)), (51, .raw (.bool (x2.2.2 == 0))), (52, .raw (.bool false))]) ⟨[(43, (Enc.cells ((En.mk 0 0 0 []) : En))), (43, (Enc.cells ((En.mk j1.k j1.fr j1.to x2.1) : En)))], [], [], 0, false⟩ := by
       rw [hS0]
       dsimp only [setAll, List.foldl, List.set]
       refine aany_n hops [4, 6] (by kernel_rfl) (by decide) (all_cons (aopAt_s hops rfl ?_) (all_cons (aopAt_s hops rfl ?_) all_nil))
       ·
        refine w_passH hops rfl rfl (by decide) (by dsimp only [aput, List.set]) ?_
        have hn := n10
        rw [hS0] at hn
        exact hn
       ·
        refine w_passH hops rfl rfl (by decide) (by dsimp only [aput, List.set]) ?_
        have hn := n11
        rw [hS0] at hn
        exact hn
      have n6 : aany (ITP Tryd.prog) Tryd.prog none ops FIN 8 ⟨[false, true, true, true, false, false, false, false, false, false, false]⟩ (setAll S0 [(50, .raw (.int .i64 x2.2.2)), (51, .raw (.bool (x2.2.2 == 0))), (52, .raw (.bool false))]) ⟨[(43, (Enc.cells ((En.mk 0 0 0 []) : En))), (43, (Enc.cells ((En.mk j1.k j1.fr j1.to x2.1) : En)))], [], [], 0, false⟩ := by
       rw [hS0]
       dsimp only [setAll, List.foldl, List.set]
       refine aany_n hops [0, 4, 6] (by kernel_rfl) (by decide) (all_cons (aopAt_s hops rfl ?_) (all_cons (aopAt_s hops rfl ?_) (all_cons (aopAt_s hops rfl ?_) all_nil)))
       ·
        refine w_op (a := .agg (Enc.cells ((En.mk j1.k j1.fr j1.to x2.1) : En))) rfl rfl rfl rfl (by dsimp only [aput, List.set]) ?_
        have hn := n7
        rw [hS0] at hn
        exact hn
       ·
        refine w_passH hops rfl rfl (by decide) (by dsimp only [aput, List.set]) ?_
        have hn := n8
        rw [hS0] at hn
        exact hn
       ·
        refine w_passH hops rfl rfl (by decide) (by dsimp only [aput, List.set]) ?_
        have hn := n9
        rw [hS0] at hn
        exact hn
      have n5 : aany (ITP Tryd.prog) Tryd.prog none ops FIN 8 ⟨[true, true, true, false, false, false, false, false, false, false, false]⟩ (setAll S0 [(49, .agg (Enc.cells ((En.mk j1.k j1.fr j1.to x2.1) : En))), (50, .raw (.int .i64 x2.2.2)), (51, .raw (.bool (x2.2.2 == 0)))]) ⟨[(43, (Enc.cells ((En.mk 0 0 0 []) : En))), (43, (Enc.cells ((En.mk j1.k j1.fr j1.to x2.1) : En)))], [], [], 0, false⟩ := by
       rw [hS0]
       dsimp only [setAll, List.foldl, List.set]
       refine aany_n hops [3] (by kernel_rfl) (by decide) (all_cons (aopAt_s hops rfl ?_) all_nil)
       ·
        refine w_op (a := .raw (.bool false)) rfl rfl rfl (op_q (q_bool rfl hc5)) (by dsimp only [aput, List.set]) ?_
        have hn := n7
        rw [hS0] at hn
        exact hn
      have n4 : aany (ITP Tryd.prog) Tryd.prog none ops FIN 9 ⟨[false, true, true, false, false, false, false, false, false, false, false]⟩ (setAll S0 [(50, .raw (.int .i64 x2.2.2)), (51, .raw (.bool (x2.2.2 == 0)))]) ⟨[(43, (Enc.cells ((En.mk 0 0 0 []) : En))), (43, (Enc.cells ((En.mk j1.k j1.fr j1.to x2.1) : En)))], [], [], 0, false⟩ := by
       rw [hS0]
       dsimp only [setAll, List.foldl, List.set]
       refine aany_n hops [0, 3] (by kernel_rfl) (by decide) (all_cons (aopAt_s hops rfl ?_) (all_cons (aopAt_s hops rfl ?_) all_nil))
       ·
        refine w_op (a := .agg (Enc.cells ((En.mk j1.k j1.fr j1.to x2.1) : En))) rfl rfl rfl rfl (by dsimp only [aput, List.set]) ?_
        have hn := n5
        rw [hS0] at hn
        exact hn
       ·
        refine w_op (a := .raw (.bool false)) rfl rfl rfl (op_q (q_bool rfl hc5)) (by dsimp only [aput, List.set]) ?_
        have hn := n6
        rw [hS0] at hn
        exact hn
      have n3 : aany (ITP Tryd.prog) Tryd.prog none ops FIN 9 ⟨[true, true, false, false, false, false, false, false, false, false, false]⟩ (setAll S0 [(49, .agg (Enc.cells ((En.mk j1.k j1.fr j1.to x2.1) : En))), (50, .raw (.int .i64 x2.2.2))]) ⟨[(43, (Enc.cells ((En.mk 0 0 0 []) : En))), (43, (Enc.cells ((En.mk j1.k j1.fr j1.to x2.1) : En)))], [], [], 0, false⟩ := by
       rw [hS0]
       dsimp only [setAll, List.foldl, List.set]
       refine aany_n hops [2] (by kernel_rfl) (by decide) (all_cons (aopAt_s hops rfl ?_) all_nil)
       ·
        refine w_op (a := .raw (.bool (x2.2.2 == 0))) rfl rfl rfl rfl (by dsimp only [aput, List.set]) ?_
        have hn := n5
        rw [hS0] at hn
        exact hn
      have n2 : aany (ITP Tryd.prog) Tryd.prog none ops FIN 10 ⟨[false, true, false, false, false, false, false, false, false, false, false]⟩ (setAll S0 [(50, .raw (.int .i64 x2.2.2))]) ⟨[(43, (Enc.cells ((En.mk 0 0 0 []) : En))), (43, (Enc.cells ((En.mk j1.k j1.fr j1.to x2.1) : En)))], [], [], 0, false⟩ := by
       rw [hS0]
       dsimp only [setAll, List.foldl, List.set]
       refine aany_n hops [0, 2] (by kernel_rfl) (by decide) (all_cons (aopAt_s hops rfl ?_) (all_cons (aopAt_s hops rfl ?_) all_nil))
       ·
        refine w_op (a := .agg (Enc.cells ((En.mk j1.k j1.fr j1.to x2.1) : En))) rfl rfl rfl rfl (by dsimp only [aput, List.set]) ?_
        have hn := n3
        rw [hS0] at hn
        exact hn
       ·
        refine w_op (a := .raw (.bool (x2.2.2 == 0))) rfl rfl rfl rfl (by dsimp only [aput, List.set]) ?_
        have hn := n4
        rw [hS0] at hn
        exact hn
      have n1 : aany (ITP Tryd.prog) Tryd.prog none ops FIN 10 ⟨[true, false, false, false, false, false, false, false, false, false, false]⟩ (setAll S0 [(49, .agg (Enc.cells ((En.mk j1.k j1.fr j1.to x2.1) : En)))]) ⟨[(43, (Enc.cells ((En.mk 0 0 0 []) : En))), (43, (Enc.cells ((En.mk j1.k j1.fr j1.to x2.1) : En)))], [], [], 0, false⟩ := by
       rw [hS0]
       dsimp only [setAll, List.foldl, List.set]
       refine aany_n hops [1] (by kernel_rfl) (by decide) (all_cons (aopAt_s hops rfl ?_) all_nil)
       ·
        refine w_op (a := .raw (.int .i64 x2.2.2)) rfl rfl rfl rfl (by dsimp only [aput, List.set]) ?_
        have hn := n3
        rw [hS0] at hn
        exact hn
      have n0 : aany (ITP Tryd.prog) Tryd.prog none ops FIN 11 ⟨[false, false, false, false, false, false, false, false, false, false, false]⟩ (setAll S0 []) ⟨[(43, (Enc.cells ((En.mk 0 0 0 []) : En))), (43, (Enc.cells ((En.mk j1.k j1.fr j1.to x2.1) : En)))], [], [], 0, false⟩ := by
       rw [hS0]
       dsimp only [setAll, List.foldl, List.set]
       refine aany_n hops [0, 1] (by kernel_rfl) (by decide) (all_cons (aopAt_s hops rfl ?_) (all_cons (aopAt_s hops rfl ?_) all_nil))
       ·
        refine w_op (a := .agg (Enc.cells ((En.mk j1.k j1.fr j1.to x2.1) : En))) rfl rfl rfl rfl (by dsimp only [aput, List.set]) ?_
        have hn := n1
        rw [hS0] at hn
        exact hn
       ·
        refine w_op (a := .raw (.int .i64 x2.2.2)) rfl rfl rfl rfl (by dsimp only [aput, List.set]) ?_
        have hn := n2
        rw [hS0] at hn
        exact hn
      exact n0
     ·
      exact end_pureF (fun (r : (En × Bool)) => (.tup [.agg (Enc.cells (r.1 : En)), .raw (.bool r.2)] : AV)) h (a := .tup [.agg (Enc.cells ((En.mk j1.k j1.fr j1.to x2.1) : En)), .raw (.bool false)]) rfl (show okTrimL _ _ = true from (okTrimL_cons (okTrim_clo _ _ (clo_agg (Enc.clo _))) (okTrimL_cons rfl rfl))) (show AV.tup (stripL _) = _ from congrArg AV.tup (stripL_cons (strip_c (clo_agg (Enc.clo _))) (stripL_cons rfl rfl)))
   ·
    refine w_condF hc4 rfl ?_
    refine w_seq (w_region ?_)
    refine w_op (a := .raw (.string (bs x1.2.1))) rfl rfl rfl rfl (by dsimp only [aput, List.set]) ?_
    obtain ⟨g3, h⟩ := chk_e h
    obtain ⟨x4, hx4, h⟩ := letE_e h
    refine w_callc (args' := [.raw (.string (bs x1.2.1)), .raw (.string (bs ([32] : List UInt8)))]) (r := .tup [.raw (.string (bs x4.1)), .raw (.string (bs x4.2.1)), .raw (.bool x4.2.2)]) (by rw [← hx4]; exact (cut_pure x1.2.1 ([32] : List UInt8) g3)) rfl rfl (stripL_cons rfl (stripL_cons rfl rfl)) (okTrimL_cons rfl (okTrimL_cons rfl rfl)) (by dsimp only [aput, List.set]) ?_
    refine w_op (a := .tup [.raw (.string (bs x4.1)), .raw (.string (bs x4.2.1)), .raw (.bool x4.2.2)]) rfl rfl rfl rfl (by dsimp only [aput, List.set]) ?_
    refine w_op (a := .raw (.string (bs x4.1))) rfl rfl rfl rfl (by dsimp only [aput, List.set]) ?_
    refine w_op (a := .raw (.string (bs x4.2.1))) rfl rfl rfl rfl (by dsimp only [aput, List.set]) ?_
    refine w_op (a := .raw (.bool x4.2.2)) rfl rfl rfl rfl (by dsimp only [aput, List.set]) ?_
    refine w_op (a := .raw (.string (bs x4.1))) rfl rfl rfl rfl (by dsimp only [aput, List.set]) ?_
    refine w_op (a := .raw (.string (bs x4.2.1))) rfl rfl rfl rfl (by dsimp only [aput, List.set]) ?_
    refine w_op (a := .raw (.bool x4.2.2)) rfl rfl rfl rfl (by dsimp only [aput, List.set]) ?_
    refine w_seq (w_region ?_)
    refine w_op (a := .raw (.string (bs x4.1))) rfl rfl rfl rfl (by dsimp only [aput, List.set]) ?_
    obtain ⟨g4, h⟩ := chk_e h
    obtain ⟨x5, hx5, h⟩ := letE_e h
    refine w_callc (args' := [.raw (.string (bs x4.1))]) (r := .tup [.raw (.int .i64 x5), .top]) (by rw [← hx5]; exact (atoi_pure x4.1 g4)) rfl rfl (stripL_cons rfl rfl) (okTrimL_cons rfl rfl) (by dsimp only [aput, List.set]) ?_
    refine w_op (a := .tup [.raw (.int .i64 x5), .top]) rfl rfl rfl rfl (by dsimp only [aput, List.set]) ?_
    refine w_op (a := .raw (.int .i64 x5)) rfl rfl rfl rfl (by dsimp only [aput, List.set]) ?_
    refine w_op (a := .top) rfl rfl rfl rfl (by dsimp only [aput, List.set]) ?_
    refine w_op (a := .ptr 1 1) rfl rfl rfl rfl (by dsimp only [aput, List.set]) ?_
    refine w_opm (σ'' := ⟨[(43, (Enc.cells ((En.mk 0 0 0 []) : En))), (43, (Enc.cells ((En.mk j1.k x5 j1.to j1.b) : En)))], [], [], 0, false⟩) rfl rfl rfl (op_store (n := 1) rfl rfl rfl rfl rfl ⟨rfl, rfl, Nat.le_of_ble_eq_true rfl, by decide⟩) (by dsimp only [aput, List.set]) rfl ?_
    refine w_seq (w_region ?_)
    refine w_op (a := .raw (.string (bs x4.2.1))) rfl rfl rfl rfl (by dsimp only [aput, List.set]) ?_
    obtain ⟨g5, h⟩ := chk_e h
    obtain ⟨x6, hx6, h⟩ := letE_e h
    refine w_callc (args' := [.raw (.string (bs x4.2.1))]) (r := .tup [.raw (.int .i64 x6), .top]) (by rw [← hx6]; exact (atoi_pure x4.2.1 g5)) rfl rfl (stripL_cons rfl rfl) (okTrimL_cons rfl rfl) (by dsimp only [aput, List.set]) ?_
    refine w_op (a := .tup [.raw (.int .i64 x6), .top]) rfl rfl rfl rfl (by dsimp only [aput, List.set]) ?_
    refine w_op (a := .raw (.int .i64 x6)) rfl rfl rfl rfl (by dsimp only [aput, List.set]) ?_
    refine w_op (a := .top) rfl rfl rfl rfl (by dsimp only [aput, List.set]) ?_
    refine w_op (a := .ptr 1 2) rfl rfl rfl rfl (by dsimp only [aput, List.set]) ?_
    refine w_opm (σ'' := ⟨[(43, (Enc.cells ((En.mk 0 0 0 []) : En))), (43, (Enc.cells ((En.mk ((En.mk j1.k x5 j1.to j1.b).k) ((En.mk j1.k x5 j1.to j1.b).fr) x6 ((En.mk j1.k x5 j1.to j1.b).b)) : En)))], [], [], 0, false⟩) rfl rfl rfl (op_store (n := 1) rfl rfl rfl rfl rfl ⟨rfl, rfl, Nat.le_of_ble_eq_true rfl, by decide⟩) (by dsimp only [aput, List.set]) rfl ?_
    obtain ⟨x7, hx7, h⟩ := bindE_e h
    refine w_seqAny (id := 17) [.raw (.string (bs t)), .top, .ptr 0 0, .raw (.bool (x7 == t)), .top, .raw (.string (bs x1.2.1)), .top, .ptr 1 0, .top, .top, .top, .top, .raw (.string (bs x4.1)), .raw (.string (bs x4.2.1)), .raw (.bool x4.2.2), .top, .top, .top, .top, .top, .top, .top, .top, .top, .top, .top, .top, .top, .top, .top, .top, .top, .top, .top, .ptr 1 0, .raw (.int .u8 j1.k), .raw (.bool (j1.k == 0)), .top, .ptr 1 0, .raw (.int .u8 j1.k), .raw (.bool (j1.k == 1)), .top, .top, .top, .top, .top, .top, .top, .top, .top, .top, .top, .top, .top, .top, .top, .top, .top, .tup [.raw (.string (bs x4.1)), .raw (.string (bs x4.2.1)), .raw (.bool x4.2.2)], .raw (.string (bs x1.2.1)), .tup [.raw (.string (bs x4.1)), .raw (.string (bs x4.2.1)), .raw (.bool x4.2.2)], .raw (.string (bs x4.1)), .raw (.string (bs x4.2.1)), .raw (.bool x4.2.2), .tup [.raw (.int .i64 x5), .top], .raw (.string (bs x4.1)), .tup [.raw (.int .i64 x5), .top], .raw (.int .i64 x5), .top, .ptr 1 1, .tup [.raw (.int .i64 x6), .top], .raw (.string (bs x4.2.1)), .tup [.raw (.int .i64 x6), .top], .raw (.int .i64 x6), .top, .ptr 1 2, .agg (Enc.cells ((En.mk ((En.mk j1.k x5 j1.to j1.b).k) ((En.mk j1.k x5 j1.to j1.b).fr) x6 ((En.mk j1.k x5 j1.to j1.b).b)) : En)), .agg (Enc.cells ((En.mk ((En.mk j1.k x5 j1.to j1.b).k) ((En.mk j1.k x5 j1.to j1.b).fr) x6 ((En.mk j1.k x5 j1.to j1.b).b)) : En)), .raw (.string (bs x7)), .raw (.string (bs t)), .raw (.bool (x7 == t))] ⟨[(43, (Enc.cells ((En.mk ((En.mk j1.k x5 j1.to j1.b).k) ((En.mk j1.k x5 j1.to j1.b).fr) x6 ((En.mk j1.k x5 j1.to j1.b).b)) : En))), (43, (Enc.cells ((En.mk ((En.mk j1.k x5 j1.to j1.b).k) ((En.mk j1.k x5 j1.to j1.b).fr) x6 ((En.mk j1.k x5 j1.to j1.b).b)) : En)))], [], [], 0, false⟩ ?_ ?_
    ·
     refine aany_intro (fun ops hops FIN hFIN S0 hS0 => ?_)
     have n17 : aany (ITP Tryd.prog) Tryd.prog none ops FIN 0 ⟨[true, true, true, true, true, true, true]⟩ (setAll S0 [(76, .agg (Enc.cells ((En.mk ((En.mk j1.k x5 j1.to j1.b).k) ((En.mk j1.k x5 j1.to j1.b).fr) x6 ((En.mk j1.k x5 j1.to j1.b).b)) : En))), (77, .agg (Enc.cells ((En.mk ((En.mk j1.k x5 j1.to j1.b).k) ((En.mk j1.k x5 j1.to j1.b).fr) x6 ((En.mk j1.k x5 j1.to j1.b).b)) : En))), (78, .raw (.string (bs x7))), (79, .raw (.string (bs t))), (80, .raw (.bool (x7 == t))), (3, .raw (.bool (x7 == t)))]) ⟨[(43, (Enc.cells ((En.mk ((En.mk j1.k x5 j1.to j1.b).k) ((En.mk j1.k x5 j1.to j1.b).fr) x6 ((En.mk j1.k x5 j1.to j1.b).b)) : En))), (43, (Enc.cells ((En.mk ((En.mk j1.k x5 j1.to j1.b).k) ((En.mk j1.k x5 j1.to j1.b).fr) x6 ((En.mk j1.k x5 j1.to j1.b).b)) : En)))], [], [], 0, false⟩ := by
      rw [hS0]
      dsimp only [setAll, List.foldl, List.set]
      exact aany_0 hops (by kernel_rfl) (hFIN _ _ (Wk.refl _ _ _))
     have n16 : aany (ITP Tryd.prog) Tryd.prog none ops FIN 1 ⟨[true, true, true, true, true, true, false]⟩ (setAll S0 [(76, .agg (Enc.cells ((En.mk ((En.mk j1.k x5 j1.to j1.b).k) ((En.mk j1.k x5 j1.to j1.b).fr) x6 ((En.mk j1.k x5 j1.to j1.b).b)) : En))), (77, .agg (Enc.cells ((En.mk ((En.mk j1.k x5 j1.to j1.b).k) ((En.mk j1.k x5 j1.to j1.b).fr) x6 ((En.mk j1.k x5 j1.to j1.b).b)) : En))), (78, .raw (.string (bs x7))), (79, .raw (.string (bs t))), (80, .raw (.bool (x7 == t)))]) ⟨[(43, (Enc.cells ((En.mk ((En.mk j1.k x5 j1.to j1.b).k) ((En.mk j1.k x5 j1.to j1.b).fr) x6 ((En.mk j1.k x5 j1.to j1.b).b)) : En))), (43, (Enc.cells ((En.mk ((En.mk j1.k x5 j1.to j1.b).k) ((En.mk j1.k x5 j1.to j1.b).fr) x6 ((En.mk j1.k x5 j1.to j1.b).b)) : En)))], [], [], 0, false⟩ := by
      rw [hS0]
      dsimp only [setAll, List.foldl, List.set]
      refine aany_n hops [6] (by kernel_rfl) (by decide) (all_cons (aopAt_s hops rfl ?_) all_nil)
      ·
       refine w_op (a := .raw (.bool (x7 == t))) rfl rfl rfl rfl (by dsimp only [aput, List.set]) ?_
       have hn := n17
       rw [hS0] at hn
       exact hn
     have n15 : aany (ITP Tryd.prog) Tryd.prog none ops FIN 2 ⟨[true, true, true, true, false, true, false]⟩ (setAll S0 [(76, .agg (Enc.cells ((En.mk ((En.mk j1.k x5 j1.to j1.b).k) ((En.mk j1.k x5 j1.to j1.b).fr) x6 ((En.mk j1.k x5 j1.to j1.b).b)) : En))), (77, .agg (Enc.cells ((En.mk ((En.mk j1.k x5 j1.to j1.b).k) ((En.mk j1.k x5 j1.to j1.b).fr) x6 ((En.mk j1.k x5 j1.to j1.b).b)) : En))), (78, .raw (.string (bs x7))), (79, .raw (.string (bs t)))]) ⟨[(43, (Enc.cells ((En.mk ((En.mk j1.k x5 j1.to j1.b).k) ((En.mk j1.k x5 j1.to j1.b).fr) x6 ((En.mk j1.k x5 j1.to j1.b).b)) : En))), (43, (Enc.cells ((En.mk ((En.mk j1.k x5 j1.to j1.b).k) ((En.mk j1.k x5 j1.to j1.b).fr) x6 ((En.mk j1.k x5 j1.to j1.b).b)) : En)))], [], [], 0, false⟩ := by
      rw [hS0]
      dsimp only [setAll, List.foldl, List.set]
      refine aany_n hops [4] (by kernel_rfl) (by decide) (all_cons (aopAt_s hops rfl ?_) all_nil)
      ·
       refine w_op (a := .raw (.bool (x7 == t))) rfl rfl rfl (op_q (q_streq rfl rfl rfl)) (by dsimp only [aput, List.set]) ?_
       have hn := n16
       rw [hS0] at hn
       exact hn
     have n14 : aany (ITP Tryd.prog) Tryd.prog none ops FIN 2 ⟨[true, true, true, true, true, false, false]⟩ (setAll S0 [(76, .agg (Enc.cells ((En.mk ((En.mk j1.k x5 j1.to j1.b).k) ((En.mk j1.k x5 j1.to j1.b).fr) x6 ((En.mk j1.k x5 j1.to j1.b).b)) : En))), (77, .agg (Enc.cells ((En.mk ((En.mk j1.k x5 j1.to j1.b).k) ((En.mk j1.k x5 j1.to j1.b).fr) x6 ((En.mk j1.k x5 j1.to j1.b).b)) : En))), (78, .raw (.string (bs x7))), (79, .raw (.string (bs t))), (80, .raw (.bool (x7 == t)))]) ⟨[(43, (Enc.cells ((En.mk 0 0 0 []) : En))), (43, (Enc.cells ((En.mk ((En.mk j1.k x5 j1.to j1.b).k) ((En.mk j1.k x5 j1.to j1.b).fr) x6 ((En.mk j1.k x5 j1.to j1.b).b)) : En)))], [], [], 0, false⟩ := by
      rw [hS0]
      dsimp only [setAll, List.foldl, List.set]
      refine aany_n hops [5] (by kernel_rfl) (by decide) (all_cons (aopAt_s hops rfl ?_) all_nil)
      ·
       refine w_opm (σ'' := ⟨[(43, (Enc.cells ((En.mk ((En.mk j1.k x5 j1.to j1.b).k) ((En.mk j1.k x5 j1.to j1.b).fr) x6 ((En.mk j1.k x5 j1.to j1.b).b)) : En))), (43, (Enc.cells ((En.mk ((En.mk j1.k x5 j1.to j1.b).k) ((En.mk j1.k x5 j1.to j1.b).fr) x6 ((En.mk j1.k x5 j1.to j1.b).b)) : En)))], [], [], 0, false⟩) rfl rfl rfl (op_storeW (n := 4) rfl rfl rfl rfl rfl rfl rfl rfl (by decide)) (by dsimp only [aput, List.set]) rfl ?_
       have hn := n16
       rw [hS0] at hn
       exact hn
     have n13 : aany (ITP Tryd.prog) Tryd.prog none ops FIN 3 ⟨[false, true, true, true, true, false, false]⟩ (setAll S0 [(77, .agg (Enc.cells ((En.mk ((En.mk j1.k x5 j1.to j1.b).k) ((En.mk j1.k x5 j1.to j1.b).fr) x6 ((En.mk j1.k x5 j1.to j1.b).b)) : En))), (78, .raw (.string (bs x7))), (79, .raw (.string (bs t))), (80, .raw (.bool (x7 == t)))]) ⟨[(43, (Enc.cells ((En.mk 0 0 0 []) : En))), (43, (Enc.cells ((En.mk ((En.mk j1.k x5 j1.to j1.b).k) ((En.mk j1.k x5 j1.to j1.b).fr) x6 ((En.mk j1.k x5 j1.to j1.b).b)) : En)))], [], [], 0, false⟩ := by
      rw [hS0]
      dsimp only [setAll, List.foldl, List.set]
      refine aany_n hops [0] (by kernel_rfl) (by decide) (all_cons (aopAt_s hops rfl ?_) all_nil)
      ·
       refine w_op (a := .agg (Enc.cells ((En.mk ((En.mk j1.k x5 j1.to j1.b).k) ((En.mk j1.k x5 j1.to j1.b).fr) x6 ((En.mk j1.k x5 j1.to j1.b).b)) : En))) rfl rfl rfl rfl (by dsimp only [aput, List.set]) ?_
       have hn := n14
       rw [hS0] at hn
       exact hn
     have n12 : aany (ITP Tryd.prog) Tryd.prog none ops FIN 3 ⟨[true, true, true, false, false, true, false]⟩ (setAll S0 [(76, .agg (Enc.cells ((En.mk ((En.mk j1.k x5 j1.to j1.b).k) ((En.mk j1.k x5 j1.to j1.b).fr) x6 ((En.mk j1.k x5 j1.to j1.b).b)) : En))), (77, .agg (Enc.cells ((En.mk ((En.mk j1.k x5 j1.to j1.b).k) ((En.mk j1.k x5 j1.to j1.b).fr) x6 ((En.mk j1.k x5 j1.to j1.b).b)) : En))), (78, .raw (.string (bs x7)))]) ⟨[(43, (Enc.cells ((En.mk ((En.mk j1.k x5 j1.to j1.b).k) ((En.mk j1.k x5 j1.to j1.b).fr) x6 ((En.mk j1.k x5 j1.to j1.b).b)) : En))), (43, (Enc.cells ((En.mk ((En.mk j1.k x5 j1.to j1.b).k) ((En.mk j1.k x5 j1.to j1.b).fr) x6 ((En.mk j1.k x5 j1.to j1.b).b)) : En)))], [], [], 0, false⟩ := by
      rw [hS0]
      dsimp only [setAll, List.foldl, List.set]
      refine aany_n hops [3] (by kernel_rfl) (by decide) (all_cons (aopAt_s hops rfl ?_) all_nil)
      ·
       refine w_op (a := .raw (.string (bs t))) rfl rfl rfl rfl (by dsimp only [aput, List.set]) ?_
       have hn := n15
       rw [hS0] at hn
       exact hn
     have n11 : aany (ITP Tryd.prog) Tryd.prog none ops FIN 3 ⟨[true, true, true, true, false, false, false]⟩ (setAll S0 [(76, .agg (Enc.cells ((En.mk ((En.mk j1.k x5 j1.to j1.b).k) ((En.mk j1.k x5 j1.to j1.b).fr) x6 ((En.mk j1.k x5 j1.to j1.b).b)) : En))), (77, .agg (Enc.cells ((En.mk ((En.mk j1.k x5 j1.to j1.b).k) ((En.mk j1.k x5 j1.to j1.b).fr) x6 ((En.mk j1.k x5 j1.to j1.b).b)) : En))), (78, .raw (.string (bs x7))), (79, .raw (.string (bs t)))]) ⟨[(43, (Enc.cells ((En.mk 0 0 0 []) : En))), (43, (Enc.cells ((En.mk ((En.mk j1.k x5 j1.to j1.b).k) ((En.mk j1.k x5 j1.to j1.b).fr) x6 ((En.mk j1.k x5 j1.to j1.b).b)) : En)))], [], [], 0, false⟩ := by
      rw [hS0]
      dsimp only [setAll, List.foldl, List.set]
      refine aany_n hops [4, 5] (by kernel_rfl) (by decide) (all_cons (aopAt_s hops rfl ?_) (all_cons (aopAt_s hops rfl ?_) all_nil))
      ·
       refine w_op (a := .raw (.bool (x7 == t))) rfl rfl rfl (op_q (q_streq rfl rfl rfl)) (by dsimp only [aput, List.set]) ?_
       have hn := n14
       rw [hS0] at hn
       exact hn
      ·
       refine w_opm (σ'' := ⟨[(43, (Enc.cells ((En.mk ((En.mk j1.k x5 j1.to j1.b).k) ((En.mk j1.k x5 j1.to j1.b).fr) x6 ((En.mk j1.k x5 j1.to j1.b).b)) : En))), (43, (Enc.cells ((En.mk ((En.mk j1.k x5 j1.to j1.b).k) ((En.mk j1.k x5 j1.to j1.b).fr) x6 ((En.mk j1.k x5 j1.to j1.b).b)) : En)))], [], [], 0, false⟩) rfl rfl rfl (op_storeW (n := 4) rfl rfl rfl rfl rfl rfl rfl rfl (by decide)) (by dsimp only [aput, List.set]) rfl ?_
       have hn := n15
       rw [hS0] at hn
       exact hn
     have n10 : aany (ITP Tryd.prog) Tryd.prog none ops FIN 4 ⟨[false, true, true, true, false, false, false]⟩ (setAll S0 [(77, .agg (Enc.cells ((En.mk ((En.mk j1.k x5 j1.to j1.b).k) ((En.mk j1.k x5 j1.to j1.b).fr) x6 ((En.mk j1.k x5 j1.to j1.b).b)) : En))), (78, .raw (.string (bs x7))), (79, .raw (.string (bs t)))]) ⟨[(43, (Enc.cells ((En.mk 0 0 0 []) : En))), (43, (Enc.cells ((En.mk ((En.mk j1.k x5 j1.to j1.b).k) ((En.mk j1.k x5 j1.to j1.b).fr) x6 ((En.mk j1.k x5 j1.to j1.b).b)) : En)))], [], [], 0, false⟩ := by
      rw [hS0]
      dsimp only [setAll, List.foldl, List.set]
      refine aany_n hops [0, 4] (by kernel_rfl) (by decide) (all_cons (aopAt_s hops rfl ?_) (all_cons (aopAt_s hops rfl ?_) all_nil))
      ·
       refine w_op (a := .agg (Enc.cells ((En.mk ((En.mk j1.k x5 j1.to j1.b).k) ((En.mk j1.k x5 j1.to j1.b).fr) x6 ((En.mk j1.k x5 j1.to j1.b).b)) : En))) rfl rfl rfl rfl (by dsimp only [aput, List.set]) ?_
       have hn := n11
       rw [hS0] at hn
       exact hn
      ·
       refine w_op (a := .raw (.bool (x7 == t))) rfl rfl rfl (op_q (q_streq rfl rfl rfl)) (by dsimp only [aput, List.set]) ?_
       have hn := n13
       rw [hS0] at hn
       exact hn
     have n9 : aany (ITP Tryd.prog) Tryd.prog none ops FIN 4 ⟨[true, true, false, true, false, false, false]⟩ (setAll S0 [(76, .agg (Enc.cells ((En.mk ((En.mk j1.k x5 j1.to j1.b).k) ((En.mk j1.k x5 j1.to j1.b).fr) x6 ((En.mk j1.k x5 j1.to j1.b).b)) : En))), (77, .agg (Enc.cells ((En.mk ((En.mk j1.k x5 j1.to j1.b).k) ((En.mk j1.k x5 j1.to j1.b).fr) x6 ((En.mk j1.k x5 j1.to j1.b).b)) : En))), (79, .raw (.string (bs t)))]) ⟨[(43, (Enc.cells ((En.mk 0 0 0 []) : En))), (43, (Enc.cells ((En.mk ((En.mk j1.k x5 j1.to j1.b).k) ((En.mk j1.k x5 j1.to j1.b).fr) x6 ((En.mk j1.k x5 j1.to j1.b).b)) : En)))], [], [], 0, false⟩ := by
      rw [hS0]
      dsimp only [setAll, List.foldl, List.set]
      refine aany_n hops [2] (by kernel_rfl) (by decide) (all_cons (aopAt_s hops rfl ?_) all_nil)
      ·
       refine w_callc (args' := [.agg (Enc.cells ((En.mk ((En.mk j1.k x5 j1.to j1.b).k) ((En.mk j1.k x5 j1.to j1.b).fr) x6 ((En.mk j1.k x5 j1.to j1.b).b)) : En))]) (r := .raw (.string (bs x7))) (line_sh fuel (En.mk ((En.mk j1.k x5 j1.to j1.b).k) ((En.mk j1.k x5 j1.to j1.b).fr) x6 ((En.mk j1.k x5 j1.to j1.b).b)) x7 hx7) rfl rfl (stripL_cons (strip_c (clo_agg (Enc.clo _))) rfl) (okTrimL_cons (okTrim_clo _ _ (clo_agg (Enc.clo _))) rfl) (by dsimp only [aput, List.set]) ?_
       have hn := n11
       rw [hS0] at hn
       exact hn
     have n8 : aany (ITP Tryd.prog) Tryd.prog none ops FIN 4 ⟨[true, true, true, false, false, false, false]⟩ (setAll S0 [(76, .agg (Enc.cells ((En.mk ((En.mk j1.k x5 j1.to j1.b).k) ((En.mk j1.k x5 j1.to j1.b).fr) x6 ((En.mk j1.k x5 j1.to j1.b).b)) : En))), (77, .agg (Enc.cells ((En.mk ((En.mk j1.k x5 j1.to j1.b).k) ((En.mk j1.k x5 j1.to j1.b).fr) x6 ((En.mk j1.k x5 j1.to j1.b).b)) : En))), (78, .raw (.string (bs x7)))]) ⟨[(43, (Enc.cells ((En.mk 0 0 0 []) : En))), (43, (Enc.cells ((En.mk ((En.mk j1.k x5 j1.to j1.b).k) ((En.mk j1.k x5 j1.to j1.b).fr) x6 ((En.mk j1.k x5 j1.to j1.b).b)) : En)))], [], [], 0, false⟩ := by
      rw [hS0]
      dsimp only [setAll, List.foldl, List.set]
      refine aany_n hops [3, 5] (by kernel_rfl) (by decide) (all_cons (aopAt_s hops rfl ?_) (all_cons (aopAt_s hops rfl ?_) all_nil))
      ·
       refine w_op (a := .raw (.string (bs t))) rfl rfl rfl rfl (by dsimp only [aput, List.set]) ?_
       have hn := n11
       rw [hS0] at hn
       exact hn
      ·
       refine w_opm (σ'' := ⟨[(43, (Enc.cells ((En.mk ((En.mk j1.k x5 j1.to j1.b).k) ((En.mk j1.k x5 j1.to j1.b).fr) x6 ((En.mk j1.k x5 j1.to j1.b).b)) : En))), (43, (Enc.cells ((En.mk ((En.mk j1.k x5 j1.to j1.b).k) ((En.mk j1.k x5 j1.to j1.b).fr) x6 ((En.mk j1.k x5 j1.to j1.b).b)) : En)))], [], [], 0, false⟩) rfl rfl rfl (op_storeW (n := 4) rfl rfl rfl rfl rfl rfl rfl rfl (by decide)) (by dsimp only [aput, List.set]) rfl ?_
       have hn := n12
       rw [hS0] at hn
       exact hn
     have n7 : aany (ITP Tryd.prog) Tryd.prog none ops FIN 5 ⟨[false, true, false, true, false, false, false]⟩ (setAll S0 [(77, .agg (Enc.cells ((En.mk ((En.mk j1.k x5 j1.to j1.b).k) ((En.mk j1.k x5 j1.to j1.b).fr) x6 ((En.mk j1.k x5 j1.to j1.b).b)) : En))), (79, .raw (.string (bs t)))]) ⟨[(43, (Enc.cells ((En.mk 0 0 0 []) : En))), (43, (Enc.cells ((En.mk ((En.mk j1.k x5 j1.to j1.b).k) ((En.mk j1.k x5 j1.to j1.b).fr) x6 ((En.mk j1.k x5 j1.to j1.b).b)) : En)))], [], [], 0, false⟩ := by
      rw [hS0]
      dsimp only [setAll, List.foldl, List.set]
      refine aany_n hops [0, 2] (by kernel_rfl) (by decide) (all_cons (aopAt_s hops rfl ?_) (all_cons (aopAt_s hops rfl ?_) all_nil))
      ·
       refine w_op (a := .agg (Enc.cells ((En.mk ((En.mk j1.k x5 j1.to j1.b).k) ((En.mk j1.k x5 j1.to j1.b).fr) x6 ((En.mk j1.k x5 j1.to j1.b).b)) : En))) rfl rfl rfl rfl (by dsimp only [aput, List.set]) ?_
       have hn := n9
       rw [hS0] at hn
       exact hn
      ·
       refine w_callc (args' := [.agg (Enc.cells ((En.mk ((En.mk j1.k x5 j1.to j1.b).k) ((En.mk j1.k x5 j1.to j1.b).fr) x6 ((En.mk j1.k x5 j1.to j1.b).b)) : En))]) (r := .raw (.string (bs x7))) (line_sh fuel (En.mk ((En.mk j1.k x5 j1.to j1.b).k) ((En.mk j1.k x5 j1.to j1.b).fr) x6 ((En.mk j1.k x5 j1.to j1.b).b)) x7 hx7) rfl rfl (stripL_cons (strip_c (clo_agg (Enc.clo _))) rfl) (okTrimL_cons (okTrim_clo _ _ (clo_agg (Enc.clo _))) rfl) (by dsimp only [aput, List.set]) ?_
       have hn := n10
       rw [hS0] at hn
       exact hn
     have n6 : aany (ITP Tryd.prog) Tryd.prog none ops FIN 5 ⟨[false, true, true, false, false, false, false]⟩ (setAll S0 [(77, .agg (Enc.cells ((En.mk ((En.mk j1.k x5 j1.to j1.b).k) ((En.mk j1.k x5 j1.to j1.b).fr) x6 ((En.mk j1.k x5 j1.to j1.b).b)) : En))), (78, .raw (.string (bs x7)))]) ⟨[(43, (Enc.cells ((En.mk 0 0 0 []) : En))), (43, (Enc.cells ((En.mk ((En.mk j1.k x5 j1.to j1.b).k) ((En.mk j1.k x5 j1.to j1.b).fr) x6 ((En.mk j1.k x5 j1.to j1.b).b)) : En)))], [], [], 0, false⟩ := by
      rw [hS0]
      dsimp only [setAll, List.foldl, List.set]
      refine aany_n hops [0, 3] (by kernel_rfl) (by decide) (all_cons (aopAt_s hops rfl ?_) (all_cons (aopAt_s hops rfl ?_) all_nil))
      ·
       refine w_op (a := .agg (Enc.cells ((En.mk ((En.mk j1.k x5 j1.to j1.b).k) ((En.mk j1.k x5 j1.to j1.b).fr) x6 ((En.mk j1.k x5 j1.to j1.b).b)) : En))) rfl rfl rfl rfl (by dsimp only [aput, List.set]) ?_
       have hn := n8
       rw [hS0] at hn
       exact hn
      ·
       refine w_op (a := .raw (.string (bs t))) rfl rfl rfl rfl (by dsimp only [aput, List.set]) ?_
       have hn := n10
       rw [hS0] at hn
       exact hn
     have n5 : aany (ITP Tryd.prog) Tryd.prog none ops FIN 5 ⟨[true, false, false, true, false, false, false]⟩ (setAll S0 [(76, .agg (Enc.cells ((En.mk ((En.mk j1.k x5 j1.to j1.b).k) ((En.mk j1.k x5 j1.to j1.b).fr) x6 ((En.mk j1.k x5 j1.to j1.b).b)) : En))), (79, .raw (.string (bs t)))]) ⟨[(43, (Enc.cells ((En.mk 0 0 0 []) : En))), (43, (Enc.cells ((En.mk ((En.mk j1.k x5 j1.to j1.b).k) ((En.mk j1.k x5 j1.to j1.b).fr) x6 ((En.mk j1.k x5 j1.to j1.b).b)) : En)))], [], [], 0, false⟩ := by
      rw [hS0]
      dsimp only [setAll, List.foldl, List.set]
      refine aany_n hops [1] (by kernel_rfl) (by decide) (all_cons (aopAt_s hops rfl ?_) all_nil)
      ·
       refine w_op (a := .agg (Enc.cells ((En.mk ((En.mk j1.k x5 j1.to j1.b).k) ((En.mk j1.k x5 j1.to j1.b).fr) x6 ((En.mk j1.k x5 j1.to j1.b).b)) : En))) rfl rfl rfl rfl (by dsimp only [aput, List.set]) ?_
       have hn := n9
       rw [hS0] at hn
       exact hn
     have n4 : aany (ITP Tryd.prog) Tryd.prog none ops FIN 5 ⟨[true, true, false, false, false, false, false]⟩ (setAll S0 [(76, .agg (Enc.cells ((En.mk ((En.mk j1.k x5 j1.to j1.b).k) ((En.mk j1.k x5 j1.to j1.b).fr) x6 ((En.mk j1.k x5 j1.to j1.b).b)) : En))), (77, .agg (Enc.cells ((En.mk ((En.mk j1.k x5 j1.to j1.b).k) ((En.mk j1.k x5 j1.to j1.b).fr) x6 ((En.mk j1.k x5 j1.to j1.b).b)) : En)))]) ⟨[(43, (Enc.cells ((En.mk 0 0 0 []) : En))), (43, (Enc.cells ((En.mk ((En.mk j1.k x5 j1.to j1.b).k) ((En.mk j1.k x5 j1.to j1.b).fr) x6 ((En.mk j1.k x5 j1.to j1.b).b)) : En)))], [], [], 0, false⟩ := by
      rw [hS0]
      dsimp only [setAll, List.foldl, List.set]
      refine aany_n hops [2, 3] (by kernel_rfl) (by decide) (all_cons (aopAt_s hops rfl ?_) (all_cons (aopAt_s hops rfl ?_) all_nil))
      ·
       refine w_callc (args' := [.agg (Enc.cells ((En.mk ((En.mk j1.k x5 j1.to j1.b).k) ((En.mk j1.k x5 j1.to j1.b).fr) x6 ((En.mk j1.k x5 j1.to j1.b).b)) : En))]) (r := .raw (.string (bs x7))) (line_sh fuel (En.mk ((En.mk j1.k x5 j1.to j1.b).k) ((En.mk j1.k x5 j1.to j1.b).fr) x6 ((En.mk j1.k x5 j1.to j1.b).b)) x7 hx7) rfl rfl (stripL_cons (strip_c (clo_agg (Enc.clo _))) rfl) (okTrimL_cons (okTrim_clo _ _ (clo_agg (Enc.clo _))) rfl) (by dsimp only [aput, List.set]) ?_
       have hn := n8
       rw [hS0] at hn
       exact hn
      ·
       refine w_op (a := .raw (.string (bs t))) rfl rfl rfl rfl (by dsimp only [aput, List.set]) ?_
       have hn := n9
       rw [hS0] at hn
       exact hn
     have n3 : aany (ITP Tryd.prog) Tryd.prog none ops FIN 6 ⟨[false, false, false, true, false, false, false]⟩ (setAll S0 [(79, .raw (.string (bs t)))]) ⟨[(43, (Enc.cells ((En.mk 0 0 0 []) : En))), (43, (Enc.cells ((En.mk ((En.mk j1.k x5 j1.to j1.b).k) ((En.mk j1.k x5 j1.to j1.b).fr) x6 ((En.mk j1.k x5 j1.to j1.b).b)) : En)))], [], [], 0, false⟩ := by
      rw [hS0]
      dsimp only [setAll, List.foldl, List.set]
      refine aany_n hops [0, 1] (by kernel_rfl) (by decide) (all_cons (aopAt_s hops rfl ?_) (all_cons (aopAt_s hops rfl ?_) all_nil))
      ·
       refine w_op (a := .agg (Enc.cells ((En.mk ((En.mk j1.k x5 j1.to j1.b).k) ((En.mk j1.k x5 j1.to j1.b).fr) x6 ((En.mk j1.k x5 j1.to j1.b).b)) : En))) rfl rfl rfl rfl (by dsimp only [aput, List.set]) ?_
       have hn := n5
       rw [hS0] at hn
       exact hn
      ·
       refine w_op (a := .agg (Enc.cells ((En.mk ((En.mk j1.k x5 j1.to j1.b).k) ((En.mk j1.k x5 j1.to j1.b).fr) x6 ((En.mk j1.k x5 j1.to j1.b).b)) : En))) rfl rfl rfl rfl (by dsimp only [aput, List.set]) ?_
       have hn := n7
       rw [hS0] at hn
       exact hn
     have n2 : aany (ITP Tryd.prog) Tryd.prog none ops FIN 6 ⟨[false, true, false, false, false, false, false]⟩ (setAll S0 [(77, .agg (Enc.cells ((En.mk ((En.mk j1.k x5 j1.to j1.b).k) ((En.mk j1.k x5 j1.to j1.b).fr) x6 ((En.mk j1.k x5 j1.to j1.b).b)) : En)))]) ⟨[(43, (Enc.cells ((En.mk 0 0 0 []) : En))), (43, (Enc.cells ((En.mk ((En.mk j1.k x5 j1.to j1.b).k) ((En.mk j1.k x5 j1.to j1.b).fr) x6 ((En.mk j1.k x5 j1.to j1.b).b)) : En)))], [], [], 0, false⟩ := by
      rw [hS0]
      dsimp only [setAll, List.foldl, List.set]
      refine aany_n hops [0, 2, 3] (by kernel_rfl) (by decide) (all_cons (aopAt_s hops rfl ?_) (all_cons (aopAt_s hops rfl ?_) (all_cons (aopAt_s hops rfl ?_) all_nil)))
      ·
       refine w_op (a := .agg (Enc.cells ((En.mk ((En.mk j1.k x5 j1.to j1.b).k) ((En.mk j1.k x5 j1.to j1.b).fr) x6 ((En.mk j1.k x5 j1.to j1.b).b)) : En))) rfl rfl rfl rfl (by dsimp only [aput, List.set]) ?_
       have hn := n4
       rw [hS0] at hn
       exact hn
      ·
       refine w_callc (args' := [.agg (Enc.cells ((En.mk ((En.mk j1.k x5 j1.to j1.b).k) ((En.mk j1.k x5 j1.to j1.b).fr) x6 ((En.mk j1.k x5 j1.to j1.b).b)) : En))]) (r := .raw (.string (bs x7))) (line_sh fuel (En.mk ((En.mk j1.k x5 j1.to j1.b).k) ((En.mk j1.k x5 j1.to j1.b).fr) x6 ((En.mk j1.k x5 j1.to j1.b).b)) x7 hx7) rfl rfl (stripL_cons (strip_c (clo_agg (Enc.clo _))) rfl) (okTrimL_cons (okTrim_clo _ _ (clo_agg (Enc.clo _))) rfl) (by dsimp only [aput, List.set]) ?_
       have hn := n6
       rw [hS0] at hn
       exact hn
      ·
       refine w_op (a := .raw (.string (bs t))) rfl rfl rfl rfl (by dsimp only [aput, List.set]) ?_
       have hn := n7
       rw [hS0] at hn
       exact hn
     have n1 : aany (ITP Tryd.prog) Tryd.prog none ops FIN 6 ⟨[true, false, false, false, false, false, false]⟩ (setAll S0 [(76, .agg (Enc.cells ((En.mk ((En.mk j1.k x5 j1.to j1.b).k) ((En.mk j1.k x5 j1.to j1.b).fr) x6 ((En.mk j1.k x5 j1.to j1.b).b)) : En)))]) ⟨[(43, (Enc.cells ((En.mk 0 0 0 []) : En))), (43, (Enc.cells ((En.mk ((En.mk j1.k x5 j1.to j1.b).k) ((En.mk j1.k x5 j1.to j1.b).fr) x6 ((En.mk j1.k x5 j1.to j1.b).b)) : En)))], [], [], 0, false⟩ := by
      rw [hS0]
      dsimp only [setAll, List.foldl, List.set]
      refine aany_n hops [1, 3] (by kernel_rfl) (by decide) (all_cons (aopAt_s hops rfl ?_) (all_cons (aopAt_s hops rfl ?_) all_nil))
      ·
       refine w_op (a := .agg (Enc.cells ((En.mk ((En.mk j1.k x5 j1.to j1.b).k) ((En.mk j1.k x5 j1.to j1.b).fr) x6 ((En.mk j1.k x5 j1.to j1.b).b)) : En))) rfl rfl rfl rfl (by dsimp only [aput, List.set]) ?_
       have hn := n4
       rw [hS0] at hn
       exact hn
      ·
       refine w_op (a := .raw (.string (bs t))) rfl rfl rfl rfl (by dsimp only [aput, List.set]) ?_
       have hn := n5
       rw [hS0] at hn
       exact hn
     have n0 : aany (ITP Tryd.prog) Tryd.prog none ops FIN 7 ⟨[false, false, false, false, false, false, false]⟩ (setAll S0 []) ⟨[(43, (Enc.cells ((En.mk 0 0 0 []) : En))), (43, (Enc.cells ((En.mk ((En.mk j1.k x5 j1.to j1.b).k) ((En.mk j1.k x5 j1.to j1.b).fr) x6 ((En.mk j1.k x5 j1.to j1.b).b)) : En)))], [], [], 0, false⟩ := by
      rw [hS0]
      dsimp only [setAll, List.foldl, List.set]
      refine aany_n hops [0, 1, 3] (by kernel_rfl) (by decide) (all_cons (aopAt_s hops rfl ?_) (all_cons (aopAt_s hops rfl ?_) (all_cons (aopAt_s hops rfl ?_) all_nil)))
      ·
       refine w_op (a := .agg (Enc.cells ((En.mk ((En.mk j1.k x5 j1.to j1.b).k) ((En.mk j1.k x5 j1.to j1.b).fr) x6 ((En.mk j1.k x5 j1.to j1.b).b)) : En))) rfl rfl rfl rfl (by dsimp only [aput, List.set]) ?_
       have hn := n1
       rw [hS0] at hn
       exact hn
      ·
       refine w_op (a := .agg (Enc.cells ((En.mk ((En.mk j1.k x5 j1.to j1.b).k) ((En.mk j1.k x5 j1.to j1.b).fr) x6 ((En.mk j1.k x5 j1.to j1.b).b)) : En))) rfl rfl rfl rfl (by dsimp only [aput, List.set]) ?_
       have hn := n2
       rw [hS0] at hn
       exact hn
      ·
       refine w_op (a := .raw (.string (bs t))) rfl rfl rfl rfl (by dsimp only [aput, List.set]) ?_
       have hn := n3
       rw [hS0] at hn
       exact hn
     exact n0
    ·
     exact end_pureF (fun (r : (En × Bool)) => (.tup [.agg (Enc.cells (r.1 : En)), .raw (.bool r.2)] : AV)) h (a := .tup [.agg (Enc.cells ((En.mk ((En.mk j1.k x5 j1.to j1.b).k) ((En.mk j1.k x5 j1.to j1.b).fr) x6 ((En.mk j1.k x5 j1.to j1.b).b)) : En)), .raw (.bool (x7 == t))]) rfl (show okTrimL _ _ = true from (okTrimL_cons (okTrim_clo _ _ (clo_agg (Enc.clo _))) (okTrimL_cons rfl rfl))) (show AV.tup (stripL _) = _ from congrArg AV.tup (stripL_cons (strip_c (clo_agg (Enc.clo _))) (stripL_cons rfl rfl)))
def F_read (fuel : Nat) (t : (List UInt8)) : Option (Trc × Int × Int) :=
  (bif (decide ((List.length t : Int) > 1048576)) then (some ((Trc.mk [] (Ed.mk 0 0)), 0, 3)) else (cutE (τ := Int × Trc) (loopE (β := (List UInt8) × Int × Int × Trc) (fun s1 => (chk (List.length s1.1 < 4294967281) (letE (Lib.cut s1.1 ([10] : List UInt8)) (fun x1 => (bif (!x1.2.2) then (some (Sum.inr (Sum.inl (s1.2.2.1, (Trc.mk s1.2.2.2.l (Ed.mk s1.2.2.2.e.k s1.2.2.2.e.c)))))) else (bindE (F_ends fuel x1.1) (fun x2 => (bif x2.2 then (bif (!(x1.2.1 == ([] : List UInt8))) then (chk (-9223372036854775808 ≤ (s1.2.2.1 + 1) ∧ (s1.2.2.1 + 1) < 9223372036854775808) (some (Sum.inr (Sum.inl ((s1.2.2.1 + 1), (Trc.mk s1.2.2.2.l (Ed.mk s1.2.2.2.e.k s1.2.2.2.e.c))))))) else (some (Sum.inr (Sum.inr ((Trc.mk s1.2.2.2.l (Ed.mk x2.1.k x2.1.c)), 0, 0))))) else (bindE (F_entry fuel x1.1) (fun x3 => (bif (!x3.2) then (some (Sum.inr (Sum.inl (s1.2.2.1, (Trc.mk s1.2.2.2.l (Ed.mk s1.2.2.2.e.k s1.2.2.2.e.c)))))) else (bindE (F_right x3.1 s1.2.1) (fun x4 => (bif (!x4) then (some (Sum.inr (Sum.inl (s1.2.2.1, (Trc.mk s1.2.2.2.l (Ed.mk s1.2.2.2.e.k s1.2.2.2.e.c)))))) else (bif ((List.length s1.2.2.2.l : Int) == 65536) then (some (Sum.inr (Sum.inl (s1.2.2.1, (Trc.mk s1.2.2.2.l (Ed.mk s1.2.2.2.e.k s1.2.2.2.e.c)))))) else (chk ((List.length s1.2.2.2.l + List.length [x3.1]) * 40 ≤ 140737488355328) (chk (-9223372036854775808 ≤ (s1.2.2.1 + 1) ∧ (s1.2.2.1 + 1) < 9223372036854775808) (some (Sum.inl (x1.2.1, (max s1.2.1 x3.1.to), (s1.2.2.1 + 1), (Trc.mk (s1.2.2.2.l ++ [x3.1]) (Ed.mk s1.2.2.2.e.k s1.2.2.2.e.c)))))))))))))))))))))) fuel (t, 0, 1, (Trc.mk ([] : List En) (Ed.mk 0 0)))) (fun j1 => (some ((Trc.mk [] (Ed.mk 0 0)), j1.1, 332)))))
theorem ent16 : Ent Tryd.prog 16 := enters_of Tryd.func16 (by kernel_rfl) rfl
set_option maxRecDepth 100000 in
set_option maxHeartbeats 4000000 in
theorem read_sh (fuel : Nat) (t : (List UInt8)) (r : (Trc × Int × Int)) (h : F_read fuel t = some r) : Pure (ITP Tryd.prog) Tryd.prog 16 [.raw (.string (bs t))] (.tup [.agg (Enc.cells (r.1 : Trc)), .raw (.int .i64 r.2.1), .raw (.int .i64 r.2.2)]) := by
 obtain ⟨d, hd⟩ : ∃ d, Tryd.f16.body = some d := ⟨_, rfl⟩
 refine pure_of mix Tryd.func16 hd ent16 ?_
 cases hd
 unfold F_read at h
 refine w_start (by dsimp only [abeginS, Tryd.f16, List.length_cons, List.length_nil, Nat.zero_add, Nat.reduceAdd, Nat.reduceSub, List.replicate, List.cons_append, List.nil_append]) (by dsimp only [St.empty]) ?_
 refine w_seq (w_region ?_)
 refine w_opm (a := .ptr 0 0) (σ'' := ⟨[(26, [.list 0 [] .full, .raw (.int .u8 0), .raw (.int .i64 0)])], [], [], 0, false⟩) rfl rfl rfl rfl (by dsimp only [aput, List.set]) rfl ?_
 refine w_op (a := .raw (.int .i64 0)) rfl rfl rfl rfl (by dsimp only [aput, List.set]) ?_
 refine w_op (a := .raw (.int .i64 0)) rfl rfl rfl rfl (by dsimp only [aput, List.set]) ?_
 refine w_scope ?_
 refine w_seq ?_
 refine w_seq (w_region ?_)
 refine w_op (a := .raw (.string (bs t))) rfl rfl rfl rfl (by dsimp only [aput, List.set]) ?_
 refine w_op (a := .raw (.int .i64 (List.length t : Int))) rfl rfl rfl (op_q (q_lenS rfl rfl rfl)) (by dsimp only [aput, List.set]) ?_
 refine w_op (a := .raw (.bool (decide ((List.length t : Int) > 1048576)))) rfl rfl rfl rfl (by dsimp only [aput, List.set]) ?_
 refine bif_e h (fun hc1 h => ?_) (fun hc1 h => ?_)
 ·
  refine w_condT hc1 rfl ?_
  refine w_seq (w_region ?_)
  refine w_qs (.agg (Enc.cells ((Trc.mk [] (Ed.mk 0 0)) : Trc))) (a0 := (trcR (Trc.mk [] (Ed.mk 0 0)) .full)) rfl rfl rfl (by kernel_rfl) (strip_trcR _ _) (by dsimp only [aput, List.set]) ?_
  refine w_opm (σ'' := ⟨[(26, (Enc.cells ((Trc.mk [] (Ed.mk 0 0)) : Trc)))], [], [], 0, false⟩) rfl rfl rfl (op_storeW (n := 3) rfl rfl rfl rfl rfl rfl rfl rfl (by decide)) (by dsimp only [aput, List.set]) rfl ?_
  refine w_op (a := .raw (.int .i64 0)) rfl rfl rfl rfl (by dsimp only [aput, List.set]) ?_
  refine w_op (a := .raw (.int .i64 3)) rfl rfl rfl rfl (by dsimp only [aput, List.set]) ?_
  exact end_pureF (fun (r : (Trc × Int × Int)) => (.tup [.agg (Enc.cells (r.1 : Trc)), .raw (.int .i64 r.2.1), .raw (.int .i64 r.2.2)] : AV)) h (a := .tup [.agg (Enc.cells ((Trc.mk [] (Ed.mk 0 0)) : Trc)), .raw (.int .i64 0), .raw (.int .i64 3)]) rfl (show okTrimL _ _ = true from (okTrimL_cons (okTrim_clo _ _ (clo_agg (Enc.clo _))) (okTrimL_cons rfl (okTrimL_cons rfl rfl)))) (show AV.tup (stripL _) = _ from congrArg AV.tup (stripL_cons (strip_c (clo_agg (Enc.clo _))) (stripL_cons rfl (stripL_cons rfl rfl))))
 ·
  refine w_condF hc1 rfl ?_
  refine w_seq (w_region ?_)
  refine w_opm (a := .ptr 1 0) (σ'' := ⟨[(26, [.list 0 [] .full, .raw (.int .u8 0), .raw (.int .i64 0)]), (26, [.list (List.length (([] : List En) : List En)) (Enc.cellsL (([] : List En) : List En)) .full, .raw (.int .u8 0), .raw (.int .i64 0)])], [], [], 0, false⟩) rfl rfl rfl rfl (by dsimp only [aput, List.set]) rfl ?_
  refine w_seq (w_region ?_)
  refine w_op (a := .raw (.int .i64 0)) rfl rfl rfl rfl (by dsimp only [aput, List.set]) ?_
  refine w_op (a := .raw (.int .i64 1)) rfl rfl rfl rfl (by dsimp only [aput, List.set]) ?_
  refine w_seq ?_
  refine w_label ?_
  refine w_cutF h [0, 1, 3, 4, 5, 6, 7, 8, 9, 10, 11, 12, 13, 14, 15, 16, 17, 18, 19, 20, 21, 22, 23, 24, 25, 26, 27, 28, 29, 30, 31, 32, 33, 34, 35, 36, 37, 38, 39, 40, 41, 42, 43, 44, 45, 46, 47, 48, 49, 50, 51, 52, 53, 54, 55, 56, 57, 58, 59, 60, 61, 62, 63, 64, 65, 66, 67, 68, 69, 70, 71, 72] (fun j1 => [(7, .raw (.int .i64 j1.1))]) (fun j1 => (ownSt [(26, [.list 0 [] .full, .raw (.int .u8 0), .raw (.int .i64 0)]), (26, [(ownAV (List.length (j1.2.l : List En)) (Enc.cellsL (j1.2.l : List En))), .raw (.int .u8 j1.2.e.k), .raw (.int .i64 j1.2.e.c)])] 43 (List.length (j1.2.l : List En)) 4)) ?_ ?_
  ·
   intro or1 h hr1
   refine w_block ?_
   refine w_loopF h [0, 1, 3, 4, 6, 7, 8, 9, 10, 11, 12, 13, 14, 15, 16, 17, 18, 19, 20, 21, 22, 23, 24, 25, 26, 27, 28, 29, 30, 31, 32, 33, 34, 35, 36, 37, 38, 39, 40, 41, 42, 43, 44, 45, 46, 47, 48, 49, 50, 51, 52, 53, 54, 55, 56, 57, 58, 59, 60, 61, 62, 63, 64, 65, 66, 67, 68, 69, 70, 71, 72] (fun s1 => [(0, .raw (.string (bs s1.1))), (6, .raw (.int .i64 s1.2.1)), (7, .raw (.int .i64 s1.2.2.1))]) (fun s1 => (ownSt [(26, [.list 0 [] .full, .raw (.int .u8 0), .raw (.int .i64 0)]), (26, [(ownAV (List.length (s1.2.2.2.l : List En)) (Enc.cellsL (s1.2.2.2.l : List En))), .raw (.int .u8 s1.2.2.2.e.k), .raw (.int .i64 s1.2.2.2.e.c)])] 43 (List.length (s1.2.2.2.l : List En)) 4)) ?_ ?_
   ·
    exact wm_of [true, false, true, false, false, true, true, true, false, false, false, false, false, false, false, false, false, false, false, false, false, false, false, false, false, false, false, false, false, false, false, false, false, false, false, false, false, false, false, false, false, false, false, false, false, false, false, false, false, false, false, false, false, false, false, false, false, false, false, false, false, false, false, false, false, false, false, false, false, false, false, false, false] (by kernel_rfl) (by kernel_rfl)
   ·
    intro s1 p1 h
    refine w_start (by dsimp only [setAll, topAll, List.foldl, List.set]) rfl ?_
    refine w_block ?_
    refine w_seq (w_region ?_)
    refine w_op (a := .raw (.string (bs s1.1))) rfl rfl rfl rfl (by dsimp only [aput, List.set]) ?_
    obtain ⟨g1, h⟩ := chk_e h
    obtain ⟨x1, hx1, h⟩ := letE_e h
    refine w_callc (args' := [.raw (.string (bs s1.1)), .raw (.string (bs ([10] : List UInt8)))]) (r := .tup [.raw (.string (bs x1.1)), .raw (.string (bs x1.2.1)), .raw (.bool x1.2.2)]) (by rw [← hx1]; exact (cut_pure s1.1 ([10] : List UInt8) g1)) rfl rfl (stripL_cons rfl (stripL_cons rfl rfl)) (okTrimL_cons rfl (okTrimL_cons rfl rfl)) (by dsimp only [aput, List.set]) ?_
    refine w_op (a := .tup [.raw (.string (bs x1.1)), .raw (.string (bs x1.2.1)), .raw (.bool x1.2.2)]) rfl rfl rfl rfl (by dsimp only [aput, List.set]) ?_
    refine w_op (a := .raw (.string (bs x1.1))) rfl rfl rfl rfl (by dsimp only [aput, List.set]) ?_
    refine w_op (a := .raw (.string (bs x1.2.1))) rfl rfl rfl rfl (by dsimp only [aput, List.set]) ?_
    refine w_op (a := .raw (.bool x1.2.2)) rfl rfl rfl rfl (by dsimp only [aput, List.set]) ?_
    refine w_op (a := .raw (.string (bs x1.1))) rfl rfl rfl rfl (by dsimp only [aput, List.set]) ?_
    refine w_op (a := .raw (.string (bs x1.2.1))) rfl rfl rfl rfl (by dsimp only [aput, List.set]) ?_
    refine w_op (a := .raw (.bool x1.2.2)) rfl rfl rfl rfl (by dsimp only [aput, List.set]) ?_
    refine w_seq ?_
    refine w_seq (w_region ?_)
    refine w_op (a := .raw (.bool x1.2.2)) rfl rfl rfl rfl (by dsimp only [aput, List.set]) ?_
    refine w_op (a := .raw (.bool (!x1.2.2))) rfl rfl rfl rfl (by dsimp only [aput, List.set]) ?_
    refine bif_e h (fun hc2 h => ?_) (fun hc2 h => ?_)
    ·
     refine w_condT hc2 rfl ?_
     refine loop_exit h (fun h => ?_)
     refine cut_done (o := or1) (s1.2.2.1, (Trc.mk s1.2.2.2.l (Ed.mk s1.2.2.2.e.k s1.2.2.2.e.c))) h ?_
     exact wm_of [false, false, true, false, false, false, false, true, false, false, false, false, false, false, false, false, false, false, false, false, false, false, false, false, false, false, false, false, false, false, false, false, false, false, false, false, false, false, false, false, false, false, false, false, false, false, false, false, false, false, false, false, false, false, false, false, false, false, false, false, false, false, false, false, false, false, false, false, false, false, false, false, false] (by kernel_rfl) (by kernel_rfl)
    ·
     refine w_condF hc2 rfl ?_
     refine w_seq ?_
     refine w_seq (w_region ?_)
     refine w_op (a := .raw (.string (bs x1.1))) rfl rfl rfl rfl (by dsimp only [aput, List.set]) ?_
     obtain ⟨x2, hx2, h⟩ := bindE_e h
     refine w_callc (args' := [.raw (.string (bs x1.1))]) (r := .tup [.agg (Enc.cells (x2.1 : Ed)), .raw (.bool x2.2)]) (ends_sh fuel x1.1 x2 hx2) rfl rfl (stripL_cons rfl rfl) (okTrimL_cons rfl rfl) (by dsimp only [aput, List.set]) ?_
     refine w_op (a := .tup [.agg (Enc.cells (x2.1 : Ed)), .raw (.bool x2.2)]) rfl rfl rfl rfl (by dsimp only [aput, List.set]) ?_
     refine w_op (a := .agg (Enc.cells (x2.1 : Ed))) rfl rfl rfl rfl (by dsimp only [aput, List.set]) ?_
     refine w_op (a := .raw (.bool x2.2)) rfl rfl rfl rfl (by dsimp only [aput, List.set]) ?_
     refine w_opm (a := .ptr 2 0) (σ'' := (ownSt [(26, [.list 0 [] .full, .raw (.int .u8 0), .raw (.int .i64 0)]), (26, [(ownAV (List.length (s1.2.2.2.l : List En)) (Enc.cellsL (s1.2.2.2.l : List En))), .raw (.int .u8 s1.2.2.2.e.k), .raw (.int .i64 s1.2.2.2.e.c)]), (24, (Enc.cells ((Ed.mk 0 0) : Ed)))] 43 (List.length (s1.2.2.2.l : List En)) 4)) rfl rfl rfl rfl (by dsimp only [aput, List.set]) rfl ?_
     refine w_opm (σ'' := (ownSt [(26, [.list 0 [] .full, .raw (.int .u8 0), .raw (.int .i64 0)]), (26, [(ownAV (List.length (s1.2.2.2.l : List En)) (Enc.cellsL (s1.2.2.2.l : List En))), .raw (.int .u8 s1.2.2.2.e.k), .raw (.int .i64 s1.2.2.2.e.c)]), (24, (Enc.cells (x2.1 : Ed)))] 43 (List.length (s1.2.2.2.l : List En)) 4)) rfl rfl rfl (op_storeW (n := 2) rfl rfl rfl rfl rfl rfl rfl rfl (by decide)) (by dsimp only [aput, List.set]) rfl ?_
     refine w_op (a := .raw (.bool x2.2)) rfl rfl rfl rfl (by dsimp only [aput, List.set]) ?_
     refine w_seq (w_region ?_)
     refine w_op (a := .raw (.bool x2.2)) rfl rfl rfl rfl (by dsimp only [aput, List.set]) ?_
     refine bif_e h (fun hc3 h => ?_) (fun hc3 h => ?_)
     ·
      refine w_condT hc3 rfl ?_
      refine w_seq ?_
      refine w_seq (w_region ?_)
      refine w_op (a := .raw (.string (bs x1.2.1))) rfl rfl rfl rfl (by dsimp only [aput, List.set]) ?_
      refine w_op (a := .raw (.bool (!(x1.2.1 == ([] : List UInt8))))) rfl rfl rfl (op_q (q_strne rfl rfl rfl)) (by dsimp only [aput, List.set]) ?_
      refine bif_e h (fun hc4 h => ?_) (fun hc4 h => ?_)
      ·
       refine w_condT hc4 rfl ?_
       refine w_seq (w_region ?_)
       refine w_op (a := .raw (.int .i64 s1.2.2.1)) rfl rfl rfl rfl (by dsimp only [aput, List.set]) ?_
       obtain ⟨g2, h⟩ := chk_e h
       refine w_op (a := .raw (.int .i64 (s1.2.2.1 + 1))) rfl rfl rfl (op_q (q_add rfl rfl rfl rfl g2.1 g2.2)) (by dsimp only [aput, List.set]) ?_
       refine w_op (a := .raw (.int .i64 (s1.2.2.1 + 1))) rfl rfl rfl rfl (by dsimp only [aput, List.set]) ?_
       refine loop_exit h (fun h => ?_)
       refine cut_done (o := or1) ((s1.2.2.1 + 1), (Trc.mk s1.2.2.2.l (Ed.mk s1.2.2.2.e.k s1.2.2.2.e.c))) h ?_
       exact wm_trim [false, false, true, false, false, false, false, true, false, false, false, false, false, false, false, false, false, false, false, false, false, false, false, false, false, false, false, false, false, false, false, false, false, false, false, false, false, false, false, false, false, false, false, false, false, false, false, false, false, false, false, false, false, false, false, false, false, false, false, false, false, false, false, false, false, false, false, false, false, false, false, false, false] 2 (by kernel_rfl) (Nat.le_of_ble_eq_true rfl) (okSt_of (okB_cons rfl (okB_cons (okTrimL_cons (okTrim_own (Enc.cloL _)) (okTrimL_cons rfl (okTrimL_cons rfl rfl))) rfl))) (by dsimp only [setAll, topAll, List.foldl, List.set]; exact (okTrimL_cons rfl (okTrimL_cons rfl (okTrimL_cons (by decide) (okTrimL_cons rfl (okTrimL_cons rfl (okTrimL_cons rfl (okTrimL_cons rfl (okTrimL_cons rfl (okTrimL_cons rfl (okTrimL_cons rfl (okTrimL_cons rfl (okTrimL_cons rfl (okTrimL_cons rfl (okTrimL_cons rfl (okTrimL_cons rfl (okTrimL_cons rfl (okTrimL_cons rfl (okTrimL_cons rfl (okTrimL_cons rfl (okTrimL_cons rfl (okTrimL_cons rfl (okTrimL_cons rfl (okTrimL_cons rfl (okTrimL_cons rfl (okTrimL_cons rfl (okTrimL_cons rfl (okTrimL_cons rfl (okTrimL_cons rfl (okTrimL_cons rfl (okTrimL_cons rfl (okTrimL_cons rfl (okTrimL_cons rfl (okTrimL_cons rfl (okTrimL_cons rfl (okTrimL_cons rfl (okTrimL_cons rfl (okTrimL_cons rfl (okTrimL_cons rfl (okTrimL_cons rfl (okTrimL_cons rfl (okTrimL_cons rfl (okTrimL_cons rfl (okTrimL_cons rfl (okTrimL_cons rfl (okTrimL_cons rfl (okTrimL_cons rfl (okTrimL_cons rfl (okTrimL_cons rfl (okTrimL_cons rfl (okTrimL_cons rfl (okTrimL_cons rfl (okTrimL_cons rfl (okTrimL_cons rfl (okTrimL_cons rfl (okTrimL_cons rfl (okTrimL_cons rfl (okTrimL_cons rfl (okTrimL_cons rfl (okTrimL_cons rfl (okTrimL_cons rfl (okTrimL_cons rfl (okTrimL_cons rfl (okTrimL_cons rfl (okTrimL_cons rfl (okTrimL_cons rfl (okTrimL_cons rfl (okTrimL_cons rfl (okTrimL_cons rfl (okTrimL_cons rfl (okTrimL_cons rfl (okTrimL_cons rfl (okTrimL_cons rfl (okTrimL_cons rfl rfl)))))))))))))))))))))))))))))))))))))))))))))))))))))))))))))))))))))))))) (by kernel_rfl)
      ·
       refine w_condF hc4 rfl ?_
       refine w_seq (w_region ?_)
       refine w_op (a := .agg (Enc.cells (x2.1 : Ed))) rfl rfl rfl rfl (by dsimp only [aput, List.set]) ?_
       refine w_op (a := .ptr 1 1) rfl rfl rfl rfl (by dsimp only [aput, List.set]) ?_
       refine w_opm (σ'' := (ownSt [(26, [.list 0 [] .full, .raw (.int .u8 0), .raw (.int .i64 0)]), (26, [(ownAV (List.length (s1.2.2.2.l : List En)) (Enc.cellsL (s1.2.2.2.l : List En))), .raw (.int .u8 x2.1.k), .raw (.int .i64 x2.1.c)]), (24, (Enc.cells (x2.1 : Ed)))] 43 (List.length (s1.2.2.2.l : List En)) 4)) rfl rfl rfl (op_store (n := 2) rfl rfl rfl rfl rfl ⟨rfl, rfl, Nat.le_of_ble_eq_true rfl, by decide⟩) (by dsimp only [aput, List.set]) rfl ?_
       refine w_seq (w_region ?_)
       refine w_op (a := .agg [(ownAV (List.length (s1.2.2.2.l : List En)) (Enc.cellsL (s1.2.2.2.l : List En))), .raw (.int .u8 x2.1.k), .raw (.int .i64 x2.1.c)]) rfl rfl rfl rfl (by dsimp only [aput, List.set]) ?_
       refine w_opm (σ'' := (ownSt [(26, [(ownAV (List.length (s1.2.2.2.l : List En)) (Enc.cellsL (s1.2.2.2.l : List En))), .raw (.int .u8 x2.1.k), .raw (.int .i64 x2.1.c)]), (26, [(ownAV (List.length (s1.2.2.2.l : List En)) (Enc.cellsL (s1.2.2.2.l : List En))), .raw (.int .u8 x2.1.k), .raw (.int .i64 x2.1.c)]), (24, (Enc.cells (x2.1 : Ed)))] 43 (List.length (s1.2.2.2.l : List En)) 4)) rfl rfl rfl (op_storeW (n := 3) rfl rfl rfl rfl rfl rfl rfl rfl (by decide)) (by dsimp only [aput, List.set]) rfl ?_
       refine w_op (a := .raw (.int .i64 0)) rfl rfl rfl rfl (by dsimp only [aput, List.set]) ?_
       refine w_op (a := .raw (.int .i64 0)) rfl rfl rfl rfl (by dsimp only [aput, List.set]) ?_
       refine loop_exit h (fun h => ?_)
       replace h := cut_inr h hr1
       exact end_pureF (fun (r : (Trc × Int × Int)) => (.tup [.agg (Enc.cells (r.1 : Trc)), .raw (.int .i64 r.2.1), .raw (.int .i64 r.2.2)] : AV)) h (a := .tup [.agg [(ownAV (List.length (s1.2.2.2.l : List En)) (Enc.cellsL (s1.2.2.2.l : List En))), .raw (.int .u8 x2.1.k), .raw (.int .i64 x2.1.c)], .raw (.int .i64 0), .raw (.int .i64 0)]) rfl (show okTrimL _ _ = true from (okTrimL_cons (show okTrimL _ _ = true from (okTrimL_cons (okTrim_own (Enc.cloL _)) (okTrimL_cons rfl (okTrimL_cons rfl rfl)))) (okTrimL_cons rfl (okTrimL_cons rfl rfl)))) (show AV.tup (stripL _) = _ from congrArg AV.tup (stripL_cons (show AV.agg (stripL _) = _ from congrArg AV.agg (stripL_cons (strip_o (Enc.cloL _) Enc.z) (stripL_cons rfl (stripL_cons rfl rfl)))) (stripL_cons rfl (stripL_cons rfl rfl))))
     ·
      refine w_condF hc3 rfl ?_
      refine w_seq (w_region ?_)
      refine w_op (a := .raw (.string (bs x1.1))) rfl rfl rfl rfl (by dsimp only [aput, List.set]) ?_
      obtain ⟨x3, hx3, h⟩ := bindE_e h
      refine w_callc (args' := [.raw (.string (bs x1.1))]) (r := .tup [.agg (Enc.cells (x3.1 : En)), .raw (.bool x3.2)]) (entry_sh fuel x1.1 x3 hx3) rfl rfl (stripL_cons rfl rfl) (okTrimL_cons rfl rfl) (by dsimp only [aput, List.set]) ?_
      refine w_op (a := .tup [.agg (Enc.cells (x3.1 : En)), .raw (.bool x3.2)]) rfl rfl rfl rfl (by dsimp only [aput, List.set]) ?_
      refine w_op (a := .agg (Enc.cells (x3.1 : En))) rfl rfl rfl rfl (by dsimp only [aput, List.set]) ?_
      refine w_op (a := .raw (.bool x3.2)) rfl rfl rfl rfl (by dsimp only [aput, List.set]) ?_
      refine w_opm (a := .ptr 3 0) (σ'' := (ownSt [(26, [.list 0 [] .full, .raw (.int .u8 0), .raw (.int .i64 0)]), (26, [(ownAV (List.length (s1.2.2.2.l : List En)) (Enc.cellsL (s1.2.2.2.l : List En))), .raw (.int .u8 s1.2.2.2.e.k), .raw (.int .i64 s1.2.2.2.e.c)]), (24, (Enc.cells (x2.1 : Ed))), (43, (Enc.cells ((En.mk 0 0 0 []) : En)))] 43 (List.length (s1.2.2.2.l : List En)) 4)) rfl rfl rfl rfl (by dsimp only [aput, List.set]) rfl ?_
      refine w_opm (σ'' := (ownSt [(26, [.list 0 [] .full, .raw (.int .u8 0), .raw (.int .i64 0)]), (26, [(ownAV (List.length (s1.2.2.2.l : List En)) (Enc.cellsL (s1.2.2.2.l : List En))), .raw (.int .u8 s1.2.2.2.e.k), .raw (.int .i64 s1.2.2.2.e.c)]), (24, (Enc.cells (x2.1 : Ed))), (43, (Enc.cells (x3.1 : En)))] 43 (List.length (s1.2.2.2.l : List En)) 4)) rfl rfl rfl (op_storeW (n := 4) rfl rfl rfl rfl rfl rfl rfl rfl (by decide)) (by dsimp only [aput, List.set]) rfl ?_
      refine w_op (a := .raw (.bool x3.2)) rfl rfl rfl rfl (by dsimp only [aput, List.set]) ?_
      refine w_seq ?_
      refine w_seq (w_region ?_)
      refine w_op (a := .raw (.bool x3.2)) rfl rfl rfl rfl (by dsimp only [aput, List.set]) ?_
      refine w_op (a := .raw (.bool (!x3.2))) rfl rfl rfl rfl (by dsimp only [aput, List.set]) ?_
      refine bif_e h (fun hc5 h => ?_) (fun hc5 h => ?_)
      ·
       refine w_op (a := .raw (.bool true)) rfl rfl rfl (op_q (q_bool rfl hc5)) (by dsimp only [aput, List.set]) ?_
       refine w_pass rfl rfl (by decide) (by dsimp only [aput, List.set]) ?_
       refine w_pass rfl rfl (by decide) (by dsimp only [aput, List.set]) ?_
       refine w_pass rfl rfl (by decide) (by dsimp only [aput, List.set]) ?_
       refine w_pass rfl rfl (by decide) (by dsimp only [aput, List.set]) ?_
       refine w_op (a := .raw (.bool true)) rfl rfl rfl rfl (by dsimp only [aput, List.set]) ?_
       refine w_op (a := .raw (.bool true)) rfl rfl rfl rfl (by dsimp only [aput, List.set]) ?_
       refine w_pass rfl rfl (by decide) (by dsimp only [aput, List.set]) ?_
       refine w_pass rfl rfl (by decide) (by dsimp only [aput, List.set]) ?_
       refine w_pass rfl rfl (by decide) (by dsimp only [aput, List.set]) ?_
       refine w_pass rfl rfl (by decide) (by dsimp only [aput, List.set]) ?_
       refine w_op (a := .raw (.bool true)) rfl rfl rfl rfl (by dsimp only [aput, List.set]) ?_
       refine w_true rfl ?_
       refine loop_exit h (fun h => ?_)
       refine cut_done (o := or1) (s1.2.2.1, (Trc.mk s1.2.2.2.l (Ed.mk s1.2.2.2.e.k s1.2.2.2.e.c))) h ?_
       exact wm_trim [false, false, true, false, false, false, false, true, false, false, false, false, false, false, false, false, false, false, false, false, false, false, false, false, false, false, false, false, false, false, false, false, false, false, false, false, false, false, false, false, false, false, false, false, false, false, false, false, false, false, false, false, false, false, false, false, false, false, false, false, false, false, false, false, false, false, false, false, false, false, false, false, false] 2 (by kernel_rfl) (Nat.le_of_ble_eq_true rfl) (okSt_of (okB_cons rfl (okB_cons (okTrimL_cons (okTrim_own (Enc.cloL _)) (okTrimL_cons rfl (okTrimL_cons rfl rfl))) rfl))) (by dsimp only [setAll, topAll, List.foldl, List.set]; exact (okTrimL_cons rfl (okTrimL_cons rfl (okTrimL_cons (by decide) (okTrimL_cons rfl (okTrimL_cons rfl (okTrimL_cons rfl (okTrimL_cons rfl (okTrimL_cons rfl (okTrimL_cons rfl (okTrimL_cons rfl (okTrimL_cons rfl (okTrimL_cons rfl (okTrimL_cons rfl (okTrimL_cons rfl (okTrimL_cons rfl (okTrimL_cons rfl (okTrimL_cons rfl (okTrimL_cons rfl (okTrimL_cons rfl (okTrimL_cons rfl (okTrimL_cons rfl (okTrimL_cons rfl (okTrimL_cons rfl (okTrimL_cons rfl (okTrimL_cons rfl (okTrimL_cons rfl (okTrimL_cons rfl (okTrimL_cons rfl (okTrimL_cons rfl (okTrimL_cons rfl (okTrimL_cons rfl (okTrimL_cons rfl (okTrimL_cons rfl (okTrimL_cons rfl (okTrimL_cons rfl (okTrimL_cons rfl (okTrimL_cons rfl (okTrimL_cons rfl (okTrimL_cons rfl (okTrimL_cons rfl (okTrimL_cons rfl (okTrimL_cons rfl (okTrimL_cons rfl (okTrimL_cons rfl (okTrimL_cons rfl (okTrimL_cons rfl (okTrimL_cons rfl (okTrimL_cons rfl (okTrimL_cons rfl (okTrimL_cons rfl (okTrimL_cons rfl (okTrimL_cons rfl (okTrimL_cons rfl (okTrimL_cons rfl (okTrimL_cons rfl (okTrimL_cons rfl (okTrimL_cons rfl (okTrimL_cons rfl (okTrimL_cons rfl (okTrimL_cons rfl (okTrimL_cons rfl (okTrimL_cons rfl (okTrimL_cons rfl (okTrimL_cons rfl (okTrimL_cons rfl (okTrimL_cons rfl (okTrimL_cons rfl (okTrimL_cons rfl (okTrimL_cons rfl (okTrimL_cons rfl (okTrimL_cons rfl (okTrimL_cons rfl (okTrimL_cons rfl rfl)))))))))))))))))))))))))))))))))))))))))))))))))))))))))))))))))))))))))) (by kernel_rfl)
      ·
       refine w_op (a := .raw (.bool false)) rfl rfl rfl (op_q (q_bool rfl hc5)) (by dsimp only [aput, List.set]) ?_
       refine w_met rfl rfl ?_
       refine w_op (a := .agg (Enc.cells (x3.1 : En))) rfl rfl rfl rfl (by dsimp only [aput, List.set]) ?_
       refine w_met rfl rfl ?_
       refine w_op (a := .raw (.int .i64 s1.2.1)) rfl rfl rfl rfl (by dsimp only [aput, List.set]) ?_
       refine w_met rfl rfl ?_
       obtain ⟨x4, hx4, h⟩ := bindE_e h
       refine w_callc (args' := [.agg (Enc.cells (x3.1 : En)), .raw (.int .i64 s1.2.1)]) (r := .raw (.bool x4)) (right_sh x3.1 s1.2.1 x4 hx4) rfl rfl (stripL_cons (strip_c (clo_agg (Enc.clo _))) (stripL_cons rfl rfl)) (okTrimL_cons (okTrim_clo _ _ (clo_agg (Enc.clo _))) (okTrimL_cons rfl rfl)) (by dsimp only [aput, List.set]) ?_
       refine w_met rfl rfl ?_
       refine w_op (a := .raw (.bool (!x4))) rfl rfl rfl rfl (by dsimp only [aput, List.set]) ?_
       refine w_op (a := .raw (.bool (!x4))) rfl rfl rfl rfl (by dsimp only [aput, List.set]) ?_
       refine bif_e h (fun hc6 h => ?_) (fun hc6 h => ?_)
       ·
        refine w_op (a := .raw (.bool true)) rfl rfl rfl (op_q (q_bool rfl hc6)) (by dsimp only [aput, List.set]) ?_
        refine w_pass rfl rfl (by decide) (by dsimp only [aput, List.set]) ?_
        refine w_pass rfl rfl (by decide) (by dsimp only [aput, List.set]) ?_
        refine w_pass rfl rfl (by decide) (by dsimp only [aput, List.set]) ?_
        refine w_pass rfl rfl (by decide) (by dsimp only [aput, List.set]) ?_
        refine w_op (a := .raw (.bool true)) rfl rfl rfl rfl (by dsimp only [aput, List.set]) ?_
        refine w_true rfl ?_
        refine loop_exit h (fun h => ?_)
        refine cut_done (o := or1) (s1.2.2.1, (Trc.mk s1.2.2.2.l (Ed.mk s1.2.2.2.e.k s1.2.2.2.e.c))) h ?_
        exact wm_trim [false, false, true, false, false, false, false, true, false, false, false, false, false, false, false, false, false, false, false, false, false, false, false, false, false, false, false, false, false, false, false, false, false, false, false, false, false, false, false, false, false, false, false, false, false, false, false, false, false, false, false, false, false, false, false, false, false, false, false, false, false, false, false, false, false, false, false, false, false, false, false, false, false] 2 (by kernel_rfl) (Nat.le_of_ble_eq_true rfl) (okSt_of (okB_cons rfl (okB_cons (okTrimL_cons (okTrim_own (Enc.cloL _)) (okTrimL_cons rfl (okTrimL_cons rfl rfl))) rfl))) (by dsimp only [setAll, topAll, List.foldl, List.set]; exact (okTrimL_cons rfl (okTrimL_cons rfl (okTrimL_cons (by decide) (okTrimL_cons rfl (okTrimL_cons rfl (okTrimL_cons rfl (okTrimL_cons rfl (okTrimL_cons rfl (okTrimL_cons rfl (okTrimL_cons rfl (okTrimL_cons rfl (okTrimL_cons rfl (okTrimL_cons rfl (okTrimL_cons rfl (okTrimL_cons rfl (okTrimL_cons rfl (okTrimL_cons rfl (okTrimL_cons rfl (okTrimL_cons rfl (okTrimL_cons rfl (okTrimL_cons rfl (okTrimL_cons rfl (okTrimL_cons rfl (okTrimL_cons rfl (okTrimL_cons rfl (okTrimL_cons rfl (okTrimL_cons rfl (okTrimL_cons rfl (okTrimL_cons rfl (okTrimL_cons rfl (okTrimL_cons rfl (okTrimL_cons rfl (okTrimL_cons rfl (okTrimL_cons rfl (okTrimL_cons rfl (okTrimL_cons rfl (okTrimL_cons rfl (okTrimL_cons rfl (okTrimL_cons rfl (okTrimL_cons rfl (okTrimL_cons rfl (okTrimL_cons rfl (okTrimL_cons rfl (okTrimL_cons rfl (okTrimL_cons rfl (okTrimL_cons rfl (okTrimL_cons rfl (okTrimL_cons rfl (okTrimL_cons rfl (okTrimL_cons rfl (okTrimL_cons rfl (okTrimL_cons rfl (okTrimL_cons rfl (okTrimL_cons rfl (okTrimL_cons rfl (okTrimL_cons rfl (okTrimL_cons rfl (okTrimL_cons rfl (okTrimL_cons rfl (okTrimL_cons rfl (okTrimL_cons rfl (okTrimL_cons rfl (okTrimL_cons rfl (okTrimL_cons rfl (okTrimL_cons rfl (okTrimL_cons rfl (okTrimL_cons rfl (okTrimL_cons rfl (okTrimL_cons rfl (okTrimL_cons rfl (okTrimL_cons rfl (okTrimL_cons rfl (okTrimL_cons rfl rfl)))))))))))))))))))))))))))))))))))))))))))))))))))))))))))))))))))))))))) (by kernel_rfl)
       ·
        refine w_op (a := .raw (.bool false)) rfl rfl rfl (op_q (q_bool rfl hc6)) (by dsimp only [aput, List.set]) ?_
        refine w_met rfl rfl ?_
        refine w_op (a := .ptr 1 0) rfl rfl rfl rfl (by dsimp only [aput, List.set]) ?_
        refine w_met rfl rfl ?_
        refine w_op (a := (ownAV (List.length (s1.2.2.2.l : List En)) (Enc.cellsL (s1.2.2.2.l : List En)))) rfl rfl rfl rfl (by dsimp only [aput, List.set]) ?_
        refine w_met rfl rfl ?_
        refine w_op (a := .raw (.int .i64 (List.length s1.2.2.2.l : Int))) rfl rfl rfl (op_q (q_lenO (α := En) (l := s1.2.2.2.l) rfl rfl rfl rfl rfl rfl)) (by dsimp only [aput, List.set]) ?_
        refine w_met rfl rfl ?_
        refine w_op (a := .raw (.bool ((List.length s1.2.2.2.l : Int) == 65536))) rfl rfl rfl rfl (by dsimp only [aput, List.set]) ?_
        refine w_op (a := .raw (.bool ((List.length s1.2.2.2.l : Int) == 65536))) rfl rfl rfl rfl (by dsimp only [aput, List.set]) ?_
        refine bif_e h (fun hc7 h => ?_) (fun hc7 h => ?_)
        ·
         refine w_condT hc7 rfl ?_
         refine loop_exit h (fun h => ?_)
         refine cut_done (o := or1) (s1.2.2.1, (Trc.mk s1.2.2.2.l (Ed.mk s1.2.2.2.e.k s1.2.2.2.e.c))) h ?_
         exact wm_trim [false, false, true, false, false, false, false, true, false, false, false, false, false, false, false, false, false, false, false, false, false, false, false, false, false, false, false, false, false, false, false, false, false, false, false, false, false, false, false, false, false, false, false, false, false, false, false, false, false, false, false, false, false, false, false, false, false, false, false, false, false, false, false, false, false, false, false, false, false, false, false, false, false] 2 (by kernel_rfl) (Nat.le_of_ble_eq_true rfl) (okSt_of (okB_cons rfl (okB_cons (okTrimL_cons (okTrim_own (Enc.cloL _)) (okTrimL_cons rfl (okTrimL_cons rfl rfl))) rfl))) (by dsimp only [setAll, topAll, List.foldl, List.set]; exact (okTrimL_cons rfl (okTrimL_cons rfl (okTrimL_cons (by decide) (okTrimL_cons rfl (okTrimL_cons rfl (okTrimL_cons rfl (okTrimL_cons rfl (okTrimL_cons rfl (okTrimL_cons rfl (okTrimL_cons rfl (okTrimL_cons rfl (okTrimL_cons rfl (okTrimL_cons rfl (okTrimL_cons rfl (okTrimL_cons rfl (okTrimL_cons rfl (okTrimL_cons rfl (okTrimL_cons rfl (okTrimL_cons rfl (okTrimL_cons rfl (okTrimL_cons rfl (okTrimL_cons rfl (okTrimL_cons rfl (okTrimL_cons rfl (okTrimL_cons rfl (okTrimL_cons rfl (okTrimL_cons rfl (okTrimL_cons rfl (okTrimL_cons rfl (okTrimL_cons rfl (okTrimL_cons rfl (okTrimL_cons rfl (okTrimL_cons rfl (okTrimL_cons rfl (okTrimL_cons rfl (okTrimL_cons rfl (okTrimL_cons rfl (okTrimL_cons rfl (okTrimL_cons rfl (okTrimL_cons rfl (okTrimL_cons rfl (okTrimL_cons rfl (okTrimL_cons rfl (okTrimL_cons rfl (okTrimL_cons rfl (okTrimL_cons rfl (okTrimL_cons rfl (okTrimL_cons rfl (okTrimL_cons rfl (okTrimL_cons rfl (okTrimL_cons rfl (okTrimL_cons rfl (okTrimL_cons rfl (okTrimL_cons rfl (okTrimL_cons rfl (okTrimL_cons rfl (okTrimL_cons rfl (okTrimL_cons rfl (okTrimL_cons rfl (okTrimL_cons rfl (okTrimL_cons rfl (okTrimL_cons rfl (okTrimL_cons rfl (okTrimL_cons rfl (okTrimL_cons rfl (okTrimL_cons rfl (okTrimL_cons rfl (okTrimL_cons rfl (okTrimL_cons rfl (okTrimL_cons rfl (okTrimL_cons rfl (okTrimL_cons rfl (okTrimL_cons rfl rfl)))))))))))))))))))))))))))))))))))))))))))))))))))))))))))))))))))))))))) (by kernel_rfl)
        ·
         refine w_condF hc7 rfl ?_
         refine w_seq (w_region ?_)
         refine w_op (a := .ptr 1 0) rfl rfl rfl rfl (by dsimp only [aput, List.set]) ?_
         refine w_op (a := (ownAV (List.length (s1.2.2.2.l : List En)) (Enc.cellsL (s1.2.2.2.l : List En)))) rfl rfl rfl rfl (by dsimp only [aput, List.set]) ?_
         refine w_op (a := .agg (Enc.cells (x3.1 : En))) rfl rfl rfl rfl (by dsimp only [aput, List.set]) ?_
         refine w_op (a := .list (List.length ([x3.1] : List En)) (Enc.cellsL ([x3.1] : List En)) .full) rfl rfl rfl (op_q (q_lit (α := En) (l := [x3.1]) (cs := Enc.cells (x3.1 : En) ++ []) rfl (by rw [Enc.cons, Enc.nil]))) (by dsimp only [aput, List.set]) ?_
         obtain ⟨g3, h⟩ := chk_e h
         refine w_opm (a := (ownAV (List.length ((s1.2.2.2.l ++ [x3.1]) : List En)) (Enc.cellsL ((s1.2.2.2.l ++ [x3.1]) : List En)))) (σ'' := (ownSt [(26, [.list 0 [] .full, .raw (.int .u8 0), .raw (.int .i64 0)]), (26, [(ownAV (List.length (s1.2.2.2.l : List En)) (Enc.cellsL (s1.2.2.2.l : List En))), .raw (.int .u8 s1.2.2.2.e.k), .raw (.int .i64 s1.2.2.2.e.c)]), (24, (Enc.cells (x2.1 : Ed))), (43, (Enc.cells (x3.1 : En)))] 43 (List.length ((s1.2.2.2.l ++ [x3.1]) : List En)) 4)) rfl rfl rfl (op_append rfl rfl rfl rfl (append_ownE (α := En) (bs := [(26, [.list 0 [] .full, .raw (.int .u8 0), .raw (.int .i64 0)]), (26, [(ownAV (List.length (s1.2.2.2.l : List En)) (Enc.cellsL (s1.2.2.2.l : List En))), .raw (.int .u8 s1.2.2.2.e.k), .raw (.int .i64 s1.2.2.2.e.c)]), (24, (Enc.cells (x2.1 : Ed))), (43, (Enc.cells (x3.1 : En)))]) (a := s1.2.2.2.l) (b := [x3.1]) g3 rfl rfl rfl rfl rfl ⟨rfl, by decide⟩)) (by dsimp only [aput, List.set]) rfl ?_
         refine w_op (a := .ptr 1 0) rfl rfl rfl rfl (by dsimp only [aput, List.set]) ?_
         refine w_opm (σ'' := (ownSt [(26, [.list 0 [] .full, .raw (.int .u8 0), .raw (.int .i64 0)]), (26, [(ownAV (List.length ((s1.2.2.2.l ++ [x3.1]) : List En)) (Enc.cellsL ((s1.2.2.2.l ++ [x3.1]) : List En))), .raw (.int .u8 s1.2.2.2.e.k), .raw (.int .i64 s1.2.2.2.e.c)]), (24, (Enc.cells (x2.1 : Ed))), (43, (Enc.cells (x3.1 : En)))] 43 (List.length ((s1.2.2.2.l ++ [x3.1]) : List En)) 4)) rfl rfl rfl (op_storeO rfl rfl rfl rfl rfl (Nat.le_of_ble_eq_true rfl)) (by dsimp only [aput, List.set]) rfl ?_
         refine w_seq (w_region ?_)
         refine w_op (a := .raw (.int .i64 s1.2.1)) rfl rfl rfl rfl (by dsimp only [aput, List.set]) ?_
         refine w_op (a := .ptr 3 2) rfl rfl rfl rfl (by dsimp only [aput, List.set]) ?_
         refine w_op (a := .raw (.int .i64 x3.1.to)) rfl rfl rfl rfl (by dsimp only [aput, List.set]) ?_
         refine w_op (a := .raw (.int .i64 (max s1.2.1 x3.1.to))) rfl rfl rfl (op_q (q_max rfl rfl rfl rfl rfl)) (by dsimp only [aput, List.set]) ?_
         refine w_op (a := .raw (.string (bs x1.2.1))) rfl rfl rfl rfl (by dsimp only [aput, List.set]) ?_
         refine w_op (a := .raw (.int .i64 (max s1.2.1 x3.1.to))) rfl rfl rfl rfl (by dsimp only [aput, List.set]) ?_
         refine w_op (a := .raw (.string (bs x1.2.1))) rfl rfl rfl rfl (by dsimp only [aput, List.set]) ?_
         refine w_region (k0 := 0) (id := 17) ?_
         refine w_op (a := .raw (.int .i64 s1.2.2.1)) rfl rfl rfl rfl (by dsimp only [aput, List.set]) ?_
         obtain ⟨g4, h⟩ := chk_e h
         refine w_op (a := .raw (.int .i64 (s1.2.2.1 + 1))) rfl rfl rfl (op_q (q_add rfl rfl rfl rfl g4.1 g4.2)) (by dsimp only [aput, List.set]) ?_
         refine w_op (a := .raw (.int .i64 (s1.2.2.1 + 1))) rfl rfl rfl rfl (by dsimp only [aput, List.set]) ?_
         refine loop_next (p := p1) (x1.2.1, (max s1.2.1 x3.1.to), (s1.2.2.1 + 1), (Trc.mk (s1.2.2.2.l ++ [x3.1]) (Ed.mk s1.2.2.2.e.k s1.2.2.2.e.c))) h ?_
         exact wm_trim [true, false, true, false, false, true, true, true, false, false, false, false, false, false, false, false, false, false, false, false, false, false, false, false, false, false, false, false, false, false, false, false, false, false, false, false, false, false, false, false, false, false, false, false, false, false, false, false, false, false, false, false, false, false, false, false, false, false, false, false, false, false, false, false, false, false, false, false, false, false, false, false, false] 2 (by kernel_rfl) (Nat.le_of_ble_eq_true rfl) (okSt_of (okB_cons rfl (okB_cons (okTrimL_cons (okTrim_own (Enc.cloL _)) (okTrimL_cons rfl (okTrimL_cons rfl rfl))) rfl))) (by dsimp only [setAll, topAll, List.foldl, List.set]; exact (okTrimL_cons rfl (okTrimL_cons rfl (okTrimL_cons (by decide) (okTrimL_cons rfl (okTrimL_cons rfl (okTrimL_cons (by decide) (okTrimL_cons rfl (okTrimL_cons rfl (okTrimL_cons rfl (okTrimL_cons rfl (okTrimL_cons rfl (okTrimL_cons rfl (okTrimL_cons rfl (okTrimL_cons rfl (okTrimL_cons rfl (okTrimL_cons rfl (okTrimL_cons rfl (okTrimL_cons rfl (okTrimL_cons rfl (okTrimL_cons rfl (okTrimL_cons rfl (okTrimL_cons rfl (okTrimL_cons rfl (okTrimL_cons rfl (okTrimL_cons rfl (okTrimL_cons rfl (okTrimL_cons rfl (okTrimL_cons rfl (okTrimL_cons rfl (okTrimL_cons rfl (okTrimL_cons rfl (okTrimL_cons rfl (okTrimL_cons rfl (okTrimL_cons rfl (okTrimL_cons rfl (okTrimL_cons rfl (okTrimL_cons rfl (okTrimL_cons rfl (okTrimL_cons rfl (okTrimL_cons rfl (okTrimL_cons rfl (okTrimL_cons rfl (okTrimL_cons rfl (okTrimL_cons rfl (okTrimL_cons rfl (okTrimL_cons rfl (okTrimL_cons rfl (okTrimL_cons rfl (okTrimL_cons rfl (okTrimL_cons rfl (okTrimL_cons rfl (okTrimL_cons rfl (okTrimL_cons rfl (okTrimL_cons rfl (okTrimL_cons rfl (okTrimL_cons rfl (okTrimL_cons rfl (okTrimL_cons rfl (okTrimL_cons rfl (okTrimL_cons rfl (okTrimL_cons rfl (okTrimL_cons rfl (okTrimL_cons rfl (okTrimL_cons rfl (okTrimL_cons rfl (okTrimL_cons rfl (okTrimL_cons rfl (okTrimL_cons rfl (okTrimL_cons rfl (okTrimL_cons rfl (okTrimL_cons rfl (okTrimL_cons rfl (okTrimL_cons rfl rfl)))))))))))))))))))))))))))))))))))))))))))))))))))))))))))))))))))))))))) (by kernel_rfl)
  ·
   intro j1 h
   refine w_start (by dsimp only [setAll, topAll, List.foldl, List.set]) rfl ?_
   refine w_seq (w_region ?_)
   refine w_qs (.agg (Enc.cells ((Trc.mk [] (Ed.mk 0 0)) : Trc))) (a0 := (trcR (Trc.mk [] (Ed.mk 0 0)) .full)) rfl rfl rfl (by kernel_rfl) (strip_trcR _ _) (by dsimp only [aput, List.set]) ?_
   refine w_op (a := .raw (.int .i64 j1.1)) rfl rfl rfl rfl (by dsimp only [aput, List.set]) ?_
   refine w_opm (σ'' := (ownSt [(26, (Enc.cells ((Trc.mk [] (Ed.mk 0 0)) : Trc))), (26, [(ownAV (List.length (j1.2.l : List En)) (Enc.cellsL (j1.2.l : List En))), .raw (.int .u8 j1.2.e.k), .raw (.int .i64 j1.2.e.c)])] 43 (List.length (j1.2.l : List En)) 4)) rfl rfl rfl (op_storeW (n := 3) rfl rfl rfl rfl rfl rfl rfl rfl (by decide)) (by dsimp only [aput, List.set]) rfl ?_
   refine w_op (a := .raw (.int .i64 j1.1)) rfl rfl rfl rfl (by dsimp only [aput, List.set]) ?_
   refine w_op (a := .raw (.int .i64 332)) rfl rfl rfl rfl (by dsimp only [aput, List.set]) ?_
   exact end_pureF (fun (r : (Trc × Int × Int)) => (.tup [.agg (Enc.cells (r.1 : Trc)), .raw (.int .i64 r.2.1), .raw (.int .i64 r.2.2)] : AV)) h (a := .tup [.agg (Enc.cells ((Trc.mk [] (Ed.mk 0 0)) : Trc)), .raw (.int .i64 j1.1), .raw (.int .i64 332)]) rfl (show okTrimL _ _ = true from (okTrimL_cons (okTrim_clo _ _ (clo_agg (Enc.clo _))) (okTrimL_cons rfl (okTrimL_cons rfl rfl)))) (show AV.tup (stripL _) = _ from congrArg AV.tup (stripL_cons (strip_c (clo_agg (Enc.clo _))) (stripL_cons rfl (stripL_cons rfl rfl))))
end Go.Ab

