/-
  trace: TracePairs.
-/
import Derived.Test.YtcdmdnadilafhaaGreatDoorZyPc
import Derived.Test.YtcdmdnadilafhaaGreatDoorZyQc
import Derived.Test.YtcdmdnadilafhaaGreatDoorZyEn2
import Derived.Test.YtcdmdnadilafhaaGreatDoorZyBd
import Derived.Test.YtcdmdnadilafhaaGreatDoorZdQo
set_option linter.unusedSimpArgs false
set_option linter.unusedVariables false
namespace Go.Ab
open Go Go.RowKit Go.Fwd Go.Proofs
def F_theirs (fuel : Nat) (t : Trc) : Option Trc :=
  (cutE (τ := Trc) (loopE (β := Int × Trc) (fun s1 => (bif (decide (s1.1 < (List.length t.l : Int))) then (chk (0 ≤ s1.1 ∧ s1.1 < (List.length t.l : Int)) (letE (ix t.l s1.1) (fun x1 => (chk ((List.length s1.2.l + List.length [x1]) * 40 ≤ 140737488355328) (chk (-9223372036854775808 ≤ (s1.1 + 1) ∧ (s1.1 + 1) < 9223372036854775808) (some (Sum.inl ((s1.1 + 1), (Trc.mk (s1.2.l ++ [x1]) (Ed.mk s1.2.e.k s1.2.e.c)))))))))) else (some (Sum.inr (Sum.inl ((Trc.mk s1.2.l (Ed.mk s1.2.e.k s1.2.e.c)))))))) fuel (0, (Trc.mk ([] : List En) (Ed.mk t.e.k t.e.c)))) (fun j1 => (some (Trc.mk j1.l (Ed.mk j1.e.k j1.e.c)))))
theorem ent34 : Ent Tryz.prog 34 := enters_of Tryz.func34 (by kernel_rfl) rfl
set_option maxRecDepth 100000 in
set_option maxHeartbeats 4000000 in
theorem theirs_sh (fuel : Nat) (t : Trc) (r : Trc) (h : F_theirs fuel t = some r) : Pure (ITP Tryz.prog) Tryz.prog 34 [.agg (Enc.cells (t : Trc))] (.agg (Enc.cells (r : Trc))) := by
 obtain ⟨d, hd⟩ : ∃ d, Tryz.f34.body = some d := ⟨_, rfl⟩
 refine pure_of mix Tryz.func34 hd ent34 ?_
 cases hd
 unfold F_theirs at h
 refine w_start (by dsimp only [abeginS, Tryz.f34, List.length_cons, List.length_nil, Nat.zero_add, Nat.reduceAdd, Nat.reduceSub, List.replicate, List.cons_append, List.nil_append]) (by dsimp only [St.empty]) ?_
 refine w_seq (w_region ?_)
 refine w_om (a := .ptr 0 0) (σ'' := ⟨[(27, (Enc.cells (t : Trc)))], [], [], 0, false⟩) ?_
 refine w_om (a := .ptr 1 0) (σ'' := ⟨[(27, (Enc.cells (t : Trc))), (34, [.list 0 [] .full, .raw (.int .u8 0), .raw (.int .i64 0)])], [], [], 0, false⟩) ?_
 refine w_seq (w_region ?_)
 refine w_o (a := .ptr 0 1) ?_
 refine w_o (a := .agg (Enc.cells (t.e : Ed))) ?_
 refine w_o (a := .agg [.list (List.length (([] : List En) : List En)) (Enc.cellsL (([] : List En) : List En)) .full, .raw (.int .u8 t.e.k), .raw (.int .i64 t.e.c)]) ?_
 refine w_om (a := .ptr 2 0) (σ'' := ⟨[(27, (Enc.cells (t : Trc))), (34, [.list 0 [] .full, .raw (.int .u8 0), .raw (.int .i64 0)]), (34, [.list (List.length (([] : List En) : List En)) (Enc.cellsL (([] : List En) : List En)) .full, .raw (.int .u8 0), .raw (.int .i64 0)])], [], [], 0, false⟩) ?_
 refine w_om (σ'' := ⟨[(27, (Enc.cells (t : Trc))), (34, [.list 0 [] .full, .raw (.int .u8 0), .raw (.int .i64 0)]), (34, [.list (List.length (([] : List En) : List En)) (Enc.cellsL (([] : List En) : List En)) .full, .raw (.int .u8 t.e.k), .raw (.int .i64 t.e.c)])], [], [], 0, false⟩) (h := op_storeW (n := 3) rfl rfl rfl rfl rfl rfl rfl rfl (by decide)) ?_
 refine w_cutF h [0, 1, 4, 5, 6, 7, 8, 9, 10, 11, 12, 13, 14, 15, 16, 17, 18, 19, 20, 21, 22, 23] (fun j1 => []) (fun j1 => (ownSt [(27, (Enc.cells (t : Trc))), (34, [.list 0 [] .full, .raw (.int .u8 0), .raw (.int .i64 0)]), (34, [(ownAV (List.length (j1.l : List En)) (Enc.cellsL (j1.l : List En))), .raw (.int .u8 j1.e.k), .raw (.int .i64 j1.e.c)])] 67 (List.length (j1.l : List En)) 4)) ?_ ?_
 intro or1 h hr1
 refine w_seq (w_region ?_)
 refine w_o (a := .ptr 0 0) ?_
 refine w_o (a := .list (List.length (t.l : List En)) (Enc.cellsL (t.l : List En)) .none) ?_
 refine w_o (a := .raw (.int .i64 (List.length t.l : Int))) ?_
 refine w_o (a := .raw (.int .i64 0)) ?_
 refine w_block ?_
 refine w_loopF h [0, 1, 4, 5, 6, 7, 8, 9, 12, 13, 14, 15, 16, 17, 18, 19, 20, 21, 22, 23] (fun s1 => [(12, .raw (.int .i64 s1.1))]) (fun s1 => (ownSt [(27, (Enc.cells (t : Trc))), (34, [.list 0 [] .full, .raw (.int .u8 0), .raw (.int .i64 0)]), (34, [(ownAV (List.length (s1.2.l : List En)) (Enc.cellsL (s1.2.l : List En))), .raw (.int .u8 s1.2.e.k), .raw (.int .i64 s1.2.e.c)])] 67 (List.length (s1.2.l : List En)) 4)) ?_ ?_
 exact wm_of (bl 24 7180) (by kernel_rfl) (by kernel_rfl)
 intro s1 p1 h
 refine w_start (by dsimp only [setAll, topAll, List.foldl, List.set]) rfl ?_
 refine w_seq (w_region ?_)
 refine w_o (a := .raw (.bool (decide (s1.1 < (List.length t.l : Int))))) ?_
 refine w_seq ?_
 refine bif_e h (fun hc1 h => ?_) (fun hc1 h => ?_)
 refine w_condT hc1 rfl ?_
 refine w_seq ?_
 refine w_block ?_
 refine w_seq (w_region ?_)
 obtain ⟨g1, h⟩ := chk_e h
 obtain ⟨x1, hx1, h⟩ := letE_e h
 refine w_o (a := .iptr (Enc.cells x1 ++ Enc.cellsL (List.drop (Int.toNat s1.1 + 1) t.l))) (h := op_q (by rw [← hx1]; exact (q_idx (α := En) (l := t.l) g1 rfl rfl rfl rfl rfl))) ?_
 refine w_o (a := .agg (Enc.cells (x1 : En))) ?_
 refine w_om (a := .ptr 3 0) (σ'' := (ownSt [(27, (Enc.cells (t : Trc))), (34, [.list 0 [] .full, .raw (.int .u8 0), .raw (.int .i64 0)]), (34, [(ownAV (List.length (s1.2.l : List En)) (Enc.cellsL (s1.2.l : List En))), .raw (.int .u8 s1.2.e.k), .raw (.int .i64 s1.2.e.c)]), (41, (Enc.cells ((En.mk 0 0 0 []) : En)))] 67 (List.length (s1.2.l : List En)) 4)) ?_
 refine w_om (σ'' := (ownSt [(27, (Enc.cells (t : Trc))), (34, [.list 0 [] .full, .raw (.int .u8 0), .raw (.int .i64 0)]), (34, [(ownAV (List.length (s1.2.l : List En)) (Enc.cellsL (s1.2.l : List En))), .raw (.int .u8 s1.2.e.k), .raw (.int .i64 s1.2.e.c)]), (41, (Enc.cells (x1 : En)))] 67 (List.length (s1.2.l : List En)) 4)) (h := op_storeW (n := 4) rfl rfl rfl rfl rfl rfl rfl rfl (by decide)) ?_
 refine w_region (k0 := 0) (id := 5) ?_
 refine w_o (a := .ptr 2 0) ?_
 refine w_o (a := (ownAV (List.length (s1.2.l : List En)) (Enc.cellsL (s1.2.l : List En)))) ?_
 refine w_o (a := .agg (Enc.cells (x1 : En))) ?_
 refine w_o (a := .list (List.length ([x1] : List En)) (Enc.cellsL ([x1] : List En)) .full) (h := op_q (q_lit (α := En) (l := [x1]) (cs := Enc.cells (x1 : En) ++ []) rfl (by rw [Enc.cons, Enc.nil]))) ?_
 obtain ⟨g2, h⟩ := chk_e h
 refine w_opm (a := (ownAV (List.length ((s1.2.l ++ [x1]) : List En)) (Enc.cellsL ((s1.2.l ++ [x1]) : List En)))) (σ'' := (ownSt [(27, (Enc.cells (t : Trc))), (34, [.list 0 [] .full, .raw (.int .u8 0), .raw (.int .i64 0)]), (34, [(ownAV (List.length (s1.2.l : List En)) (Enc.cellsL (s1.2.l : List En))), .raw (.int .u8 s1.2.e.k), .raw (.int .i64 s1.2.e.c)]), (41, (Enc.cells (x1 : En)))] 67 (List.length ((s1.2.l ++ [x1]) : List En)) 4)) rfl rfl rfl (op_append rfl rfl rfl rfl (append_ownE (α := En) (bs := [(27, (Enc.cells (t : Trc))), (34, [.list 0 [] .full, .raw (.int .u8 0), .raw (.int .i64 0)]), (34, [(ownAV (List.length (s1.2.l : List En)) (Enc.cellsL (s1.2.l : List En))), .raw (.int .u8 s1.2.e.k), .raw (.int .i64 s1.2.e.c)]), (41, (Enc.cells (x1 : En)))]) (a := s1.2.l) (b := [x1]) g2 rfl rfl rfl rfl rfl ⟨rfl, by decide⟩)) (by dsimp only [aput, List.set]) rfl ?_
 refine w_o (a := .ptr 2 0) ?_
 refine w_om (σ'' := (ownSt [(27, (Enc.cells (t : Trc))), (34, [.list 0 [] .full, .raw (.int .u8 0), .raw (.int .i64 0)]), (34, [(ownAV (List.length ((s1.2.l ++ [x1]) : List En)) (Enc.cellsL ((s1.2.l ++ [x1]) : List En))), .raw (.int .u8 s1.2.e.k), .raw (.int .i64 s1.2.e.c)]), (41, (Enc.cells (x1 : En)))] 67 (List.length ((s1.2.l ++ [x1]) : List En)) 4)) (h := op_storeO rfl rfl rfl rfl rfl (Nat.le_of_ble_eq_true rfl)) ?_
 refine w_region (k0 := 0) (id := 6) ?_
 obtain ⟨g3, h⟩ := chk_e h
 refine w_o (a := .raw (.int .i64 (s1.1 + 1))) (h := op_q (q_add rfl rfl rfl rfl g3.1 g3.2)) ?_
 refine w_o (a := .raw (.int .i64 (s1.1 + 1))) ?_
 refine loop_next (p := p1) ((s1.1 + 1), (Trc.mk (s1.2.l ++ [x1]) (Ed.mk s1.2.e.k s1.2.e.c))) h ?_
 exact wm_trim (bl 24 7180) 3 (by kernel_rfl) (Nat.le_of_ble_eq_true rfl) (okSt_of (okB_cons (okTrimL_clo _ _ (Enc.clo _)) (okB_cons rfl (okB_cons (okTrimL_cons (okTrim_own (Enc.cloL _)) (by kernel_rfl)) rfl)))) (by dsimp only [setAll, topAll, List.foldl, List.set]; exact (okTrimL_cons rfl (okTrimL_cons rfl (okTrimL_cons (by decide) (okTrimL_cons (by decide) (okTrimL_cons rfl (okTrimL_cons rfl (okTrimL_cons rfl (okTrimL_cons rfl (okTrimL_cons rfl (okTrimL_cons rfl (okTrimL_cons (okTrim_l (Enc.cloL _)) (by kernel_rfl))))))))))))) (by kernel_rfl)
 refine w_condF hc1 rfl ?_
 refine loop_exit h (fun h => ?_)
 refine cut_done (o := or1) ((Trc.mk s1.2.l (Ed.mk s1.2.e.k s1.2.e.c))) h ?_
 exact wm_of (bl 24 12) (by kernel_rfl) (by kernel_rfl)
 intro j1 h
 refine w_start (by dsimp only [setAll, topAll, List.foldl, List.set]) rfl ?_
 refine w_seq (w_region ?_)
 refine w_o (a := .agg [(ownAV (List.length (j1.l : List En)) (Enc.cellsL (j1.l : List En))), .raw (.int .u8 j1.e.k), .raw (.int .i64 j1.e.c)]) ?_
 refine w_om (σ'' := (ownSt [(27, (Enc.cells (t : Trc))), (34, [(ownAV (List.length (j1.l : List En)) (Enc.cellsL (j1.l : List En))), .raw (.int .u8 j1.e.k), .raw (.int .i64 j1.e.c)]), (34, [(ownAV (List.length (j1.l : List En)) (Enc.cellsL (j1.l : List En))), .raw (.int .u8 j1.e.k), .raw (.int .i64 j1.e.c)])] 67 (List.length (j1.l : List En)) 4)) (h := op_storeW (n := 3) rfl rfl rfl rfl rfl rfl rfl rfl (by decide)) ?_
 exact end_pureF (fun (r : Trc) => (.agg (Enc.cells (r : Trc)) : AV)) h (a := .agg [(ownAV (List.length (j1.l : List En)) (Enc.cellsL (j1.l : List En))), .raw (.int .u8 j1.e.k), .raw (.int .i64 j1.e.c)]) rfl (show okTrimL _ _ = true from (okTrimL_cons (okTrim_own (Enc.cloL _)) (by kernel_rfl))) (show AV.agg (stripL _) = _ from congrArg AV.agg (stripL_cons (strip_o (Enc.cloL _) Enc.z) (stripL_cons rfl (stripL_cons rfl rfl))))
def F_rdiffer (fuel : Nat) (a : Trc) (b : Trc) : Option (Int × Bool) :=
  (cutE (τ := Unit) (loopE (β := Int) (fun s1 => (cutE (τ := Unit) (bif (decide (s1 < (List.length a.l : Int))) then (some (Sum.inl ())) else (bif (decide (s1 < (List.length b.l : Int))) then (some (Sum.inl ())) else (some (Sum.inr (Sum.inr (Sum.inl ())))))) (fun j2 => (bif (decide (s1 ≥ (List.length a.l : Int))) then (some (Sum.inr (Sum.inr (s1, true)))) else (bif (decide (s1 ≥ (List.length b.l : Int))) then (some (Sum.inr (Sum.inr (s1, true)))) else (chk (0 ≤ s1 ∧ s1 < (List.length a.l : Int)) (letE (ix a.l s1) (fun x1 => (chk (0 ≤ s1 ∧ s1 < (List.length b.l : Int)) (letE (ix b.l s1) (fun x2 => (bif (decide (x1 ≠ x2)) then (some (Sum.inr (Sum.inr (s1, true)))) else (chk (-9223372036854775808 ≤ (s1 + 1) ∧ (s1 + 1) < 9223372036854775808) (some (Sum.inl ((s1 + 1))))))))))))))))) fuel (0)) (fun j1 => (bif (decide (a.e ≠ b.e)) then (some ((List.length a.l : Int), true)) else (some (0, false)))))
theorem ent40 : Ent Tryz.prog 40 := enters_of Tryz.func40 (by kernel_rfl) rfl
set_option maxRecDepth 100000 in
set_option maxHeartbeats 4000000 in
theorem rdiffer_sh (fuel : Nat) (a : Trc) (b : Trc) (r : (Int × Bool)) (h : F_rdiffer fuel a b = some r) : Pure (ITP Tryz.prog) Tryz.prog 40 [.agg (Enc.cells (a : Trc)), .agg (Enc.cells (b : Trc))] (.tup [.raw (.int .i64 r.1), .raw (.bool r.2)]) := by
 obtain ⟨d, hd⟩ : ∃ d, Tryz.f40.body = some d := ⟨_, rfl⟩
 refine pure_of mix Tryz.func40 hd ent40 ?_
 cases hd
 unfold F_rdiffer at h
 refine w_start (by dsimp only [abeginS, Tryz.f40, List.length_cons, List.length_nil, Nat.zero_add, Nat.reduceAdd, Nat.reduceSub, List.replicate, List.cons_append, List.nil_append]) (by dsimp only [St.empty]) ?_
 refine w_seq (w_region ?_)
 refine w_om (a := .ptr 0 0) (σ'' := ⟨[(34, (Enc.cells (a : Trc)))], [], [], 0, false⟩) ?_
 refine w_om (a := .ptr 1 0) (σ'' := ⟨[(34, (Enc.cells (a : Trc))), (34, (Enc.cells (b : Trc)))], [], [], 0, false⟩) ?_
 refine w_o (a := .raw (.int .i64 0)) ?_
 refine w_o (a := .raw (.bool false)) ?_
 refine w_cutF h [0, 1, 4, 5, 6, 7, 8, 9, 10, 11, 12, 13, 14, 15, 16, 17, 18, 19, 20, 21, 22, 23, 24, 25, 26, 27, 28, 29, 30, 31, 32, 33, 34, 35, 36, 37, 38, 39, 40, 41, 42, 43, 44, 45, 46, 47, 48, 49, 50, 51, 52, 53, 54] (fun j1 => []) (fun j1 => ⟨[(34, (Enc.cells (a : Trc))), (34, (Enc.cells (b : Trc)))], [], [], 0, false⟩) ?_ ?_
 intro or1 h hr1
 refine w_seq (w_region ?_)
 refine w_o (a := .raw (.int .i64 0)) ?_
 refine w_block ?_
 refine w_loopF h [0, 1, 4, 5, 6, 7, 8, 9, 10, 11, 12, 13, 14, 15, 16, 17, 18, 19, 20, 21, 22, 23, 24, 25, 26, 27, 28, 29, 30, 31, 32, 33, 34, 35, 36, 37, 38, 39, 40, 41, 42, 43, 44, 45, 46, 47, 48, 49, 50, 51, 52, 53, 54] (fun s1 => [(6, .raw (.int .i64 s1))]) (fun s1 => ⟨[(34, (Enc.cells (a : Trc))), (34, (Enc.cells (b : Trc)))], [], [], 0, false⟩) ?_ ?_
 exact wm_of (bl 55 76) (by kernel_rfl) (by kernel_rfl)
 intro s1 p1 h
 refine w_start (by dsimp only [setAll, topAll, List.foldl, List.set]) rfl ?_
 refine w_cutF h [7, 8, 9, 10, 11, 12, 13, 14, 15, 16, 17, 18] (fun j2 => []) (fun j2 => ⟨[(34, (Enc.cells (a : Trc))), (34, (Enc.cells (b : Trc)))], [], [], 0, false⟩) ?_ ?_
 intro or2 h hr2
 refine w_seq (w_region ?_)
 refine w_o (a := .raw (.int .i64 s1)) ?_
 refine w_o (a := .ptr 0 0) ?_
 refine w_o (a := .list (List.length (a.l : List En)) (Enc.cellsL (a.l : List En)) .none) ?_
 refine w_o (a := .raw (.int .i64 (List.length a.l : Int))) ?_
 refine w_o (a := .raw (.bool (decide (s1 < (List.length a.l : Int))))) ?_
 refine bif_e h (fun hc1 h => ?_) (fun hc1 h => ?_)
 refine w_o (a := .raw (.bool true)) (h := op_q (q_bool rfl hc1)) ?_
 refine w_po ?_
 refine w_po ?_
 refine w_po ?_
 refine w_po ?_
 refine w_po ?_
 refine w_o (a := .raw (.bool true)) ?_
 refine w_true rfl ?_
 refine cut_done (o := or2) () h ?_
 exact wm_of (bl 55 36028797018439807) (by kernel_rfl) (by kernel_rfl)
 refine w_o (a := .raw (.bool false)) (h := op_q (q_bool rfl hc1)) ?_
 refine w_met rfl rfl ?_
 refine w_o (a := .raw (.int .i64 s1)) ?_
 refine w_met rfl rfl ?_
 refine w_o (a := .ptr 1 0) ?_
 refine w_met rfl rfl ?_
 refine w_o (a := .list (List.length (b.l : List En)) (Enc.cellsL (b.l : List En)) .none) ?_
 refine w_met rfl rfl ?_
 refine w_o (a := .raw (.int .i64 (List.length b.l : Int))) ?_
 refine w_met rfl rfl ?_
 refine w_o (a := .raw (.bool (decide (s1 < (List.length b.l : Int))))) ?_
 refine w_o (a := .raw (.bool (decide (s1 < (List.length b.l : Int))))) ?_
 refine bif_e h (fun hc2 h => ?_) (fun hc2 h => ?_)
 refine w_condT hc2 rfl ?_
 refine cut_done (o := or2) () h ?_
 exact wm_of (bl 55 36028797018439807) (by kernel_rfl) (by kernel_rfl)
 refine w_condF hc2 rfl ?_
 replace h := cut_inr h hr2
 refine loop_exit h (fun h => ?_)
 refine cut_done (o := or1) () h ?_
 exact wm_of (bl 55 12) (by kernel_rfl) (by kernel_rfl)
 intro j2 h
 refine w_start (by dsimp only [setAll, topAll, List.foldl, List.set]) rfl ?_
 refine w_seq ?_
 refine w_block ?_
 refine w_seq ?_
 refine w_draw (k0 := 0) (id := 4) 23 (by kernel_rfl) (by kernel_rfl) ?_
 refine h_o (a := .raw (.int .i64 s1)) ?_
 refine h_o (a := .ptr 0 0) ?_
 refine h_o (a := .list (List.length (a.l : List En)) (Enc.cellsL (a.l : List En)) .none) ?_
 refine h_o (a := .raw (.int .i64 (List.length a.l : Int))) ?_
 refine h_o (a := .raw (.bool (decide (s1 ≥ (List.length a.l : Int))))) ?_
 refine bif_e h (fun hc3 h => ?_) (fun hc3 h => ?_)
 refine h_o (a := .raw (.bool true)) (h := q_bool rfl hc3) ?_
 refine h_po ?_
 refine h_po ?_
 refine h_po ?_
 refine h_po ?_
 refine h_po ?_
 refine h_o (a := .raw (.bool true)) ?_
 refine h_o (a := .raw (.bool true)) ?_
 refine h_po ?_
 refine h_po ?_
 refine h_po ?_
 refine h_po ?_
 refine h_po ?_
 refine h_po ?_
 refine h_po ?_
 refine h_po ?_
 refine h_po ?_
 refine h_po ?_
 refine h_end ?_
 refine w_po ?_
 refine w_o (a := .raw (.bool true)) ?_
 refine w_true rfl ?_
 refine w_seq (w_region ?_)
 refine w_o (a := .raw (.int .i64 s1)) ?_
 refine w_o (a := .raw (.int .i64 s1)) ?_
 refine w_o (a := .raw (.bool true)) ?_
 refine loop_exit h (fun h => ?_)
 replace h := cut_inr h hr1
 exact end_pureF (fun (r : (Int × Bool)) => (.tup [.raw (.int .i64 r.1), .raw (.bool r.2)] : AV)) h (a := .tup [.raw (.int .i64 s1), .raw (.bool true)]) rfl (show okTrimL _ _ = true from (by kernel_rfl)) (show AV.tup (stripL _) = _ from congrArg AV.tup (stripL_cons rfl (stripL_cons rfl rfl)))
 refine h_o (a := .raw (.bool false)) (h := q_bool rfl hc3) ?_
 refine h_met rfl rfl ?_
 refine h_o (a := .raw (.int .i64 s1)) ?_
 refine h_met rfl rfl ?_
 refine h_o (a := .ptr 1 0) ?_
 refine h_met rfl rfl ?_
 refine h_o (a := .list (List.length (b.l : List En)) (Enc.cellsL (b.l : List En)) .none) ?_
 refine h_met rfl rfl ?_
 refine h_o (a := .raw (.int .i64 (List.length b.l : Int))) ?_
 refine h_met rfl rfl ?_
 refine h_o (a := .raw (.bool (decide (s1 ≥ (List.length b.l : Int))))) ?_
 refine h_o (a := .raw (.bool (decide (s1 ≥ (List.length b.l : Int))))) ?_
 refine bif_e h (fun hc4 h => ?_) (fun hc4 h => ?_)
 refine h_o (a := .raw (.bool true)) (h := q_bool rfl hc4) ?_
 refine h_po ?_
 refine h_po ?_
 refine h_po ?_
 refine h_po ?_
 refine h_po ?_
 refine h_po ?_
 refine h_po ?_
 refine h_po ?_
 refine h_po ?_
 refine h_po ?_
 refine h_end ?_
 refine w_po ?_
 refine w_o (a := .raw (.bool true)) ?_
 refine w_true rfl ?_
 refine w_seq (w_region ?_)
 refine w_o (a := .raw (.int .i64 s1)) ?_
 refine w_o (a := .raw (.int .i64 s1)) ?_
 refine w_o (a := .raw (.bool true)) ?_
 refine loop_exit h (fun h => ?_)
 replace h := cut_inr h hr1
 exact end_pureF (fun (r : (Int × Bool)) => (.tup [.raw (.int .i64 r.1), .raw (.bool r.2)] : AV)) h (a := .tup [.raw (.int .i64 s1), .raw (.bool true)]) rfl (show okTrimL _ _ = true from (by kernel_rfl)) (show AV.tup (stripL _) = _ from congrArg AV.tup (stripL_cons rfl (stripL_cons rfl rfl)))
 refine h_o (a := .raw (.bool false)) (h := q_bool rfl hc4) ?_
 refine h_met rfl rfl ?_
 refine h_o (a := .ptr 0 0) ?_
 refine h_met rfl rfl ?_
 refine h_o (a := .list (List.length (a.l : List En)) (Enc.cellsL (a.l : List En)) .none) ?_
 refine h_met rfl rfl ?_
 refine h_o (a := .raw (.int .i64 s1)) ?_
 refine h_met rfl rfl ?_
 obtain ⟨g1, h⟩ := chk_e h
 obtain ⟨x1, hx1, h⟩ := letE_e h
 refine h_o (a := .iptr (Enc.cells x1 ++ Enc.cellsL (List.drop (Int.toNat s1 + 1) a.l))) (h := by rw [← hx1]; exact (q_idx (α := En) (l := a.l) g1 rfl rfl rfl rfl rfl)) ?_
 refine h_met rfl rfl ?_
 refine h_o (a := .agg (Enc.cells (x1 : En))) ?_
 refine h_met rfl rfl ?_
 refine h_o (a := .ptr 1 0) ?_
 refine h_met rfl rfl ?_
 refine h_o (a := .list (List.length (b.l : List En)) (Enc.cellsL (b.l : List En)) .none) ?_
 refine h_met rfl rfl ?_
 refine h_o (a := .raw (.int .i64 s1)) ?_
 refine h_met rfl rfl ?_
 obtain ⟨g2, h⟩ := chk_e h
 obtain ⟨x2, hx2, h⟩ := letE_e h
 refine h_o (a := .iptr (Enc.cells x2 ++ Enc.cellsL (List.drop (Int.toNat s1 + 1) b.l))) (h := by rw [← hx2]; exact (q_idx (α := En) (l := b.l) g2 rfl rfl rfl rfl rfl)) ?_
 refine h_met rfl rfl ?_
 refine h_o (a := .agg (Enc.cells (x2 : En))) ?_
 refine h_end ?_
 refine w_met rfl rfl ?_
 refine w_run (.raw (.bool (decide (x1 ≠ x2)))) rfl rfl rfl (rs_neqEn91 x1 x2 rfl rfl rfl) (by dsimp only [aput, List.set]) ?_
 refine w_o (a := .raw (.bool (decide (x1 ≠ x2)))) ?_
 refine bif_e h (fun hc5 h => ?_) (fun hc5 h => ?_)
 refine w_condT hc5 rfl ?_
 refine w_seq (w_region ?_)
 refine w_o (a := .raw (.int .i64 s1)) ?_
 refine w_o (a := .raw (.int .i64 s1)) ?_
 refine w_o (a := .raw (.bool true)) ?_
 refine loop_exit h (fun h => ?_)
 replace h := cut_inr h hr1
 exact end_pureF (fun (r : (Int × Bool)) => (.tup [.raw (.int .i64 r.1), .raw (.bool r.2)] : AV)) h (a := .tup [.raw (.int .i64 s1), .raw (.bool true)]) rfl (show okTrimL _ _ = true from (by kernel_rfl)) (show AV.tup (stripL _) = _ from congrArg AV.tup (stripL_cons rfl (stripL_cons rfl rfl)))
 refine w_condF hc5 rfl ?_
 refine w_region (k0 := 0) (id := 3) ?_
 refine w_o (a := .raw (.int .i64 s1)) ?_
 obtain ⟨g3, h⟩ := chk_e h
 refine w_o (a := .raw (.int .i64 (s1 + 1))) (h := op_q (q_add rfl rfl rfl rfl g3.1 g3.2)) ?_
 refine w_o (a := .raw (.int .i64 (s1 + 1))) ?_
 refine loop_next (p := p1) ((s1 + 1)) h ?_
 exact wm_of (bl 55 76) (by kernel_rfl) (by kernel_rfl)
 intro j1 h
 refine w_start (by dsimp only [setAll, topAll, List.foldl, List.set]) rfl ?_
 refine w_seq ?_
 refine w_seq (w_region ?_)
 refine w_o (a := .ptr 0 1) ?_
 refine w_o (a := .agg (Enc.cells (a.e : Ed))) ?_
 refine w_o (a := .ptr 1 1) ?_
 refine w_o (a := .agg (Enc.cells (b.e : Ed))) ?_
 refine w_run (.raw (.bool (decide (a.e ≠ b.e)))) rfl rfl rfl (rs_neqEd56 a.e b.e rfl rfl rfl) (by dsimp only [aput, List.set]) ?_
 refine bif_e h (fun hc6 h => ?_) (fun hc6 h => ?_)
 refine w_condT hc6 rfl ?_
 refine w_seq (w_region ?_)
 refine w_o (a := .ptr 0 0) ?_
 refine w_o (a := .list (List.length (a.l : List En)) (Enc.cellsL (a.l : List En)) .none) ?_
 refine w_o (a := .raw (.int .i64 (List.length a.l : Int))) ?_
 refine w_o (a := .raw (.int .i64 (List.length a.l : Int))) ?_
 refine w_o (a := .raw (.bool true)) ?_
 exact end_pureF (fun (r : (Int × Bool)) => (.tup [.raw (.int .i64 r.1), .raw (.bool r.2)] : AV)) h (a := .tup [.raw (.int .i64 (List.length a.l : Int)), .raw (.bool true)]) rfl (show okTrimL _ _ = true from (by kernel_rfl)) (show AV.tup (stripL _) = _ from congrArg AV.tup (stripL_cons rfl (stripL_cons rfl rfl)))
 refine w_condF hc6 rfl ?_
 refine w_seq (w_region ?_)
 refine w_o (a := .raw (.int .i64 0)) ?_
 refine w_o (a := .raw (.bool false)) ?_
 exact end_pureF (fun (r : (Int × Bool)) => (.tup [.raw (.int .i64 r.1), .raw (.bool r.2)] : AV)) h (a := .tup [.raw (.int .i64 0), .raw (.bool false)]) rfl (show okTrimL _ _ = true from (by kernel_rfl)) (show AV.tup (stripL _) = _ from congrArg AV.tup (stripL_cons rfl (stripL_cons rfl rfl)))
def F_rsame (fuel : Nat) (a : Trc) (b : Trc) : Option Bool :=
  (bindE (F_rdiffer fuel a b) (fun x1 => (some (!x1.2))))
theorem ent33 : Ent Tryz.prog 33 := enters_of Tryz.func33 (by kernel_rfl) rfl
set_option maxRecDepth 100000 in
set_option maxHeartbeats 4000000 in
theorem rsame_sh (fuel : Nat) (a : Trc) (b : Trc) (r : Bool) (h : F_rsame fuel a b = some r) : Pure (ITP Tryz.prog) Tryz.prog 33 [.agg (Enc.cells (a : Trc)), .agg (Enc.cells (b : Trc))] (.raw (.bool r)) := by
 obtain ⟨d, hd⟩ : ∃ d, Tryz.f33.body = some d := ⟨_, rfl⟩
 refine pure_of mix Tryz.func33 hd ent33 ?_
 cases hd
 unfold F_rsame at h
 refine w_start (by dsimp only [abeginS, Tryz.f33, List.length_cons, List.length_nil, Nat.zero_add, Nat.reduceAdd, Nat.reduceSub, List.replicate, List.cons_append, List.nil_append]) (by dsimp only [St.empty]) ?_
 refine w_seq (w_region ?_)
 refine w_om (a := .ptr 0 0) (σ'' := ⟨[(34, (Enc.cells (a : Trc)))], [], [], 0, false⟩) ?_
 refine w_om (a := .ptr 1 0) (σ'' := ⟨[(34, (Enc.cells (a : Trc))), (34, (Enc.cells (b : Trc)))], [], [], 0, false⟩) ?_
 refine w_o (a := .raw (.bool false)) ?_
 refine w_seq (w_region ?_)
 refine w_o (a := .agg (Enc.cells (a : Trc))) ?_
 refine w_o (a := .agg (Enc.cells (b : Trc))) ?_
 obtain ⟨x1, hx1, h⟩ := bindE_e h
 refine w_callc (args' := [.agg (Enc.cells (a : Trc)), .agg (Enc.cells (b : Trc))]) (r := .tup [.raw (.int .i64 x1.1), .raw (.bool x1.2)]) (rdiffer_sh fuel a b x1 hx1) rfl rfl (stripL_cons (strip_c (clo_agg (Enc.clo _))) (stripL_cons (strip_c (clo_agg (Enc.clo _))) rfl)) (okTrimL_cons (okTrim_clo _ _ (clo_agg (Enc.clo _))) (okTrimL_cons (okTrim_clo _ _ (clo_agg (Enc.clo _))) rfl)) (by dsimp only [aput, List.set]) ?_
 refine w_o (a := .tup [.raw (.int .i64 x1.1), .raw (.bool x1.2)]) ?_
 refine w_o (a := .raw (.int .i64 x1.1)) ?_
 refine w_o (a := .raw (.bool x1.2)) ?_
 refine w_o (a := .raw (.int .i64 x1.1)) ?_
 refine w_o (a := .raw (.bool x1.2)) ?_
 refine w_seq (w_region ?_)
 refine w_o (a := .raw (.bool x1.2)) ?_
 refine w_o (a := .raw (.bool (!x1.2))) ?_
 refine w_o (a := .raw (.bool (!x1.2))) ?_
 exact end_pureF (fun (r : Bool) => (.raw (.bool r) : AV)) h (a := .raw (.bool (!x1.2))) rfl rfl rfl
end Go.Ab

