/-
  schedule: Cut, Join, Ends.
-/
import Derived.Test.YtblibgbakbhlkaaGreatDoorZvSt
import Derived.Test.YtblibgbakbhlkaaGreatDoorZvPz
import Derived.Test.YtblibgbakbhlkaaGreatDoorZvCl
import Derived.Test.YtblibgbakbhlkaaGreatDoorZvW3
import Derived.Test.YtblibgbakbhlkaaGreatDoorZdAs
import Derived.Test.YtblibgbakbhlkaaGreatDoorZdQp
set_option linter.unusedSimpArgs false
set_option linter.unusedVariables false
namespace Go.Ab
open Go Go.RowKit Go.Fwd Go.Proofs
def F_neg1 (n : Int) : Option Bool :=
  (some (decide (n < 0)))
theorem ent59 : Ent Tryz.prog 59 := enters_of Tryz.func59 (by kernel_rfl) rfl
set_option maxRecDepth 100000 in
set_option maxHeartbeats 4000000 in
theorem neg1_sh (n : Int) (r : Bool) (h : F_neg1 n = some r) : Pure (ITP Tryz.prog) Tryz.prog 59 [.raw (.int .i64 n)] (.raw (.bool r)) := by
 obtain ⟨d, hd⟩ : ∃ d, Tryz.f59.body = some d := ⟨_, rfl⟩
 refine pure_of mix Tryz.func59 hd ent59 ?_
 cases hd
 unfold F_neg1 at h
 refine w_start (by dsimp only [abeginS, Tryz.f59, List.length_cons, List.length_nil, Nat.zero_add, Nat.reduceAdd, Nat.reduceSub, List.replicate, List.cons_append, List.nil_append]) (by dsimp only [St.empty]) ?_
 refine w_seq (w_region ?_)
 refine w_o (a := .b false) ?_
 refine w_seq (w_region ?_)
 refine w_mv ?_
 refine w_o (a := .b (decide (n < 0))) ?_
 refine w_mv ?_
 exact end_b h
def F_ixneg (fuel : Nat) (l : (List Int)) : Option Int :=
  (cutE (τ := Unit) (loopE (β := Int) (fun s1 => (bif (decide (s1 < (List.length l : Int))) then (chk (0 ≤ s1 ∧ s1 < (List.length l : Int)) (bindE (F_neg1 (ix l s1)) (fun x1 => (bif x1 then (some (Sum.inr (Sum.inr s1))) else (chk (-9223372036854775808 ≤ (s1 + 1) ∧ (s1 + 1) < 9223372036854775808) (some (Sum.inl ((s1 + 1))))))))) else (some (Sum.inr (Sum.inl ()))))) fuel (0)) (fun j1 => (some (-1))))
theorem ent83 : Ent Tryz.prog 83 := enters_of Tryz.func83 (by kernel_rfl) rfl
set_option maxRecDepth 100000 in
set_option maxHeartbeats 4000000 in
theorem ixneg_sh (fuel : Nat) (l : (List Int)) (r : Int) (h : F_ixneg fuel l = some r) : Pure (ITP Tryz.prog) Tryz.prog 83 [.list (List.length (l : List Int)) (Enc.cellsL (l : List Int)) .none, .clos 59 []] (.raw (.int .i64 r)) := by
 obtain ⟨d, hd⟩ : ∃ d, Tryz.f83.body = some d := ⟨_, rfl⟩
 refine pure_of mix Tryz.func83 hd ent83 ?_
 cases hd
 unfold F_ixneg at h
 refine w_start (by dsimp only [abeginS, Tryz.f83, List.length_cons, List.length_nil, Nat.zero_add, Nat.reduceAdd, Nat.reduceSub, List.replicate, List.cons_append, List.nil_append]) (by dsimp only [St.empty]) ?_
 refine w_seq (w_region ?_)
 refine w_o (a := .i 0) ?_
 refine w_cutF h [0, 1, 2, 3, 4, 5, 6, 7, 8, 9, 10, 11, 12, 13, 14, 15, 16, 17, 18] (fun j1 => []) (fun j1 => ⟨[], [], [], 0, false⟩) ?_ ?_
 intro or1 h hr1
 refine w_seq (w_region ?_)
 refine w_mv ?_
 refine w_o (a := .i (List.length l : Int)) ?_
 refine w_o (a := .i 0) ?_
 refine w_block ?_
 refine w_loopF h [2, 3, 4, 5, 6, 8, 9, 10, 11, 12, 13, 14, 15, 16, 17, 18] (fun s1 => [(8, .i s1)]) (fun s1 => ⟨[], [], [], 0, false⟩) ?_ ?_
 exact wm_of (bl 19 387) (by kernel_rfl) (by kernel_rfl)
 intro s1 p1 h
 refine w_start (by dsimp only [setAll, topAll, List.foldl, List.set]) rfl ?_
 refine w_seq (w_region ?_)
 refine w_o (a := .b (decide (s1 < (List.length l : Int)))) ?_
 refine w_seq ?_
 refine bif_e h (fun hc1 h => ?_) (fun hc1 h => ?_)
 refine w_condT hc1 rfl ?_
 refine w_seq ?_
 refine w_block ?_
 refine w_seq (w_region ?_)
 refine w_mv ?_
 refine w_mv ?_
 refine w_seq (w_region ?_)
 refine w_mv ?_
 refine w_mv ?_
 refine w_mv ?_
 obtain ⟨g1, h⟩ := chk_e h
 refine w_o (a := .iptr (Enc.cells (ix l s1) ++ Enc.cellsL (List.drop (Int.toNat s1 + 1) l))) (h := op_q (q_idx (α := Int) (l := l) g1 rfl rfl rfl rfl rfl)) ?_
 refine w_o (a := .i (ix l s1)) ?_
 obtain ⟨x1, hx1, h⟩ := bindE_e h
 refine w_callc (args' := [.i (ix l s1)]) (r := .b x1) (neg1_sh (ix l s1) x1 hx1) rfl rfl (stripL_cons rfl rfl) (by kernel_rfl) (by dsimp only [aput, List.set]) ?_
 refine bif_e h (fun hc2 h => ?_) (fun hc2 h => ?_)
 refine w_condT hc2 rfl ?_
 refine w_seq (w_region ?_)
 refine w_mv ?_
 refine w_mv ?_
 refine loop_exit h (fun h => ?_)
 replace h := cut_inr h hr1
 exact end_i h
 refine w_condF hc2 rfl ?_
 refine w_region (k0 := 0) (id := 6) ?_
 obtain ⟨g2, h⟩ := chk_e h
 refine w_o (a := .i (s1 + 1)) (h := op_q (q_add rfl rfl rfl rfl g2.1 g2.2)) ?_
 refine w_mv ?_
 refine loop_next (p := p1) ((s1 + 1)) h ?_
 exact wm_of (bl 19 387) (by kernel_rfl) (by kernel_rfl)
 refine w_condF hc1 rfl ?_
 refine loop_exit h (fun h => ?_)
 refine cut_done (o := or1) () h ?_
 exact wm_of (bl 19 0) (by kernel_rfl) (by kernel_rfl)
 intro j1 h
 refine w_start (by dsimp only [setAll, topAll, List.foldl, List.set]) rfl ?_
 refine w_seq (w_region ?_)
 refine w_o (a := .i (-1)) ?_
 exact end_i h
def F_hasneg (fuel : Nat) (l : (List Int)) : Option Bool :=
  (bindE (F_ixneg fuel l) (fun x1 => (some (decide (x1 ≥ 0)))))
theorem ent58 : Ent Tryz.prog 58 := enters_of Tryz.func58 (by kernel_rfl) rfl
set_option maxRecDepth 100000 in
set_option maxHeartbeats 4000000 in
theorem hasneg_sh (fuel : Nat) (l : (List Int)) (r : Bool) (h : F_hasneg fuel l = some r) : Pure (ITP Tryz.prog) Tryz.prog 58 [.list (List.length (l : List Int)) (Enc.cellsL (l : List Int)) .none, .clos 59 []] (.raw (.bool r)) := by
 obtain ⟨d, hd⟩ : ∃ d, Tryz.f58.body = some d := ⟨_, rfl⟩
 refine pure_of mix Tryz.func58 hd ent58 ?_
 cases hd
 unfold F_hasneg at h
 refine w_start (by dsimp only [abeginS, Tryz.f58, List.length_cons, List.length_nil, Nat.zero_add, Nat.reduceAdd, Nat.reduceSub, List.replicate, List.cons_append, List.nil_append]) (by dsimp only [St.empty]) ?_
 refine w_seq (w_region ?_)
 refine w_o (a := .b false) ?_
 refine w_seq (w_region ?_)
 refine w_mv ?_
 refine w_mv ?_
 obtain ⟨x1, hx1, h⟩ := bindE_e h
 refine w_callc (args' := [.list (List.length (l : List Int)) (Enc.cellsL (l : List Int)) .none, .clos 59 []]) (r := .i x1) (ixneg_sh fuel l x1 hx1) rfl rfl (stripL_cons (strip_l (Enc.cloL _)) (stripL_cons (show AV.clos _ (stripL _) = _ from congrArg (AV.clos _) rfl) rfl)) (okTrimL_cons (okTrim_l (Enc.cloL _)) (okTrimL_cons (show okTrimL _ _ = true from rfl) rfl)) (by dsimp only [aput, List.set]) ?_
 refine w_o (a := .b (decide (x1 ≥ 0))) ?_
 refine w_mv ?_
 exact end_b h
def F_cut (fuel : Nat) (l : (List Ev)) (z : (List Int)) : Option ((List Ck) × Int) :=
  (bindE (F_check fuel l) (fun x1 => (bif (x1.2 != 0) then (some (([] : (List Ck)), x1.2)) else (bif (decide ((List.length z : Int) > 4096)) then (some (([] : (List Ck)), 5)) else (bindE (F_hasneg fuel z) (fun x2 => (bif x2 then (some (([] : (List Ck)), 2)) else (cutE (τ := (List Int) × (List Ck)) (chk ((List.length l : Int) < 9223372036854775807) (cutE (rangeE (β := (List Int) × (List Ck)) (fun s1 w1 => (cutE (τ := Unit) (chk (0 ≤ (0 : Int) ∧ (0 : Int) < (List.length w1 : Int)) (letE (ix w1 (0 : Int)) (fun x3 => (bif (x3.k != 1) then (cutE (τ := (List Ck)) (loopE (β := Int × (List Ck)) (fun s2 => (bif (decide (s2.1 < (List.length w1 : Int))) then (chk (0 ≤ s2.1 ∧ s2.1 < (List.length w1 : Int)) (letE (ix w1 s2.1) (fun x4 => (chk ((List.length s2.2 + List.length [(Ck.mk x4.k [])]) * 32 ≤ 140737488355328) (chk (-9223372036854775808 ≤ (s2.1 + 1) ∧ (s2.1 + 1) < 9223372036854775808) (some (Sum.inl ((s2.1 + 1), (s2.2 ++ [(Ck.mk x4.k [])]))))))))) else (some (Sum.inr (Sum.inl (s2.2)))))) fuel (0, s1.2)) (fun j3 => (some (Sum.inr (Sum.inl (s1.1, j3)))))) else (some (Sum.inl ())))))) (fun j2 => (bindE (F_bytes fuel w1) (fun x5 => (loopE (β := (List UInt8) × (List Int) × (List Ck)) (fun s3 => (bif (decide ((List.length s3.1 : Int) > 0)) then (cutE (τ := Int × (List Int)) (bif (decide ((List.length s3.2.1 : Int) > 0)) then (chk (0 ≤ (0 : Int) ∧ (0 : Int) < (List.length s3.2.1 : Int)) (chk (0 ≤ (1 : Int) ∧ (1 : Int) ≤ (List.length s3.2.1 : Int) ∧ (List.length s3.2.1 : Int) ≤ (List.length s3.2.1 : Int)) (some (Sum.inl ((min (List.length s3.1 : Int) (ix s3.2.1 (0 : Int))), (sub s3.2.1 (1 : Int) (List.length s3.2.1 : Int))))))) else (some (Sum.inl ((List.length s3.1 : Int), s3.2.1)))) (fun j4 => (chk (0 ≤ 0 ∧ 0 ≤ j4.1 ∧ j4.1 ≤ (List.length s3.1 : Int)) (chk (List.length (sub s3.1 0 j4.1) ≤ 140737488355328) (letE (sub s3.1 0 j4.1) (fun x6 => (chk ((List.length s3.2.2 + List.length [(Ck.mk 1 x6)]) * 32 ≤ 140737488355328) (chk (0 ≤ j4.1 ∧ j4.1 ≤ (List.length s3.1 : Int) ∧ (List.length s3.1 : Int) ≤ (List.length s3.1 : Int)) (some (Sum.inl ((sub s3.1 j4.1 (List.length s3.1 : Int)), j4.2, (s3.2.2 ++ [(Ck.mk 1 x6)])))))))))))) else (some (Sum.inr (Sum.inl (s3.2.1, s3.2.2)))))) fuel (x5, s1.1, s1.2))))))) (runs l) (z, ([] : List Ck))) (fun s1 => (some (Sum.inl (s1.1, s1.2)))))) (fun j1 => (some (j1.2, 0)))))))))))
theorem ent18 : Ent Tryz.prog 18 := enters_of Tryz.func18 (by kernel_rfl) rfl
set_option maxRecDepth 100000 in
set_option maxHeartbeats 4000000 in
theorem cut_sh (fuel : Nat) (l : (List Ev)) (z : (List Int)) (r : ((List Ck) × Int)) (h : F_cut fuel l z = some r) : Pure (ITP Tryz.prog) Tryz.prog 18 [.list (List.length (l : List Ev)) (Enc.cellsL (l : List Ev)) .none, .list (List.length (z : List Int)) (Enc.cellsL (z : List Int)) .none] (.tup [.list (List.length (r.1 : List Ck)) (Enc.cellsL (r.1 : List Ck)) .none, .raw (.int .i64 r.2)]) := by
 obtain ⟨d, hd⟩ : ∃ d, Tryz.f18.body = some d := ⟨_, rfl⟩
 refine pure_of mix Tryz.func18 hd ent18 ?_
 cases hd
 unfold F_cut at h
 refine w_start (by dsimp only [abeginS, Tryz.f18, List.length_cons, List.length_nil, Nat.zero_add, Nat.reduceAdd, Nat.reduceSub, List.replicate, List.cons_append, List.nil_append]) (by dsimp only [St.empty]) ?_
 refine w_seq (w_region ?_)
 refine w_om (a := .ptr 0 0) (σ'' := ⟨[(23, [.list (List.length (z : List Int)) (Enc.cellsL (z : List Int)) .none])], [], [], 0, false⟩) ?_
 refine w_o (a := .list 0 [] .full) ?_
 refine w_o (a := .i 0) ?_
 refine w_seq ?_
 refine w_seq (w_region ?_)
 refine w_mv ?_
 obtain ⟨x1, hx1, h⟩ := bindE_e h
 refine w_callc (args' := [.list (List.length (l : List Ev)) (Enc.cellsL (l : List Ev)) .none]) (r := .tup [.i x1.1, .i x1.2]) (check_sh fuel l x1 hx1) rfl rfl (stripL_cons (strip_l (Enc.cloL _)) rfl) (okTrimL_cons (okTrim_l (Enc.cloL _)) rfl) (by dsimp only [aput, List.set]) ?_
 refine w_mv ?_
 refine w_ex ?_
 refine w_ex ?_
 refine w_mv ?_
 refine w_mv ?_
 refine w_seq (w_region ?_)
 refine w_mv ?_
 refine w_o (a := .b (x1.2 != 0)) ?_
 refine bif_e h (fun hc1 h => ?_) (fun hc1 h => ?_)
 refine w_condT hc1 rfl ?_
 refine w_seq (w_region ?_)
 refine w_mv ?_
 refine w_o (a := .list 0 [] .full) ?_
 refine w_mv ?_
 exact end_pureF (fun (r : ((List Ck) × Int)) => (.tup [.list (List.length (r.1 : List Ck)) (Enc.cellsL (r.1 : List Ck)) .none, .i r.2] : AV)) h (a := .tup [.list 0 [] .full, .i x1.2]) rfl (show okTrimL _ _ = true from (by kernel_rfl)) (show AV.tup (stripL _) = _ from congrArg AV.tup (stripL_cons rfl (stripL_cons rfl rfl)))
 refine w_condF hc1 rfl ?_
 refine w_seq ?_
 refine w_seq (w_region ?_)
 refine w_o (a := .list (List.length (z : List Int)) (Enc.cellsL (z : List Int)) .none) ?_
 refine w_o (a := .i (List.length z : Int)) ?_
 refine w_o (a := .b (decide ((List.length z : Int) > 4096))) ?_
 refine bif_e h (fun hc2 h => ?_) (fun hc2 h => ?_)
 refine w_condT hc2 rfl ?_
 refine w_seq (w_region ?_)
 refine w_o (a := .list 0 [] .full) ?_
 refine w_o (a := .i 5) ?_
 exact end_pureF (fun (r : ((List Ck) × Int)) => (.tup [.list (List.length (r.1 : List Ck)) (Enc.cellsL (r.1 : List Ck)) .none, .i r.2] : AV)) h (a := .tup [.list 0 [] .full, .i 5]) rfl (show okTrimL _ _ = true from (by kernel_rfl)) (show AV.tup (stripL _) = _ from congrArg AV.tup (stripL_cons rfl (stripL_cons rfl rfl)))
 refine w_condF hc2 rfl ?_
 refine w_seq ?_
 refine w_seq (w_region ?_)
 refine w_o (a := .list (List.length (z : List Int)) (Enc.cellsL (z : List Int)) .none) ?_
 obtain ⟨x2, hx2, h⟩ := bindE_e h
 refine w_callc (args' := [.list (List.length (z : List Int)) (Enc.cellsL (z : List Int)) .none, .clos 59 []]) (r := .b x2) (hasneg_sh fuel z x2 hx2) rfl rfl (stripL_cons (strip_l (Enc.cloL _)) (stripL_cons (show AV.clos _ (stripL _) = _ from congrArg (AV.clos _) rfl) rfl)) (okTrimL_cons (okTrim_l (Enc.cloL _)) (okTrimL_cons (show okTrimL _ _ = true from rfl) rfl)) (by dsimp only [aput, List.set]) ?_
 refine bif_e h (fun hc3 h => ?_) (fun hc3 h => ?_)
 refine w_condT hc3 rfl ?_
 refine w_seq (w_region ?_)
 refine w_o (a := .list 0 [] .full) ?_
 refine w_o (a := .i 2) ?_
 exact end_pureF (fun (r : ((List Ck) × Int)) => (.tup [.list (List.length (r.1 : List Ck)) (Enc.cellsL (r.1 : List Ck)) .none, .i r.2] : AV)) h (a := .tup [.list 0 [] .full, .i 2]) rfl (show okTrimL _ _ = true from (by kernel_rfl)) (show AV.tup (stripL _) = _ from congrArg AV.tup (stripL_cons rfl (stripL_cons rfl rfl)))
 refine w_condF hc3 rfl ?_
 refine w_seq (w_region ?_)
 refine w_om (a := .ptr 1 0) (σ'' := ⟨[(23, [.list (List.length (z : List Int)) (Enc.cellsL (z : List Int)) .none]), (31, [.list (List.length (([] : List Ck) : List Ck)) (Enc.cellsL (([] : List Ck) : List Ck)) .full])], [], [], 0, false⟩) ?_
 refine w_cutF h [0, 1, 2, 3, 4, 5, 6, 7, 9, 10, 11, 12, 13, 14, 15, 16, 17, 18, 19, 20, 21, 22, 23, 24, 25, 26, 27, 28, 29, 30, 31, 32, 33, 34, 35, 36, 37, 38, 39, 40, 41, 42, 43, 44, 45, 46, 47, 48, 49, 50, 51, 52, 53, 54, 55, 56, 57, 58, 59, 60, 61, 62, 63, 64, 65, 66, 67, 68, 69, 70, 71, 72, 73, 74, 75, 76] (fun j1 => []) (fun j1 => (ownSt [(23, [.list (List.length (j1.1 : List Int)) (Enc.cellsL (j1.1 : List Int)) .none]), (31, [(ownAV (List.length (j1.2 : List Ck)) (Enc.cellsL (j1.2 : List Ck)))])] 30 (List.length (j1.2 : List Ck)) 2)) ?_ ?_
 intro or1 h hr1
 refine w_seq (w_region ?_)
 refine w_mv ?_
 refine w_snd (r := .clos 75 [.ptr 2 0]) (σ' := ⟨[(23, [.list (List.length (z : List Int)) (Enc.cellsL (z : List Int)) .none]), (31, [.list (List.length (([] : List Ck) : List Ck)) (Enc.cellsL (([] : List Ck) : List Ck)) .full]), (22, [.list (List.length (l : List Ev)) (Enc.cellsL (l : List Ev)) .none])], [], [], 0, false⟩) (stretches_snd l 2 _ rfl) rfl rfl ⟨rfl, rfl⟩ (by dsimp only [aput, List.set]) ?_
 refine w_block ?_
 obtain ⟨g1, h⟩ := chk_e h
 refine w_rangeB h rowE (fun s1 => (ownSt [(23, [.list (List.length (s1.1 : List Int)) (Enc.cellsL (s1.1 : List Int)) .none]), (31, [(ownAV (List.length (s1.2 : List Ck)) (Enc.cellsL (s1.2 : List Ck)))])] 30 (List.length (s1.2 : List Ck)) 2)) (S' := [.list (List.length (l : List Ev)) (Enc.cellsL (l : List Ev)) .none, .list (List.length (z : List Int)) (Enc.cellsL (z : List Int)) .none, .raw undef, .ptr 0 0, .list 0 [] .full, .i 0, .i x1.1, .i x1.2, .ptr 1 0, .raw undef, .raw undef, .raw undef, .raw undef, .raw undef, .tup [.i x1.1, .i x1.2], .list (List.length (l : List Ev)) (Enc.cellsL (l : List Ev)) .none, .tup [.i x1.1, .i x1.2], .i x1.1, .i x1.2, .i x1.2, .b (x1.2 != 0), .raw undef, .list (List.length (z : List Int)) (Enc.cellsL (z : List Int)) .none, .i (List.length z : Int), .b (decide ((List.length z : Int) > 4096)), .list (List.length (z : List Int)) (Enc.cellsL (z : List Int)) .none, .b x2, .list (List.length (l : List Ev)) (Enc.cellsL (l : List Ev)) .none, .top, .raw undef, .raw undef, .raw undef, .raw undef, .raw undef, .raw undef, .raw undef, .raw undef, .raw undef, .raw undef, .raw undef, .raw undef, .raw undef, .raw undef, .raw undef, .raw undef, .raw undef, .raw undef, .raw undef, .raw undef, .raw undef, .raw undef, .raw undef, .raw undef, .raw undef, .raw undef, .raw undef, .raw undef, .raw undef, .raw undef, .raw undef, .raw undef, .raw undef, .raw undef, .raw undef, .raw undef, .raw undef, .raw undef, .raw undef, .raw undef, .raw undef, .raw undef, .raw undef, .raw undef, .raw undef, .raw undef, .raw undef, .raw undef]) 2 [true, true, true, true, true, true, true, true, true, true, true, true, true, true, true, true, true, true, true, true, true, true, true, true, true, true, true, true, false, true, true, true, true, true, true, true, true, true, true, true, true, true, true, true, true, true, true, true, true, true, true, true, true, true, true, true, true, true, true, true, true, true, true, true, true, true, true, true, true, true, true, true, true, true, true, true, true] (strb_it l g1) ent75 rfl rfl (List.cons_ne_nil _ _) rfl (Nat.le_of_ble_eq_true rfl) rfl (stripL_cons (strip_l (Enc.cloL _)) rfl) (okTrimL_cons (okTrim_l (Enc.cloL _)) rfl) (okSt_of (okB_cons (okTrimL_cons (okTrim_l (Enc.cloL _)) rfl) (okB_cons (okTrimL_cons (okTrim_l (Enc.cloL _)) rfl) rfl))) (by kernel_rfl) (by exact (okTrimL_cons (okTrim_l (Enc.cloL _)) (okTrimL_cons (okTrim_l (Enc.cloL _)) (okTrimL_cons rfl (okTrimL_cons (by decide) (okTrimL_cons rfl (okTrimL_cons rfl (okTrimL_cons rfl (okTrimL_cons rfl (okTrimL_cons (by decide) (okTrimL_cons rfl (okTrimL_cons rfl (okTrimL_cons rfl (okTrimL_cons rfl (okTrimL_cons rfl (okTrimL_cons (show okTrimL _ _ = true from (by kernel_rfl)) (okTrimL_cons (okTrim_l (Enc.cloL _)) (okTrimL_cons (show okTrimL _ _ = true from (by kernel_rfl)) (okTrimL_cons rfl (okTrimL_cons rfl (okTrimL_cons rfl (okTrimL_cons rfl (okTrimL_cons rfl (okTrimL_cons (okTrim_l (Enc.cloL _)) (okTrimL_cons rfl (okTrimL_cons rfl (okTrimL_cons (okTrim_l (Enc.cloL _)) (okTrimL_cons rfl (okTrimL_cons (okTrim_l (Enc.cloL _)) (by kernel_rfl)))))))))))))))))))))))))))))) (fun _ => rfl) rfl rfl ?_ ?_
 intro s1 w1 p1 h
 refine w_start (by dsimp only [aputs, List.zip, List.zipWith, List.foldl, List.set, Array.toList, rowE]) rfl ?_
 refine w_region (k0 := 0) (id := 10) ?_
 refine w_mv ?_
 refine w_block ?_
 refine w_cutF h [0, 1, 2, 4, 5, 6, 7, 10, 11, 12, 13, 14, 15, 16, 17, 18, 19, 20, 21, 22, 23, 24, 25, 26, 27, 28, 29, 30, 31, 32, 33, 34, 35, 36, 37, 38, 39, 40, 41, 42, 43, 44, 45, 46, 47, 48, 49, 50, 51, 52, 53, 54, 55, 56, 57, 58, 59, 60, 61, 62, 63, 64, 65, 66, 67, 68, 69, 70, 71, 72, 73, 74, 75, 76] (fun j2 => []) (fun j2 => (ownSt [(23, [.list (List.length (s1.1 : List Int)) (Enc.cellsL (s1.1 : List Int)) .none]), (31, [(ownAV (List.length (s1.2 : List Ck)) (Enc.cellsL (s1.2 : List Ck)))])] 30 (List.length (s1.2 : List Ck)) 2)) ?_ ?_
 intro or2 h hr2
 refine w_seq (w_region ?_)
 refine w_mv ?_
 obtain ⟨g2, h⟩ := chk_e h
 obtain ⟨x3, hx3, h⟩ := letE_e h
 refine w_o (a := .iptr (Enc.cells x3 ++ Enc.cellsL (List.drop (Int.toNat (0 : Int) + 1) w1))) (h := op_q (by rw [← hx3]; exact (q_idx (α := Ev) (l := w1) g2 rfl rfl rfl rfl rfl))) ?_
 refine w_o (a := .iptr (List.drop 0 (Enc.cells x3 ++ Enc.cellsL (List.drop (Int.toNat (0 : Int) + 1) w1)))) ?_
 refine w_o (a := .u x3.k) ?_
 refine w_o (a := .b (x3.k != 1)) ?_
 refine bif_e h (fun hc4 h => ?_) (fun hc4 h => ?_)
 refine w_condT hc4 rfl ?_
 refine w_cutF h [0, 1, 2, 3, 4, 5, 6, 7, 9, 10, 11, 12, 13, 14, 15, 16, 17, 18, 19, 20, 21, 22, 23, 24, 25, 26, 27, 28, 29, 30, 31, 32, 33, 34, 35, 36, 37, 38, 39, 40, 41, 42, 43, 44, 45, 46, 47, 48, 49, 50, 51, 52, 53, 54, 55, 56, 57, 58, 59, 60, 61, 62, 63, 64, 65, 66, 67, 68, 69, 70, 71, 72, 73, 74, 75, 76] (fun j3 => []) (fun j3 => (ownSt [(23, [.list (List.length (s1.1 : List Int)) (Enc.cellsL (s1.1 : List Int)) .none]), (31, [(ownAV (List.length (j3 : List Ck)) (Enc.cellsL (j3 : List Ck)))])] 30 (List.length (j3 : List Ck)) 2)) ?_ ?_
 intro or3 h hr3
 refine w_seq (w_region ?_)
 refine w_mv ?_
 refine w_o (a := .i (List.length w1 : Int)) ?_
 refine w_o (a := .i 0) ?_
 refine w_block ?_
 refine w_loopF h [0, 1, 2, 3, 4, 5, 6, 7, 9, 10, 11, 12, 13, 14, 15, 16, 17, 18, 19, 20, 21, 22, 23, 24, 25, 26, 27, 28, 29, 30, 31, 32, 33, 34, 37, 38, 39, 40, 41, 42, 43, 44, 45, 46, 47, 48, 49, 50, 51, 52, 53, 54, 55, 56, 57, 58, 59, 60, 61, 62, 63, 64, 65, 66, 67, 68, 69, 70, 71, 72, 73, 74, 75, 76] (fun s2 => [(37, .i s2.1)]) (fun s2 => (ownSt [(23, [.list (List.length (s1.1 : List Int)) (Enc.cellsL (s1.1 : List Int)) .none]), (31, [(ownAV (List.length (s2.2 : List Ck)) (Enc.cellsL (s2.2 : List Ck)))])] 30 (List.length (s2.2 : List Ck)) 2)) ?_ ?_
 exact wm_of (bl 77 240518168832) (by kernel_rfl) (by kernel_rfl)
 intro s2 p2 h
 refine w_start (by dsimp only [setAll, topAll, List.foldl, List.set]) rfl ?_
 refine w_seq (w_region ?_)
 refine w_o (a := .b (decide (s2.1 < (List.length w1 : Int)))) ?_
 refine w_seq ?_
 refine bif_e h (fun hc5 h => ?_) (fun hc5 h => ?_)
 refine w_condT hc5 rfl ?_
 refine w_seq ?_
 refine w_block ?_
 refine w_seq (w_region ?_)
 obtain ⟨g3, h⟩ := chk_e h
 obtain ⟨x4, hx4, h⟩ := letE_e h
 refine w_o (a := .iptr (Enc.cells x4 ++ Enc.cellsL (List.drop (Int.toNat s2.1 + 1) w1))) (h := op_q (by rw [← hx4]; exact (q_idx (α := Ev) (l := w1) g3 rfl rfl rfl rfl rfl))) ?_
 refine w_o (a := .agg (Enc.cells (x4 : Ev))) ?_
 refine w_om (a := .ptr 2 0) (σ'' := (ownSt [(23, [.list (List.length (s1.1 : List Int)) (Enc.cellsL (s1.1 : List Int)) .none]), (31, [(ownAV (List.length (s2.2 : List Ck)) (Enc.cellsL (s2.2 : List Ck)))]), (27, (Enc.cells ((Ev.mk 0 0) : Ev)))] 30 (List.length (s2.2 : List Ck)) 2)) ?_
 refine w_om (σ'' := (ownSt [(23, [.list (List.length (s1.1 : List Int)) (Enc.cellsL (s1.1 : List Int)) .none]), (31, [(ownAV (List.length (s2.2 : List Ck)) (Enc.cellsL (s2.2 : List Ck)))]), (27, (Enc.cells (x4 : Ev)))] 30 (List.length (s2.2 : List Ck)) 2)) (h := op_storeW (n := 2) rfl rfl rfl rfl rfl rfl rfl rfl (by decide)) ?_
 refine w_region (k0 := 0) (id := 15) ?_
 refine w_o (a := (ownAV (List.length (s2.2 : List Ck)) (Enc.cellsL (s2.2 : List Ck)))) ?_
 refine w_o (a := .ptr 2 0) ?_
 refine w_o (a := .u x4.k) ?_
 refine w_qs (.agg (Enc.cells ((Ck.mk x4.k []) : Ck))) (a0 := (ckR (Ck.mk x4.k []) .full)) rfl rfl rfl (by kernel_rfl) (strip_ckR _ _) (by dsimp only [aput, List.set]) ?_
 refine w_o (a := .list (List.length ([(Ck.mk x4.k [])] : List Ck)) (Enc.cellsL ([(Ck.mk x4.k [])] : List Ck)) .full) (h := op_q (q_lit (α := Ck) (l := [(Ck.mk x4.k [])]) (cs := Enc.cells ((Ck.mk x4.k []) : Ck) ++ []) rfl (by rw [Enc.cons, Enc.nil]))) ?_
 obtain ⟨g4, h⟩ := chk_e h
 refine w_opm (a := (ownAV (List.length ((s2.2 ++ [(Ck.mk x4.k [])]) : List Ck)) (Enc.cellsL ((s2.2 ++ [(Ck.mk x4.k [])]) : List Ck)))) (σ'' := (ownSt [(23, [.list (List.length (s1.1 : List Int)) (Enc.cellsL (s1.1 : List Int)) .none]), (31, [(ownAV (List.length (s2.2 : List Ck)) (Enc.cellsL (s2.2 : List Ck)))]), (27, (Enc.cells (x4 : Ev)))] 30 (List.length ((s2.2 ++ [(Ck.mk x4.k [])]) : List Ck)) 2)) rfl rfl rfl (op_append rfl rfl rfl rfl (append_ownE (α := Ck) (bs := [(23, [.list (List.length (s1.1 : List Int)) (Enc.cellsL (s1.1 : List Int)) .none]), (31, [(ownAV (List.length (s2.2 : List Ck)) (Enc.cellsL (s2.2 : List Ck)))]), (27, (Enc.cells (x4 : Ev)))]) (a := s2.2) (b := [(Ck.mk x4.k [])]) g4 rfl rfl rfl rfl rfl ⟨rfl, by decide⟩)) (by dsimp only [aput, List.set]) rfl ?_
 refine w_om (σ'' := (ownSt [(23, [.list (List.length (s1.1 : List Int)) (Enc.cellsL (s1.1 : List Int)) .none]), (31, [(ownAV (List.length ((s2.2 ++ [(Ck.mk x4.k [])]) : List Ck)) (Enc.cellsL ((s2.2 ++ [(Ck.mk x4.k [])]) : List Ck)))]), (27, (Enc.cells (x4 : Ev)))] 30 (List.length ((s2.2 ++ [(Ck.mk x4.k [])]) : List Ck)) 2)) (h := op_storeO rfl rfl rfl rfl rfl (Nat.le_of_ble_eq_true rfl)) ?_
 refine w_region (k0 := 0) (id := 16) ?_
 obtain ⟨g5, h⟩ := chk_e h
 refine w_o (a := .i (s2.1 + 1)) (h := op_q (q_add rfl rfl rfl rfl g5.1 g5.2)) ?_
 refine w_mv ?_
 refine loop_next (p := p2) ((s2.1 + 1), (s2.2 ++ [(Ck.mk x4.k [])])) h ?_
 exact wm_trim (bl 77 240518168832) 2 (by kernel_rfl) (Nat.le_of_ble_eq_true rfl) (okSt_of (okB_cons (okTrimL_cons (okTrim_l (Enc.cloL _)) rfl) (okB_cons (okTrimL_cons (okTrim_own (Enc.cloL _)) rfl) rfl))) (by dsimp only [setAll, topAll, List.foldl, List.set]; exact (okTrimL_cons rfl (okTrimL_cons rfl (okTrimL_cons rfl (okTrimL_cons rfl (okTrimL_cons rfl (okTrimL_cons rfl (okTrimL_cons rfl (okTrimL_cons rfl (okTrimL_cons (by decide) (okTrimL_cons rfl (okTrimL_cons rfl (okTrimL_cons rfl (okTrimL_cons rfl (okTrimL_cons rfl (okTrimL_cons rfl (okTrimL_cons rfl (okTrimL_cons rfl (okTrimL_cons rfl (okTrimL_cons rfl (okTrimL_cons rfl (okTrimL_cons rfl (okTrimL_cons rfl (okTrimL_cons rfl (okTrimL_cons rfl (okTrimL_cons rfl (okTrimL_cons rfl (okTrimL_cons rfl (okTrimL_cons rfl (okTrimL_cons rfl (okTrimL_cons rfl (okTrimL_cons rfl (okTrimL_cons rfl (okTrimL_cons rfl (okTrimL_cons rfl (okTrimL_cons rfl (okTrimL_cons (okTrim_l (Enc.cloL _)) (by kernel_rfl)))))))))))))))))))))))))))))))))))))) (by kernel_rfl)
 refine w_condF hc5 rfl ?_
 refine loop_exit h (fun h => ?_)
 refine cut_done (o := or3) (s2.2) h ?_
 exact wm_of (bl 77 256) (by kernel_rfl) (by kernel_rfl)
 intro j3 h
 refine w_start (by dsimp only [setAll, topAll, List.foldl, List.set]) rfl ?_
 replace h := cut_inr h hr2
 exact range_next (p := p1) (s1.1, j3) h (okSt_of (okB_cons (okTrimL_cons (okTrim_l (Enc.cloL _)) rfl) (okB_cons (okTrimL_cons (okTrim_own (Enc.cloL _)) rfl) rfl))) (by kernel_rfl)
 refine w_condF hc4 rfl ?_
 refine cut_done (o := or2) () h ?_
 exact wm_of (bl 77 776) (by kernel_rfl) (by kernel_rfl)
 intro j2 h
 refine w_start (by dsimp only [setAll, topAll, List.foldl, List.set]) rfl ?_
 refine w_seq (w_region ?_)
 refine w_mv ?_
 obtain ⟨x5, hx5, h⟩ := bindE_e h
 refine w_callc (args' := [.list (List.length (w1 : List Ev)) (Enc.cellsL (w1 : List Ev)) .none]) (r := .list (List.length (x5 : List UInt8)) (Enc.cellsL (x5 : List UInt8)) .none) (bytes_sh fuel w1 x5 hx5) rfl rfl (stripL_cons (strip_l (Enc.cloL _)) rfl) (okTrimL_cons (okTrim_l (Enc.cloL _)) rfl) (by dsimp only [aput, List.set]) ?_
 refine w_mv ?_
 refine w_block ?_
 refine w_loopF h [9, 12, 13, 48, 49, 50, 51, 52, 53, 54, 55, 56, 57, 58, 59, 60, 61, 62, 63, 64, 65, 66, 67, 68, 69, 70, 71, 72, 73, 74, 75] (fun s3 => [(12, .list (List.length (s3.1 : List UInt8)) (Enc.cellsL (s3.1 : List UInt8)) .none)]) (fun s3 => (ownSt [(23, [.list (List.length (s3.2.1 : List Int)) (Enc.cellsL (s3.2.1 : List Int)) .none]), (31, [(ownAV (List.length (s3.2.2 : List Ck)) (Enc.cellsL (s3.2.2 : List Ck)))])] 30 (List.length (s3.2.2 : List Ck)) 2)) ?_ ?_
 exact wm_of (bl 77 75557864007389300121087) (by kernel_rfl) (by kernel_rfl)
 intro s3 p3 h
 refine w_start (by dsimp only [setAll, topAll, List.foldl, List.set]) rfl ?_
 refine w_seq ?_
 refine w_seq (w_region ?_)
 refine w_mv ?_
 refine w_o (a := .i (List.length s3.1 : Int)) ?_
 refine w_o (a := .b (decide ((List.length s3.1 : Int) > 0))) ?_
 refine bif_e h (fun hc6 h => ?_) (fun hc6 h => ?_)
 refine w_condT hc6 rfl ?_
 refine w_block ?_
 refine w_seq (w_region ?_)
 refine w_mv ?_
 refine w_o (a := .i (List.length s3.1 : Int)) ?_
 refine w_mv ?_
 refine w_cutF h [13, 50, 51, 52, 53, 54, 55, 56, 57, 58, 59, 60, 61, 62, 63, 64] (fun j4 => [(13, .i j4.1)]) (fun j4 => (ownSt [(23, [.list (List.length (j4.2 : List Int)) (Enc.cellsL (j4.2 : List Int)) .none]), (31, [(ownAV (List.length (s3.2.2 : List Ck)) (Enc.cellsL (s3.2.2 : List Ck)))])] 30 (List.length (s3.2.2 : List Ck)) 2)) ?_ ?_
 intro or4 h hr4
 refine w_seq (w_region ?_)
 refine w_o (a := .list (List.length (s3.2.1 : List Int)) (Enc.cellsL (s3.2.1 : List Int)) .none) ?_
 refine w_o (a := .i (List.length s3.2.1 : Int)) ?_
 refine w_o (a := .b (decide ((List.length s3.2.1 : Int) > 0))) ?_
 refine bif_e h (fun hc7 h => ?_) (fun hc7 h => ?_)
 refine w_condT hc7 rfl ?_
 refine w_seq (w_region ?_)
 refine w_mv ?_
 refine w_o (a := .list (List.length (s3.2.1 : List Int)) (Enc.cellsL (s3.2.1 : List Int)) .none) ?_
 obtain ⟨g6, h⟩ := chk_e h
 refine w_o (a := .iptr (Enc.cells (ix s3.2.1 (0 : Int)) ++ Enc.cellsL (List.drop (Int.toNat (0 : Int) + 1) s3.2.1))) (h := op_q (q_idx (α := Int) (l := s3.2.1) g6 rfl rfl rfl rfl rfl)) ?_
 refine w_o (a := .i (ix s3.2.1 (0 : Int))) ?_
 refine w_o (a := .i (min (List.length s3.1 : Int) (ix s3.2.1 (0 : Int)))) (h := op_q (q_min rfl rfl rfl rfl rfl)) ?_
 refine w_mv ?_
 refine w_region (k0 := 0) (id := 22) ?_
 refine w_o (a := .list (List.length (s3.2.1 : List Int)) (Enc.cellsL (s3.2.1 : List Int)) .none) ?_
 obtain ⟨g7, h⟩ := chk_e h
 refine w_qs (.list (List.length ((sub s3.2.1 (1 : Int) (List.length s3.2.1 : Int)) : List Int)) (Enc.cellsL ((sub s3.2.1 (1 : Int) (List.length s3.2.1 : Int)) : List Int)) .none) rfl rfl rfl (q_subL_ (α := Int) (l := s3.2.1) g7 rfl rfl rfl rfl rfl) (strip_sub _ _ _) (by dsimp only [aput, List.set]) ?_
 refine w_om (σ'' := (ownSt [(23, [.list (List.length ((sub s3.2.1 (1 : Int) (List.length s3.2.1 : Int)) : List Int)) (Enc.cellsL ((sub s3.2.1 (1 : Int) (List.length s3.2.1 : Int)) : List Int)) .none]), (31, [(ownAV (List.length (s3.2.2 : List Ck)) (Enc.cellsL (s3.2.2 : List Ck)))])] 30 (List.length (s3.2.2 : List Ck)) 2)) (h := op_storeW (n := 1) rfl rfl rfl rfl rfl rfl rfl rfl (by decide)) ?_
 refine cut_done (o := or4) ((min (List.length s3.1 : Int) (ix s3.2.1 (0 : Int))), (sub s3.2.1 (1 : Int) (List.length s3.2.1 : Int))) h ?_
 exact wm_of (bl 77 151078835089581134577663) (by kernel_rfl) (by kernel_rfl)
 refine w_condF hc7 rfl ?_
 refine cut_done (o := or4) ((List.length s3.1 : Int), s3.2.1) h ?_
 exact wm_of (bl 77 151078835089581134577663) (by kernel_rfl) (by kernel_rfl)
 intro j4 h
 refine w_start (by dsimp only [setAll, topAll, List.foldl, List.set]) rfl ?_
 refine w_seq ?_
 refine w_draw (k0 := 0) (id := 23) 7 (by kernel_rfl) (by kernel_rfl) ?_
 refine h_o (a := (ownAV (List.length (s3.2.2 : List Ck)) (Enc.cellsL (s3.2.2 : List Ck)))) ?_
 refine h_mv ?_
 refine h_mv ?_
 obtain ⟨g8, h⟩ := chk_e h
 refine h_opS (a := .list (List.length ((sub s3.1 0 j4.1) : List UInt8)) (Enc.cellsL ((sub s3.1 0 j4.1) : List UInt8)) .none) rfl rfl rfl (q_sub_H (α := UInt8) (l := s3.1) g8 rfl rfl rfl rfl rfl) (strip_sub _ _ _) (by dsimp only [aput, List.set]) ?_
 obtain ⟨g9, h⟩ := chk_e h
 obtain ⟨x6, hx6, h⟩ := letE_e h
 refine h_call (args' := [.list (List.length ((sub s3.1 0 j4.1) : List UInt8)) (Enc.cellsL ((sub s3.1 0 j4.1) : List UInt8)) .none]) (r := .list (List.length (x6 : List UInt8)) (Enc.cellsL (x6 : List UInt8)) .none) (by rw [← hx6]; exact (bclone_pure (sub s3.1 0 j4.1) g9)) rfl rfl rfl (stripL_cons (strip_l (Enc.cloL _)) rfl) (okTrimL_cons (okTrim_l (Enc.cloL _)) rfl) (by dsimp only [aput, List.set]) ?_
 refine h_opS (a := .agg (Enc.cells ((Ck.mk 1 x6) : Ck))) (a0 := (ckR (Ck.mk 1 x6) .none)) rfl rfl rfl (by kernel_rfl) (strip_ckR _ _) (by dsimp only [aput, List.set]) ?_
 refine h_o (a := .list (List.length ([(Ck.mk 1 x6)] : List Ck)) (Enc.cellsL ([(Ck.mk 1 x6)] : List Ck)) .full) (h := q_lit (α := Ck) (l := [(Ck.mk 1 x6)]) (cs := Enc.cells ((Ck.mk 1 x6) : Ck) ++ []) rfl (by rw [Enc.cons, Enc.nil])) ?_
 refine h_end ?_
 obtain ⟨g10, h⟩ := chk_e h
 refine w_opm (a := (ownAV (List.length ((s3.2.2 ++ [(Ck.mk 1 x6)]) : List Ck)) (Enc.cellsL ((s3.2.2 ++ [(Ck.mk 1 x6)]) : List Ck)))) (σ'' := (ownSt [(23, [.list (List.length (j4.2 : List Int)) (Enc.cellsL (j4.2 : List Int)) .none]), (31, [(ownAV (List.length (s3.2.2 : List Ck)) (Enc.cellsL (s3.2.2 : List Ck)))])] 30 (List.length ((s3.2.2 ++ [(Ck.mk 1 x6)]) : List Ck)) 2)) rfl rfl rfl (op_append rfl rfl rfl rfl (append_ownE (α := Ck) (bs := [(23, [.list (List.length (j4.2 : List Int)) (Enc.cellsL (j4.2 : List Int)) .none]), (31, [(ownAV (List.length (s3.2.2 : List Ck)) (Enc.cellsL (s3.2.2 : List Ck)))])]) (a := s3.2.2) (b := [(Ck.mk 1 x6)]) g10 rfl rfl rfl rfl rfl ⟨rfl, by decide⟩)) (by dsimp only [aput, List.set]) rfl ?_
 refine w_om (σ'' := (ownSt [(23, [.list (List.length (j4.2 : List Int)) (Enc.cellsL (j4.2 : List Int)) .none]), (31, [(ownAV (List.length ((s3.2.2 ++ [(Ck.mk 1 x6)]) : List Ck)) (Enc.cellsL ((s3.2.2 ++ [(Ck.mk 1 x6)]) : List Ck)))])] 30 (List.length ((s3.2.2 ++ [(Ck.mk 1 x6)]) : List Ck)) 2)) (h := op_storeO rfl rfl rfl rfl rfl (Nat.le_of_ble_eq_true rfl)) ?_
 refine w_region (k0 := 0) (id := 24) ?_
 refine w_mv ?_
 refine w_mv ?_
 obtain ⟨g11, h⟩ := chk_e h
 refine w_qs (.list (List.length ((sub s3.1 j4.1 (List.length s3.1 : Int)) : List UInt8)) (Enc.cellsL ((sub s3.1 j4.1 (List.length s3.1 : Int)) : List UInt8)) .none) rfl rfl rfl (q_subL_ (α := UInt8) (l := s3.1) g11 rfl rfl rfl rfl rfl) (strip_sub _ _ _) (by dsimp only [aput, List.set]) ?_
 refine w_mv ?_
 refine loop_next (p := p3) ((sub s3.1 j4.1 (List.length s3.1 : Int)), j4.2, (s3.2.2 ++ [(Ck.mk 1 x6)])) h ?_
 exact wm_of (bl 77 75557864007389300121087) (by kernel_rfl) (by kernel_rfl)
 refine w_condF hc6 rfl ?_
 refine loop_exit h (fun h => ?_)
 exact range_next (p := p1) (s3.2.1, s3.2.2) h (okSt_of (okB_cons (okTrimL_cons (okTrim_l (Enc.cloL _)) rfl) (okB_cons (okTrimL_cons (okTrim_own (Enc.cloL _)) rfl) rfl))) (by kernel_rfl)
 intro s1 h
 refine cut_done (o := or1) (s1.1, s1.2) h ?_
 exact wm_of (bl 77 256) (by kernel_rfl) (by kernel_rfl)
 intro j1 h
 refine w_start (by dsimp only [setAll, topAll, List.foldl, List.set]) rfl ?_
 refine w_seq (w_region ?_)
 refine w_o (a := (ownAV (List.length (j1.2 : List Ck)) (Enc.cellsL (j1.2 : List Ck)))) ?_
 refine w_mv ?_
 refine w_o (a := .i 0) ?_
 exact end_pureF (fun (r : ((List Ck) × Int)) => (.tup [.list (List.length (r.1 : List Ck)) (Enc.cellsL (r.1 : List Ck)) .none, .i r.2] : AV)) h (a := .tup [(ownAV (List.length (j1.2 : List Ck)) (Enc.cellsL (j1.2 : List Ck))), .i 0]) rfl (show okTrimL _ _ = true from (okTrimL_cons (okTrim_own (Enc.cloL _)) (by kernel_rfl))) (show AV.tup (stripL _) = _ from congrArg AV.tup (stripL_cons (strip_o (Enc.cloL _) Enc.z) (stripL_cons rfl rfl)))
def F_join (fuel : Nat) (l : (List Ck)) : Option ((List Ev) × Int × Int) :=
  (bif (decide ((List.length l : Int) > 8192)) then (some (([] : (List Ev)), (-1), 5)) else (cutE (τ := Unit) (loopE (β := Int × Int) (fun s1 => (bif (decide (s1.2 < (List.length l : Int))) then (chk (0 ≤ s1.2 ∧ s1.2 < (List.length l : Int)) (letE (ix l s1.2) (fun x1 => (chk (-9223372036854775808 ≤ (s1.1 + (List.length x1.l : Int)) ∧ (s1.1 + (List.length x1.l : Int)) < 9223372036854775808) (cutE (τ := Int) (bif (x1.k != 1) then (chk (-9223372036854775808 ≤ ((s1.1 + (List.length x1.l : Int)) + 1) ∧ ((s1.1 + (List.length x1.l : Int)) + 1) < 9223372036854775808) (some (Sum.inl (((s1.1 + (List.length x1.l : Int)) + 1))))) else (some (Sum.inl ((s1.1 + (List.length x1.l : Int)))))) (fun j2 => (bif (decide (j2 > 4096)) then (some (Sum.inr (Sum.inr (([] : (List Ev)), (-1), 5)))) else (chk (-9223372036854775808 ≤ (s1.2 + 1) ∧ (s1.2 + 1) < 9223372036854775808) (some (Sum.inl (j2, (s1.2 + 1)))))))))))) else (some (Sum.inr (Sum.inl ()))))) fuel (0, 0)) (fun j1 => (cutE (τ := (List Ev)) (loopE (β := (List Ev) × Bool × Int) (fun s2 => (bif (decide (s2.2.2 < (List.length l : Int))) then (cutE (τ := (List Ev) × Bool) (chk (0 ≤ s2.2.2 ∧ s2.2.2 < (List.length l : Int)) (letE (ix l s2.2.2) (fun x2 => (bif (x2.k != 1) then (bif (decide ((List.length x2.l : Int) > 0)) then (some (Sum.inr (Sum.inr (Sum.inr (([] : (List Ev)), s2.2.2, 320))))) else (bindE (F_right (Ev.mk x2.k 0) s2.2.1) (fun x3 => (bif (!x3) then (some (Sum.inr (Sum.inr (Sum.inr (([] : (List Ev)), s2.2.2, 320))))) else (chk ((List.length s2.1 + List.length [(Ev.mk x2.k 0)]) * 2 ≤ 140737488355328) (bif s2.2.1 then (some (Sum.inl ((s2.1 ++ [(Ev.mk x2.k 0)]), true))) else (some (Sum.inl ((s2.1 ++ [(Ev.mk x2.k 0)]), (x2.k == 3)))))))))) else (loopE (β := (List Ev) × Int) (fun s3 => (bif (decide (s3.2 < (List.length x2.l : Int))) then (chk (0 ≤ s3.2 ∧ s3.2 < (List.length x2.l : Int)) (bif s2.2.1 then (some (Sum.inr (Sum.inr (Sum.inr (Sum.inr (([] : (List Ev)), s2.2.2, 320)))))) else (chk ((List.length s3.1 + List.length [(Ev.mk 1 ((((ix x2.l s3.2)).toNat : Nat) : Int))]) * 2 ≤ 140737488355328) (chk (-9223372036854775808 ≤ (s3.2 + 1) ∧ (s3.2 + 1) < 9223372036854775808) (some (Sum.inl ((s3.1 ++ [(Ev.mk 1 ((((ix x2.l s3.2)).toNat : Nat) : Int))]), (s3.2 + 1)))))))) else (some (Sum.inr (Sum.inl (s3.1, s2.2.1)))))) fuel (s2.1, 0)))))) (fun j4 => (chk (-9223372036854775808 ≤ (s2.2.2 + 1) ∧ (s2.2.2 + 1) < 9223372036854775808) (some (Sum.inl (j4.1, j4.2, (s2.2.2 + 1))))))) else (some (Sum.inr (Sum.inl (s2.1)))))) fuel (([] : (List Ev)), false, 0)) (fun j3 => (some (j3, (-1), 0)))))))
theorem ent11 : Ent Tryz.prog 11 := enters_of Tryz.func11 (by kernel_rfl) rfl
set_option maxRecDepth 100000 in
set_option maxHeartbeats 4000000 in
theorem join_sh (fuel : Nat) (l : (List Ck)) (r : ((List Ev) × Int × Int)) (h : F_join fuel l = some r) : Pure (ITP Tryz.prog) Tryz.prog 11 [.list (List.length (l : List Ck)) (Enc.cellsL (l : List Ck)) .none] (.tup [.list (List.length (r.1 : List Ev)) (Enc.cellsL (r.1 : List Ev)) .none, .raw (.int .i64 r.2.1), .raw (.int .i64 r.2.2)]) := by
 obtain ⟨d, hd⟩ : ∃ d, Tryz.f11.body = some d := ⟨_, rfl⟩
 refine pure_of mix Tryz.func11 hd ent11 ?_
 cases hd
 unfold F_join at h
 refine w_start (by dsimp only [abeginS, Tryz.f11, List.length_cons, List.length_nil, Nat.zero_add, Nat.reduceAdd, Nat.reduceSub, List.replicate, List.cons_append, List.nil_append]) (by dsimp only [St.empty]) ?_
 refine w_seq (w_region ?_)
 refine w_o (a := .list 0 [] .full) ?_
 refine w_o (a := .i 0) ?_
 refine w_o (a := .i 0) ?_
 refine w_seq ?_
 refine w_seq (w_region ?_)
 refine w_mv ?_
 refine w_o (a := .i (List.length l : Int)) ?_
 refine w_o (a := .b (decide ((List.length l : Int) > 8192))) ?_
 refine bif_e h (fun hc1 h => ?_) (fun hc1 h => ?_)
 refine w_condT hc1 rfl ?_
 refine w_seq (w_region ?_)
 refine w_o (a := .list 0 [] .full) ?_
 refine w_o (a := .i (-1)) ?_
 refine w_o (a := .i 5) ?_
 exact end_pureF (fun (r : ((List Ev) × Int × Int)) => (.tup [.list (List.length (r.1 : List Ev)) (Enc.cellsL (r.1 : List Ev)) .none, .i r.2.1, .i r.2.2] : AV)) h (a := .tup [.list 0 [] .full, .i (-1), .i 5]) rfl (show okTrimL _ _ = true from (by kernel_rfl)) (show AV.tup (stripL _) = _ from congrArg AV.tup (stripL_cons rfl (stripL_cons rfl (stripL_cons rfl rfl))))
 refine w_condF hc1 rfl ?_
 refine w_seq (w_region ?_)
 refine w_o (a := .i 0) ?_
 refine w_cutF h [1, 2, 3, 4, 5, 6, 7, 8, 9, 10, 11, 12, 13, 14, 15, 16, 17, 18, 19, 20, 21, 22, 23, 24, 25, 26, 27, 28, 29, 30, 31, 32, 33, 34, 35, 36, 37, 38, 39, 40, 41, 42, 43, 44, 45, 46, 47, 48, 49, 50, 51, 52, 53, 54, 55, 56, 57, 58, 59, 60, 61, 62, 63, 64, 65, 66, 67, 68, 69, 70, 71, 72, 73, 74, 75, 76, 77, 78, 79, 80, 81, 82, 83, 84, 85, 86, 87] (fun j1 => []) (fun j1 => ⟨[], [], [], 0, false⟩) ?_ ?_
 intro or1 h hr1
 refine w_seq (w_region ?_)
 refine w_mv ?_
 refine w_o (a := .i (List.length l : Int)) ?_
 refine w_o (a := .i 0) ?_
 refine w_block ?_
 refine w_loopF h [1, 2, 3, 4, 5, 6, 7, 8, 9, 10, 11, 12, 13, 14, 15, 16, 19, 20, 21, 22, 23, 24, 25, 26, 27, 28, 29, 30, 31, 32, 33, 34, 35, 36, 37, 38, 39, 40, 41, 42, 43, 44, 45, 46, 47, 48, 49, 50, 51, 52, 53, 54, 55, 56, 57, 58, 59, 60, 61, 62, 63, 64, 65, 66, 67, 68, 69, 70, 71, 72, 73, 74, 75, 76, 77, 78, 79, 80, 81, 82, 83, 84, 85, 86, 87] (fun s1 => [(5, .i s1.1), (19, .i s1.2)]) (fun s1 => ⟨[], [], [], 0, false⟩) ?_ ?_
 exact wm_of (bl 88 917537) (by kernel_rfl) (by kernel_rfl)
 intro s1 p1 h
 refine w_start (by dsimp only [setAll, topAll, List.foldl, List.set]) rfl ?_
 refine w_seq (w_region ?_)
 refine w_o (a := .b (decide (s1.2 < (List.length l : Int)))) ?_
 refine w_seq ?_
 refine bif_e h (fun hc2 h => ?_) (fun hc2 h => ?_)
 refine w_condT hc2 rfl ?_
 refine w_seq ?_
 refine w_block ?_
 refine w_seq (w_region ?_)
 obtain ⟨g1, h⟩ := chk_e h
 obtain ⟨x1, hx1, h⟩ := letE_e h
 refine w_o (a := .iptr (Enc.cells x1 ++ Enc.cellsL (List.drop (Int.toNat s1.2 + 1) l))) (h := op_q (by rw [← hx1]; exact (q_idx (α := Ck) (l := l) g1 rfl rfl rfl rfl rfl))) ?_
 refine w_o (a := .agg (Enc.cells (x1 : Ck))) ?_
 refine w_om (a := .ptr 0 0) (σ'' := ⟨[(30, [.u 0, .list 0 [] .full])], [], [], 0, false⟩) ?_
 refine w_om (σ'' := ⟨[(30, (Enc.cells (x1 : Ck)))], [], [], 0, false⟩) (h := op_storeW (n := 2) rfl rfl rfl rfl rfl rfl rfl rfl (by decide)) ?_
 refine w_seq (w_region ?_)
 refine w_mv ?_
 refine w_o (a := .ptr 0 1) ?_
 refine w_o (a := .list (List.length (x1.l : List UInt8)) (Enc.cellsL (x1.l : List UInt8)) .none) ?_
 refine w_o (a := .i (List.length x1.l : Int)) ?_
 obtain ⟨g2, h⟩ := chk_e h
 refine w_o (a := .i (s1.1 + (List.length x1.l : Int))) (h := op_q (q_add rfl rfl rfl rfl g2.1 g2.2)) ?_
 refine w_mv ?_
 refine w_cutF h [5, 7, 20, 21, 22, 23, 24, 25, 26, 27, 28, 29, 30, 31, 32] (fun j2 => [(5, .i j2)]) (fun j2 => ⟨[(30, (Enc.cells (x1 : Ck)))], [], [], 0, false⟩) ?_ ?_
 intro or2 h hr2
 refine w_seq (w_region ?_)
 refine w_o (a := .ptr 0 0) ?_
 refine w_o (a := .u x1.k) ?_
 refine w_o (a := .b (x1.k != 1)) ?_
 refine bif_e h (fun hc3 h => ?_) (fun hc3 h => ?_)
 refine w_condT hc3 rfl ?_
 refine w_region (k0 := 0) (id := 9) ?_
 refine w_mv ?_
 obtain ⟨g3, h⟩ := chk_e h
 refine w_o (a := .i ((s1.1 + (List.length x1.l : Int)) + 1)) (h := op_q (q_add rfl rfl rfl rfl g3.1 g3.2)) ?_
 refine w_mv ?_
 refine cut_done (o := or2) (((s1.1 + (List.length x1.l : Int)) + 1)) h ?_
 exact wm_of (bl 88 309485009821345060135894911) (by kernel_rfl) (by kernel_rfl)
 refine w_condF hc3 rfl ?_
 refine cut_done (o := or2) ((s1.1 + (List.length x1.l : Int))) h ?_
 exact wm_of (bl 88 309485009821345060135894911) (by kernel_rfl) (by kernel_rfl)
 intro j2 h
 refine w_start (by dsimp only [setAll, topAll, List.foldl, List.set]) rfl ?_
 refine w_seq (w_region ?_)
 refine w_mv ?_
 refine w_o (a := .b (decide (j2 > 4096))) ?_
 refine bif_e h (fun hc4 h => ?_) (fun hc4 h => ?_)
 refine w_condT hc4 rfl ?_
 refine w_seq (w_region ?_)
 refine w_o (a := .list 0 [] .full) ?_
 refine w_o (a := .i (-1)) ?_
 refine w_o (a := .i 5) ?_
 refine loop_exit h (fun h => ?_)
 replace h := cut_inr h hr1
 exact end_pureF (fun (r : ((List Ev) × Int × Int)) => (.tup [.list (List.length (r.1 : List Ev)) (Enc.cellsL (r.1 : List Ev)) .none, .i r.2.1, .i r.2.2] : AV)) h (a := .tup [.list 0 [] .full, .i (-1), .i 5]) rfl (show okTrimL _ _ = true from (by kernel_rfl)) (show AV.tup (stripL _) = _ from congrArg AV.tup (stripL_cons rfl (stripL_cons rfl (stripL_cons rfl rfl))))
 refine w_condF hc4 rfl ?_
 refine w_region (k0 := 0) (id := 12) ?_
 obtain ⟨g4, h⟩ := chk_e h
 refine w_o (a := .i (s1.2 + 1)) (h := op_q (q_add rfl rfl rfl rfl g4.1 g4.2)) ?_
 refine w_mv ?_
 refine loop_next (p := p1) (j2, (s1.2 + 1)) h ?_
 exact wm_trim (bl 88 917537) 0 (by kernel_rfl) (Nat.le_of_ble_eq_true rfl) (okSt_of rfl) (by dsimp only [setAll, topAll, List.foldl, List.set]; exact (okTrimL_cons (okTrim_l (Enc.cloL _)) (okTrimL_cons rfl (okTrimL_cons rfl (okTrimL_cons rfl (okTrimL_cons rfl (okTrimL_cons rfl (okTrimL_cons rfl (okTrimL_cons rfl (okTrimL_cons rfl (okTrimL_cons rfl (okTrimL_cons rfl (okTrimL_cons rfl (okTrimL_cons rfl (okTrimL_cons rfl (okTrimL_cons rfl (okTrimL_cons rfl (okTrimL_cons rfl (okTrimL_cons (okTrim_l (Enc.cloL _)) (by kernel_rfl)))))))))))))))))))) (by kernel_rfl)
 refine w_condF hc2 rfl ?_
 refine loop_exit h (fun h => ?_)
 refine cut_done (o := or1) () h ?_
 exact wm_of (bl 88 1) (by kernel_rfl) (by kernel_rfl)
 intro j1 h
 refine w_start (by dsimp only [setAll, topAll, List.foldl, List.set]) rfl ?_
 refine w_seq (w_region ?_)
 refine w_o (a := .list 0 [] .full) ?_
 refine w_seq (w_region ?_)
 refine w_o (a := .b false) ?_
 refine w_cutF h [0, 2, 3, 4, 8, 9, 10, 11, 13, 36, 37, 38, 39, 40, 41, 42, 43, 44, 45, 46, 47, 48, 49, 50, 51, 52, 53, 54, 55, 56, 57, 58, 59, 60, 61, 62, 63, 64, 65, 66, 67, 68, 69, 70, 71, 72, 73, 74, 75, 76, 77, 78, 79, 80, 81, 82, 83, 84, 85, 86] (fun j3 => [(8, (ownAV (List.length (j3 : List Ev)) (Enc.cellsL (j3 : List Ev))))]) (fun j3 => (ownSt [] 27 (List.length (j3 : List Ev)) 2)) ?_ ?_
 intro or3 h hr3
 refine w_seq (w_region ?_)
 refine w_mv ?_
 refine w_o (a := .i (List.length l : Int)) ?_
 refine w_o (a := .i 0) ?_
 refine w_block ?_
 refine w_loopF h [0, 2, 3, 4, 8, 9, 10, 11, 13, 38, 39, 40, 41, 42, 43, 44, 45, 46, 47, 48, 49, 50, 51, 52, 53, 54, 55, 56, 57, 58, 59, 60, 61, 62, 63, 64, 65, 66, 67, 68, 69, 70, 71, 72, 73, 74, 75, 76, 77, 78, 79, 80, 81, 82, 83, 84, 85, 86] (fun s2 => [(8, (ownAV (List.length (s2.1 : List Ev)) (Enc.cellsL (s2.1 : List Ev)))), (9, .b s2.2.1), (38, .i s2.2.2)]) (fun s2 => (ownSt [] 27 (List.length (s2.1 : List Ev)) 2)) ?_ ?_
 exact wm_of (bl 88 154742504910673084118193122) (by kernel_rfl) (by kernel_rfl)
 intro s2 p2 h
 refine w_start (by dsimp only [setAll, topAll, List.foldl, List.set]) rfl ?_
 refine w_seq (w_region ?_)
 refine w_o (a := .b (decide (s2.2.2 < (List.length l : Int)))) ?_
 refine w_seq ?_
 refine bif_e h (fun hc5 h => ?_) (fun hc5 h => ?_)
 refine w_condT hc5 rfl ?_
 refine w_cutF h [2, 3, 4, 8, 9, 10, 11, 13, 39, 40, 41, 42, 43, 44, 45, 46, 47, 48, 49, 50, 51, 52, 53, 54, 55, 56, 57, 58, 59, 60, 61, 62, 63, 64, 65, 66, 67, 68, 69, 70, 71, 72, 73, 74, 75, 76, 77, 78, 79, 80, 81, 82, 83, 84, 85] (fun j4 => [(8, (ownAV (List.length (j4.1 : List Ev)) (Enc.cellsL (j4.1 : List Ev)))), (9, .b j4.2)]) (fun j4 => (ownSt [] 27 (List.length (j4.1 : List Ev)) 2)) ?_ ?_
 intro or4 h hr4
 refine w_block ?_
 refine w_seq (w_region ?_)
 refine w_mv ?_
 obtain ⟨g5, h⟩ := chk_e h
 obtain ⟨x2, hx2, h⟩ := letE_e h
 refine w_o (a := .iptr (Enc.cells x2 ++ Enc.cellsL (List.drop (Int.toNat s2.2.2 + 1) l))) (h := op_q (by rw [← hx2]; exact (q_idx (α := Ck) (l := l) g5 rfl rfl rfl rfl rfl))) ?_
 refine w_o (a := .agg (Enc.cells (x2 : Ck))) ?_
 refine w_om (a := .ptr 0 0) (σ'' := (ownSt [(30, [.u 0, .list 0 [] .full])] 27 (List.length (s2.1 : List Ev)) 2)) ?_
 refine w_mv ?_
 refine w_om (σ'' := (ownSt [(30, (Enc.cells (x2 : Ck)))] 27 (List.length (s2.1 : List Ev)) 2)) (h := op_storeW (n := 2) rfl rfl rfl rfl rfl rfl rfl rfl (by decide)) ?_
 refine w_seq ?_
 refine w_seq (w_region ?_)
 refine w_o (a := .ptr 0 0) ?_
 refine w_o (a := .u x2.k) ?_
 refine w_o (a := .b (x2.k != 1)) ?_
 refine bif_e h (fun hc6 h => ?_) (fun hc6 h => ?_)
 refine w_condT hc6 rfl ?_
 refine w_seq ?_
 refine w_seq (w_region ?_)
 refine w_o (a := .ptr 0 1) ?_
 refine w_o (a := .list (List.length (x2.l : List UInt8)) (Enc.cellsL (x2.l : List UInt8)) .none) ?_
 refine w_o (a := .i (List.length x2.l : Int)) ?_
 refine w_o (a := .b (decide ((List.length x2.l : Int) > 0))) ?_
 refine bif_e h (fun hc7 h => ?_) (fun hc7 h => ?_)
 refine w_o (a := .b true) (h := op_q (q_bool rfl hc7)) ?_
 refine w_po ?_
 refine w_po ?_
 refine w_po ?_
 refine w_po ?_
 refine w_po ?_
 refine w_po ?_
 refine w_o (a := .b true) ?_
 refine w_true rfl ?_
 refine w_seq (w_region ?_)
 refine w_mv ?_
 refine w_o (a := .list 0 [] .full) ?_
 refine w_mv ?_
 refine w_o (a := .i 320) ?_
 replace h := cut_inr h hr4
 refine loop_exit h (fun h => ?_)
 replace h := cut_inr h hr3
 exact end_pureF (fun (r : ((List Ev) × Int × Int)) => (.tup [.list (List.length (r.1 : List Ev)) (Enc.cellsL (r.1 : List Ev)) .none, .i r.2.1, .i r.2.2] : AV)) h (a := .tup [.list 0 [] .full, .i s2.2.2, .i 320]) rfl (show okTrimL _ _ = true from (by kernel_rfl)) (show AV.tup (stripL _) = _ from congrArg AV.tup (stripL_cons rfl (stripL_cons rfl (stripL_cons rfl rfl))))
 refine w_o (a := .b false) (h := op_q (q_bool rfl hc7)) ?_
 refine w_met rfl rfl ?_
 refine w_o (a := .ptr 0 0) ?_
 refine w_met rfl rfl ?_
 refine w_o (a := .u x2.k) ?_
 refine w_met rfl rfl ?_
 refine w_o (a := .agg (Enc.cells ((Ev.mk x2.k 0) : Ev))) ?_
 refine w_met rfl rfl ?_
 refine w_mv ?_
 refine w_met rfl rfl ?_
 obtain ⟨x3, hx3, h⟩ := bindE_e h
 refine w_callc (args' := [.agg (Enc.cells ((Ev.mk x2.k 0) : Ev)), .b s2.2.1]) (r := .b x3) (right_sh (Ev.mk x2.k 0) s2.2.1 x3 hx3) rfl rfl (stripL_cons (strip_c (clo_agg (Enc.clo _))) (stripL_cons rfl rfl)) (okTrimL_cons (okTrim_clo _ _ (clo_agg (Enc.clo _))) (by kernel_rfl)) (by dsimp only [aput, List.set]) ?_
 refine w_met rfl rfl ?_
 refine w_o (a := .b (!x3)) ?_
 refine w_o (a := .b (!x3)) ?_
 refine bif_e h (fun hc8 h => ?_) (fun hc8 h => ?_)
 refine w_condT hc8 rfl ?_
 refine w_seq (w_region ?_)
 refine w_mv ?_
 refine w_o (a := .list 0 [] .full) ?_
 refine w_mv ?_
 refine w_o (a := .i 320) ?_
 replace h := cut_inr h hr4
 refine loop_exit h (fun h => ?_)
 replace h := cut_inr h hr3
 exact end_pureF (fun (r : ((List Ev) × Int × Int)) => (.tup [.list (List.length (r.1 : List Ev)) (Enc.cellsL (r.1 : List Ev)) .none, .i r.2.1, .i r.2.2] : AV)) h (a := .tup [.list 0 [] .full, .i s2.2.2, .i 320]) rfl (show okTrimL _ _ = true from (by kernel_rfl)) (show AV.tup (stripL _) = _ from congrArg AV.tup (stripL_cons rfl (stripL_cons rfl (stripL_cons rfl rfl))))
 refine w_condF hc8 rfl ?_
 refine w_seq (w_region ?_)
 refine w_mv ?_
 refine w_o (a := .ptr 0 0) ?_
 refine w_o (a := .u x2.k) ?_
 refine w_o (a := .agg (Enc.cells ((Ev.mk x2.k 0) : Ev))) ?_
 refine w_o (a := .list (List.length ([(Ev.mk x2.k 0)] : List Ev)) (Enc.cellsL ([(Ev.mk x2.k 0)] : List Ev)) .full) (h := op_q (q_lit (α := Ev) (l := [(Ev.mk x2.k 0)]) (cs := Enc.cells ((Ev.mk x2.k 0) : Ev) ++ []) rfl (by rw [Enc.cons, Enc.nil]))) ?_
 obtain ⟨g6, h⟩ := chk_e h
 refine w_opm (a := (ownAV (List.length ((s2.1 ++ [(Ev.mk x2.k 0)]) : List Ev)) (Enc.cellsL ((s2.1 ++ [(Ev.mk x2.k 0)]) : List Ev)))) (σ'' := (ownSt [(30, (Enc.cells (x2 : Ck)))] 27 (List.length ((s2.1 ++ [(Ev.mk x2.k 0)]) : List Ev)) 2)) rfl rfl rfl (op_append rfl rfl rfl rfl (append_ownE (α := Ev) (bs := [(30, (Enc.cells (x2 : Ck)))]) (a := s2.1) (b := [(Ev.mk x2.k 0)]) g6 rfl rfl rfl rfl rfl ⟨rfl, by decide⟩)) (by dsimp only [aput, List.set]) rfl ?_
 refine w_mv ?_
 refine w_seq (w_region ?_)
 refine w_mv ?_
 refine bif_e h (fun hc9 h => ?_) (fun hc9 h => ?_)
 refine w_o (a := .b true) (h := op_q (q_bool rfl hc9)) ?_
 refine w_po ?_
 refine w_po ?_
 refine w_po ?_
 refine w_o (a := .b true) ?_
 refine w_mv ?_
 refine cut_done (o := or4) ((s2.1 ++ [(Ev.mk x2.k 0)]), true) h ?_
 exact wm_trim (bl 88 232113757366009351299388387) 0 (by kernel_rfl) (Nat.le_of_ble_eq_true rfl) (okSt_of rfl) (by dsimp only [setAll, topAll, List.foldl, List.set]; exact (okTrimL_cons rfl (okTrimL_cons rfl (okTrimL_cons rfl (okTrimL_cons rfl (okTrimL_cons rfl (okTrimL_cons rfl (okTrimL_cons rfl (okTrimL_cons rfl (okTrimL_cons (okTrim_own (Enc.cloL _)) (okTrimL_cons rfl (okTrimL_cons rfl (okTrimL_cons rfl (okTrimL_cons rfl (okTrimL_cons rfl (okTrimL_cons rfl (okTrimL_cons rfl (okTrimL_cons rfl (okTrimL_cons rfl (okTrimL_cons rfl (okTrimL_cons rfl (okTrimL_cons rfl (okTrimL_cons rfl (okTrimL_cons rfl (okTrimL_cons rfl (okTrimL_cons rfl (okTrimL_cons rfl (okTrimL_cons rfl (okTrimL_cons rfl (okTrimL_cons rfl (okTrimL_cons rfl (okTrimL_cons rfl (okTrimL_cons rfl (okTrimL_cons rfl (okTrimL_cons rfl (okTrimL_cons rfl (okTrimL_cons rfl (okTrimL_cons (okTrim_l (Enc.cloL _)) (by kernel_rfl))))))))))))))))))))))))))))))))))))))) (by kernel_rfl)
 refine w_o (a := .b false) (h := op_q (q_bool rfl hc9)) ?_
 refine w_met rfl rfl ?_
 refine w_o (a := .ptr 0 0) ?_
 refine w_met rfl rfl ?_
 refine w_o (a := .u x2.k) ?_
 refine w_met rfl rfl ?_
 refine w_o (a := .b (x2.k == 3)) ?_
 refine w_o (a := .b (x2.k == 3)) ?_
 refine w_mv ?_
 refine cut_done (o := or4) ((s2.1 ++ [(Ev.mk x2.k 0)]), (x2.k == 3)) h ?_
 exact wm_trim (bl 88 232113757366009351299388387) 0 (by kernel_rfl) (Nat.le_of_ble_eq_true rfl) (okSt_of rfl) (by dsimp only [setAll, topAll, List.foldl, List.set]; exact (okTrimL_cons rfl (okTrimL_cons rfl (okTrimL_cons rfl (okTrimL_cons rfl (okTrimL_cons rfl (okTrimL_cons rfl (okTrimL_cons rfl (okTrimL_cons rfl (okTrimL_cons (okTrim_own (Enc.cloL _)) (okTrimL_cons rfl (okTrimL_cons rfl (okTrimL_cons rfl (okTrimL_cons rfl (okTrimL_cons rfl (okTrimL_cons rfl (okTrimL_cons rfl (okTrimL_cons rfl (okTrimL_cons rfl (okTrimL_cons rfl (okTrimL_cons rfl (okTrimL_cons rfl (okTrimL_cons rfl (okTrimL_cons rfl (okTrimL_cons rfl (okTrimL_cons rfl (okTrimL_cons rfl (okTrimL_cons rfl (okTrimL_cons rfl (okTrimL_cons rfl (okTrimL_cons rfl (okTrimL_cons rfl (okTrimL_cons rfl (okTrimL_cons rfl (okTrimL_cons rfl (okTrimL_cons rfl (okTrimL_cons rfl (okTrimL_cons (okTrim_l (Enc.cloL _)) (by kernel_rfl))))))))))))))))))))))))))))))))))))))) (by kernel_rfl)
 refine w_condF hc6 rfl ?_
 refine w_seq (w_region ?_)
 refine w_o (a := .ptr 0 1) ?_
 refine w_o (a := .list (List.length (x2.l : List UInt8)) (Enc.cellsL (x2.l : List UInt8)) .none) ?_
 refine w_o (a := .i (List.length x2.l : Int)) ?_
 refine w_o (a := .i 0) ?_
 refine w_block ?_
 refine w_loopF h [2, 3, 4, 8, 11, 13, 39, 40, 41, 42, 43, 44, 45, 71, 74, 75, 76, 77, 78, 79, 80, 81, 82, 83, 84, 85] (fun s3 => [(8, (ownAV (List.length (s3.1 : List Ev)) (Enc.cellsL (s3.1 : List Ev)))), (74, .i s3.2)]) (fun s3 => (ownSt [(30, (Enc.cells (x2 : Ck)))] 27 (List.length (s3.1 : List Ev)) 2)) ?_ ?_
 exact wm_of (bl 88 232149175114560504894314467) (by kernel_rfl) (by kernel_rfl)
 intro s3 p3 h
 refine w_start (by dsimp only [setAll, topAll, List.foldl, List.set]) rfl ?_
 refine w_seq (w_region ?_)
 refine w_o (a := .b (decide (s3.2 < (List.length x2.l : Int)))) ?_
 refine w_seq ?_
 refine bif_e h (fun hc10 h => ?_) (fun hc10 h => ?_)
 refine w_condT hc10 rfl ?_
 refine w_seq ?_
 refine w_block ?_
 refine w_seq (w_region ?_)
 obtain ⟨g7, h⟩ := chk_e h
 refine w_o (a := .iptr (Enc.cells (ix x2.l s3.2) ++ Enc.cellsL (List.drop (Int.toNat s3.2 + 1) x2.l))) (h := op_q (q_idx (α := UInt8) (l := x2.l) g7 rfl rfl rfl rfl rfl)) ?_
 refine w_o (a := .u ((((ix x2.l s3.2)).toNat : Nat) : Int)) ?_
 refine w_mv ?_
 refine w_seq ?_
 refine w_seq (w_region ?_)
 refine w_mv ?_
 refine bif_e h (fun hc11 h => ?_) (fun hc11 h => ?_)
 refine w_condT hc11 rfl ?_
 refine w_seq (w_region ?_)
 refine w_mv ?_
 refine w_o (a := .list 0 [] .full) ?_
 refine w_mv ?_
 refine w_o (a := .i 320) ?_
 refine loop_exit h (fun h => ?_)
 replace h := cut_inr h hr4
 refine loop_exit h (fun h => ?_)
 replace h := cut_inr h hr3
 exact end_pureF (fun (r : ((List Ev) × Int × Int)) => (.tup [.list (List.length (r.1 : List Ev)) (Enc.cellsL (r.1 : List Ev)) .none, .i r.2.1, .i r.2.2] : AV)) h (a := .tup [.list 0 [] .full, .i s2.2.2, .i 320]) rfl (show okTrimL _ _ = true from (by kernel_rfl)) (show AV.tup (stripL _) = _ from congrArg AV.tup (stripL_cons rfl (stripL_cons rfl (stripL_cons rfl rfl))))
 refine w_condF hc11 rfl ?_
 refine w_region (k0 := 0) (id := 28) ?_
 refine w_mv ?_
 refine w_mv ?_
 refine w_o (a := .agg (Enc.cells ((Ev.mk 1 ((((ix x2.l s3.2)).toNat : Nat) : Int)) : Ev))) ?_
 refine w_o (a := .list (List.length ([(Ev.mk 1 ((((ix x2.l s3.2)).toNat : Nat) : Int))] : List Ev)) (Enc.cellsL ([(Ev.mk 1 ((((ix x2.l s3.2)).toNat : Nat) : Int))] : List Ev)) .full) (h := op_q (q_lit (α := Ev) (l := [(Ev.mk 1 ((((ix x2.l s3.2)).toNat : Nat) : Int))]) (cs := Enc.cells ((Ev.mk 1 ((((ix x2.l s3.2)).toNat : Nat) : Int)) : Ev) ++ []) rfl (by rw [Enc.cons, Enc.nil]))) ?_
 obtain ⟨g8, h⟩ := chk_e h
 refine w_opm (a := (ownAV (List.length ((s3.1 ++ [(Ev.mk 1 ((((ix x2.l s3.2)).toNat : Nat) : Int))]) : List Ev)) (Enc.cellsL ((s3.1 ++ [(Ev.mk 1 ((((ix x2.l s3.2)).toNat : Nat) : Int))]) : List Ev)))) (σ'' := (ownSt [(30, (Enc.cells (x2 : Ck)))] 27 (List.length ((s3.1 ++ [(Ev.mk 1 ((((ix x2.l s3.2)).toNat : Nat) : Int))]) : List Ev)) 2)) rfl rfl rfl (op_append rfl rfl rfl rfl (append_ownE (α := Ev) (bs := [(30, (Enc.cells (x2 : Ck)))]) (a := s3.1) (b := [(Ev.mk 1 ((((ix x2.l s3.2)).toNat : Nat) : Int))]) g8 rfl rfl rfl rfl rfl ⟨rfl, by decide⟩)) (by dsimp only [aput, List.set]) rfl ?_
 refine w_mv ?_
 refine w_region (k0 := 0) (id := 29) ?_
 obtain ⟨g9, h⟩ := chk_e h
 refine w_o (a := .i (s3.2 + 1)) (h := op_q (q_add rfl rfl rfl rfl g9.1 g9.2)) ?_
 refine w_mv ?_
 refine loop_next (p := p3) ((s3.1 ++ [(Ev.mk 1 ((((ix x2.l s3.2)).toNat : Nat) : Int))]), (s3.2 + 1)) h ?_
 exact wm_of (bl 88 232149175114560504894314467) (by kernel_rfl) (by kernel_rfl)
 refine w_condF hc10 rfl ?_
 refine loop_exit h (fun h => ?_)
 refine cut_done (o := or4) (s3.1, s2.2.1) h ?_
 exact wm_trim (bl 88 232113757366009351299388387) 0 (by kernel_rfl) (Nat.le_of_ble_eq_true rfl) (okSt_of rfl) (by dsimp only [setAll, topAll, List.foldl, List.set]; exact (okTrimL_cons rfl (okTrimL_cons rfl (okTrimL_cons rfl (okTrimL_cons rfl (okTrimL_cons rfl (okTrimL_cons rfl (okTrimL_cons rfl (okTrimL_cons rfl (okTrimL_cons (okTrim_own (Enc.cloL _)) (okTrimL_cons rfl (okTrimL_cons rfl (okTrimL_cons rfl (okTrimL_cons rfl (okTrimL_cons rfl (okTrimL_cons rfl (okTrimL_cons rfl (okTrimL_cons rfl (okTrimL_cons rfl (okTrimL_cons rfl (okTrimL_cons rfl (okTrimL_cons rfl (okTrimL_cons rfl (okTrimL_cons rfl (okTrimL_cons rfl (okTrimL_cons rfl (okTrimL_cons rfl (okTrimL_cons rfl (okTrimL_cons rfl (okTrimL_cons rfl (okTrimL_cons rfl (okTrimL_cons rfl (okTrimL_cons rfl (okTrimL_cons rfl (okTrimL_cons rfl (okTrimL_cons rfl (okTrimL_cons rfl (okTrimL_cons (okTrim_l (Enc.cloL _)) (by kernel_rfl))))))))))))))))))))))))))))))))))))))) (by kernel_rfl)
 intro j4 h
 refine w_start (by dsimp only [setAll, topAll, List.foldl, List.set]) rfl ?_
 refine w_region (k0 := 0) (id := 30) ?_
 obtain ⟨g10, h⟩ := chk_e h
 refine w_o (a := .i (s2.2.2 + 1)) (h := op_q (q_add rfl rfl rfl rfl g10.1 g10.2)) ?_
 refine w_mv ?_
 refine loop_next (p := p2) (j4.1, j4.2, (s2.2.2 + 1)) h ?_
 exact wm_of (bl 88 154742504910673084118193122) (by kernel_rfl) (by kernel_rfl)
 refine w_condF hc5 rfl ?_
 refine loop_exit h (fun h => ?_)
 refine cut_done (o := or3) (s2.1) h ?_
 exact wm_of (bl 88 154742504910672603081855458) (by kernel_rfl) (by kernel_rfl)
 intro j3 h
 refine w_start (by dsimp only [setAll, topAll, List.foldl, List.set]) rfl ?_
 refine w_seq (w_region ?_)
 refine w_mv ?_
 refine w_mv ?_
 refine w_o (a := .i (-1)) ?_
 refine w_o (a := .i 0) ?_
 exact end_pureF (fun (r : ((List Ev) × Int × Int)) => (.tup [.list (List.length (r.1 : List Ev)) (Enc.cellsL (r.1 : List Ev)) .none, .i r.2.1, .i r.2.2] : AV)) h (a := .tup [(ownAV (List.length (j3 : List Ev)) (Enc.cellsL (j3 : List Ev))), .i (-1), .i 0]) rfl (show okTrimL _ _ = true from (okTrimL_cons (okTrim_own (Enc.cloL _)) (by kernel_rfl))) (show AV.tup (stripL _) = _ from congrArg AV.tup (stripL_cons (strip_o (Enc.cloL _) Enc.z) (stripL_cons rfl (stripL_cons rfl rfl))))
def F_alike (fuel : Nat) (a : (List Ck)) (b : (List Ck)) : Option (Bool × Int) :=
  (bindE (F_join fuel a) (fun x1 => (bif (x1.2.2 != 0) then (some (false, x1.2.2)) else (bindE (F_join fuel b) (fun x2 => (bif (x2.2.2 == 0) then (bindE (F_eqevs fuel x1.1 x2.1) (fun x3 => (some (x3, x2.2.2)))) else (some (false, x2.2.2))))))))
theorem ent21 : Ent Tryz.prog 21 := enters_of Tryz.func21 (by kernel_rfl) rfl
set_option maxRecDepth 100000 in
set_option maxHeartbeats 4000000 in
theorem alike_sh (fuel : Nat) (a : (List Ck)) (b : (List Ck)) (r : (Bool × Int)) (h : F_alike fuel a b = some r) : Pure (ITP Tryz.prog) Tryz.prog 21 [.list (List.length (a : List Ck)) (Enc.cellsL (a : List Ck)) .none, .list (List.length (b : List Ck)) (Enc.cellsL (b : List Ck)) .none] (.tup [.raw (.bool r.1), .raw (.int .i64 r.2)]) := by
 obtain ⟨d, hd⟩ : ∃ d, Tryz.f21.body = some d := ⟨_, rfl⟩
 refine pure_of mix Tryz.func21 hd ent21 ?_
 cases hd
 unfold F_alike at h
 refine w_start (by dsimp only [abeginS, Tryz.f21, List.length_cons, List.length_nil, Nat.zero_add, Nat.reduceAdd, Nat.reduceSub, List.replicate, List.cons_append, List.nil_append]) (by dsimp only [St.empty]) ?_
 refine w_seq (w_region ?_)
 refine w_o (a := .b false) ?_
 refine w_o (a := .i 0) ?_
 refine w_seq (w_region ?_)
 refine w_mv ?_
 obtain ⟨x1, hx1, h⟩ := bindE_e h
 refine w_callc (args' := [.list (List.length (a : List Ck)) (Enc.cellsL (a : List Ck)) .none]) (r := .tup [.list (List.length (x1.1 : List Ev)) (Enc.cellsL (x1.1 : List Ev)) .none, .i x1.2.1, .i x1.2.2]) (join_sh fuel a x1 hx1) rfl rfl (stripL_cons (strip_l (Enc.cloL _)) rfl) (okTrimL_cons (okTrim_l (Enc.cloL _)) rfl) (by dsimp only [aput, List.set]) ?_
 refine w_mv ?_
 refine w_ex ?_
 refine w_ex ?_
 refine w_ex ?_
 refine w_mv ?_
 refine w_mv ?_
 refine w_mv ?_
 refine w_seq ?_
 refine w_seq (w_region ?_)
 refine w_mv ?_
 refine w_o (a := .b (x1.2.2 != 0)) ?_
 refine bif_e h (fun hc1 h => ?_) (fun hc1 h => ?_)
 refine w_condT hc1 rfl ?_
 refine w_seq (w_region ?_)
 refine w_mv ?_
 refine w_o (a := .b false) ?_
 refine w_mv ?_
 exact end_pureF (fun (r : (Bool × Int)) => (.tup [.b r.1, .i r.2] : AV)) h (a := .tup [.b false, .i x1.2.2]) rfl (show okTrimL _ _ = true from (by kernel_rfl)) (show AV.tup (stripL _) = _ from congrArg AV.tup (stripL_cons rfl (stripL_cons rfl rfl)))
 refine w_condF hc1 rfl ?_
 refine w_seq (w_region ?_)
 refine w_mv ?_
 obtain ⟨x2, hx2, h⟩ := bindE_e h
 refine w_callc (args' := [.list (List.length (b : List Ck)) (Enc.cellsL (b : List Ck)) .none]) (r := .tup [.list (List.length (x2.1 : List Ev)) (Enc.cellsL (x2.1 : List Ev)) .none, .i x2.2.1, .i x2.2.2]) (join_sh fuel b x2 hx2) rfl rfl (stripL_cons (strip_l (Enc.cloL _)) rfl) (okTrimL_cons (okTrim_l (Enc.cloL _)) rfl) (by dsimp only [aput, List.set]) ?_
 refine w_mv ?_
 refine w_ex ?_
 refine w_ex ?_
 refine w_ex ?_
 refine w_mv ?_
 refine w_mv ?_
 refine w_mv ?_
 refine w_seq (w_region ?_)
 refine w_mv ?_
 refine w_o (a := .b (x2.2.2 == 0)) ?_
 refine bif_e h (fun hc2 h => ?_) (fun hc2 h => ?_)
 refine w_o (a := .b true) (h := op_q (q_bool rfl hc2)) ?_
 refine w_met rfl rfl ?_
 refine w_mv ?_
 refine w_met rfl rfl ?_
 refine w_mv ?_
 refine w_met rfl rfl ?_
 obtain ⟨x3, hx3, h⟩ := bindE_e h
 refine w_callc (args' := [.list (List.length (x1.1 : List Ev)) (Enc.cellsL (x1.1 : List Ev)) .none, .list (List.length (x2.1 : List Ev)) (Enc.cellsL (x2.1 : List Ev)) .none]) (r := .b x3) (eqevs_sh fuel x1.1 x2.1 x3 hx3) rfl rfl (stripL_cons (strip_l (Enc.cloL _)) (stripL_cons (strip_l (Enc.cloL _)) rfl)) (okTrimL_cons (okTrim_l (Enc.cloL _)) (okTrimL_cons (okTrim_l (Enc.cloL _)) rfl)) (by dsimp only [aput, List.set]) ?_
 refine w_o (a := .b x3) ?_
 refine w_mv ?_
 refine w_mv ?_
 refine w_mv ?_
 exact end_pureF (fun (r : (Bool × Int)) => (.tup [.b r.1, .i r.2] : AV)) h (a := .tup [.b x3, .i x2.2.2]) rfl (show okTrimL _ _ = true from (by kernel_rfl)) (show AV.tup (stripL _) = _ from congrArg AV.tup (stripL_cons rfl (stripL_cons rfl rfl)))
 refine w_o (a := .b false) (h := op_q (q_bool rfl hc2)) ?_
 refine w_po ?_
 refine w_po ?_
 refine w_po ?_
 refine w_o (a := .b false) ?_
 refine w_mv ?_
 refine w_mv ?_
 refine w_mv ?_
 exact end_pureF (fun (r : (Bool × Int)) => (.tup [.b r.1, .i r.2] : AV)) h (a := .tup [.b false, .i x2.2.2]) rfl (show okTrimL _ _ = true from (by kernel_rfl)) (show AV.tup (stripL _) = _ from congrArg AV.tup (stripL_cons rfl (stripL_cons rfl rfl)))
end Go.Ab

