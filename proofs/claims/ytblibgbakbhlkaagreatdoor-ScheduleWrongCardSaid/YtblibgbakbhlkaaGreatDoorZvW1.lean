/-
  schedule: package quote; events.
-/
import Derived.Test.YtblibgbakbhlkaaGreatDoorZvQc
import Derived.Test.YtblibgbakbhlkaaGreatDoorZvBd
import Derived.Test.YtblibgbakbhlkaaGreatDoorZdQp
set_option linter.unusedSimpArgs false
set_option linter.unusedVariables false
namespace Go.Ab
open Go Go.RowKit Go.Fwd Go.Proofs
def F_qbytes (fuel : Nat) (b : (List UInt8)) (m : QSet) : Option (List UInt8) :=
  (cutE (τ := (Bool × List UInt8)) (loopE (β := Int × (Bool × List UInt8)) (fun s1 => (bif (decide (s1.1 < (List.length b : Int))) then (chk (0 ≤ s1.1 ∧ s1.1 < (List.length b : Int)) (letE (ix b s1.1) (fun x1 => (letE (byteP x1) (fun x2 => (chk ((List.length s1.2.2 + List.length x2) * 1 ≤ 140737488355328) (chk (-9223372036854775808 ≤ (s1.1 + 1) ∧ (s1.1 + 1) < 9223372036854775808) (some (Sum.inl ((s1.1 + 1), (true, (s1.2.2 ++ x2)))))))))))) else (some (Sum.inr (Sum.inl ((s1.2.1, s1.2.2))))))) fuel (0, (false, ([] : List UInt8)))) (fun j1 => (some j1.2)))
theorem ent76 : Ent Tryz.prog 76 := enters_of Tryz.func76 (by kernel_rfl) rfl
set_option maxRecDepth 100000 in
set_option maxHeartbeats 4000000 in
theorem qbytes_sh (fuel : Nat) (b : (List UInt8)) (m : QSet) (r : (List UInt8)) (h : F_qbytes fuel b m = some r) : Pure (ITP Tryz.prog) Tryz.prog 76 [.raw (.string (bs b)), .agg (Enc.cells (m : QSet))] (.raw (.string (bs r))) := by
 obtain ⟨d, hd⟩ : ∃ d, Tryz.f76.body = some d := ⟨_, rfl⟩
 refine pure_of mix Tryz.func76 hd ent76 ?_
 cases hd
 unfold F_qbytes at h
 refine w_start (by dsimp only [abeginS, Tryz.f76, List.length_cons, List.length_nil, Nat.zero_add, Nat.reduceAdd, Nat.reduceSub, List.replicate, List.cons_append, List.nil_append]) (by dsimp only [St.empty]) ?_
 refine w_seq (w_region ?_)
 refine w_om (a := .ptr 0 0) (σ'' := ⟨[(129, (Enc.cells (m : QSet)))], [], [], 0, false⟩) ?_
 refine w_o (a := .s ([] : List UInt8)) ?_
 refine w_seq (w_region ?_)
 refine w_opB (a := .ptr 1 0) (σ'' := (ownSt [(129, (Enc.cells (m : QSet))), (98, (bldC 1 false ([] : List UInt8)))] 5 (List.length (([] : List UInt8) : List UInt8)) 1)) rfl rfl rfl rfl (by dsimp only [aput, List.set]) rfl ?_
 refine w_cutF h [0, 1, 2, 3, 4, 6, 7, 8, 9, 10, 11, 12, 13, 14, 15, 16, 17, 18, 19] (fun j1 => []) (fun j1 => (ownSt [(129, (Enc.cells (m : QSet))), (98, (bldC 1 j1.1 j1.2))] 5 (List.length (j1.2 : List UInt8)) 1)) ?_ ?_
 intro or1 h hr1
 refine w_seq (w_region ?_)
 refine w_mv ?_
 refine w_o (a := .i (List.length b : Int)) (h := op_q (q_lenS rfl rfl rfl)) ?_
 refine w_o (a := .i 0) ?_
 refine w_block ?_
 refine w_loopF h [1, 2, 4, 6, 7, 9, 10, 11, 12, 13, 14, 15, 16, 17, 18, 19] (fun s1 => [(9, .i s1.1)]) (fun s1 => (ownSt [(129, (Enc.cells (m : QSet))), (98, (bldC 1 s1.2.1 s1.2.2))] 5 (List.length (s1.2.2 : List UInt8)) 1)) ?_ ?_
 exact wm_of (bl 20 809) (by kernel_rfl) (by kernel_rfl)
 intro s1 p1 h
 refine w_start (by dsimp only [setAll, topAll, List.foldl, List.set]) rfl ?_
 refine w_seq (w_region ?_)
 refine w_o (a := .b (decide (s1.1 < (List.length b : Int)))) ?_
 refine w_seq ?_
 refine bif_e h (fun hc1 h => ?_) (fun hc1 h => ?_)
 refine w_condT hc1 rfl ?_
 refine w_seq ?_
 refine w_block ?_
 refine w_seq (w_region ?_)
 refine w_mv ?_
 refine w_mv ?_
 refine w_draw (k0 := 0) (id := 5) 4 (by kernel_rfl) (by kernel_rfl) ?_
 refine h_mv ?_
 refine h_mv ?_
 obtain ⟨g1, h⟩ := chk_e h
 obtain ⟨x1, hx1, h⟩ := letE_e h
 refine h_o (a := .u (((x1).toNat : Nat) : Int)) (h := by rw [← hx1]; exact (q_sidx (l := b) (n := s1.1) g1 rfl rfl rfl rfl)) ?_
 refine h_o (a := .agg (Enc.cells (m : QSet))) ?_
 refine h_end ?_
 obtain ⟨x2, hx2, h⟩ := letE_e h
 refine w_callc (args' := [.u (((x1).toNat : Nat) : Int), .agg (Enc.cells (m : QSet))]) (r := .s x2) (by rw [← hx2]; exact (byte_pure x1)) rfl rfl (stripL_cons rfl (stripL_cons (strip_c (clo_agg (Enc.clo _))) rfl)) (okTrimL_cons rfl (okTrimL_cons (okTrim_clo _ _ (clo_agg (Enc.clo _))) rfl)) (by dsimp only [aput, List.set]) ?_
 obtain ⟨g2, h⟩ := chk_e h
 refine w_snd (r := .tup [.i (List.length x2 : Int), .raw .nilIface]) (σ' := (ownSt [(129, (Enc.cells (m : QSet))), (98, (bldC 1 true (s1.2.2 ++ x2)))] 5 (List.length ((s1.2.2 ++ x2) : List UInt8)) 1)) (bld_write (u := s1.2.1) (l := s1.2.2) (b := x2) g2 rfl) rfl rfl ⟨rfl, rfl⟩ (by dsimp only [aput, List.set]) ?_
 refine w_region (k0 := 0) (id := 6) ?_
 obtain ⟨g3, h⟩ := chk_e h
 refine w_o (a := .i (s1.1 + 1)) (h := op_q (q_add rfl rfl rfl rfl g3.1 g3.2)) ?_
 refine w_mv ?_
 refine loop_next (p := p1) ((s1.1 + 1), (true, (s1.2.2 ++ x2))) h ?_
 exact wm_of (bl 20 809) (by kernel_rfl) (by kernel_rfl)
 refine w_condF hc1 rfl ?_
 refine loop_exit h (fun h => ?_)
 refine cut_done (o := or1) ((s1.2.1, s1.2.2)) h ?_
 exact wm_of (bl 20 32) (by kernel_rfl) (by kernel_rfl)
 intro j1 h
 refine w_start (by dsimp only [setAll, topAll, List.foldl, List.set]) rfl ?_
 refine w_seq (w_region ?_)
 refine w_snd (r := .s j1.2) (σ' := (ownSt [(129, (Enc.cells (m : QSet))), (98, (bldC 1 j1.1 j1.2))] 5 (List.length (j1.2 : List UInt8)) 1)) (bld_string (u := j1.1) (l := j1.2) rfl) rfl rfl ⟨rfl, rfl⟩ (by dsimp only [aput, List.set]) ?_
 refine w_mv ?_
 exact end_s h
def F_quote (fuel : Nat) (b : (List UInt8)) : Option (List UInt8) :=
  (bindE (F_qbytes fuel b QSet.mk) (fun x1 => (chk (List.length ([34] : List UInt8) + List.length x1 ≤ 9223372036854775807) (chk (List.length (([34] : List UInt8) ++ x1) + List.length ([34] : List UInt8) ≤ 9223372036854775807) (some ((([34] : List UInt8) ++ x1) ++ ([34] : List UInt8)))))))
theorem ent48 : Ent Tryz.prog 48 := enters_of Tryz.func48 (by kernel_rfl) rfl
set_option maxRecDepth 100000 in
set_option maxHeartbeats 4000000 in
theorem quote_sh (fuel : Nat) (b : (List UInt8)) (r : (List UInt8)) (h : F_quote fuel b = some r) : Pure (ITP Tryz.prog) Tryz.prog 48 [.raw (.string (bs b))] (.raw (.string (bs r))) := by
 obtain ⟨d, hd⟩ : ∃ d, Tryz.f48.body = some d := ⟨_, rfl⟩
 refine pure_of mix Tryz.func48 hd ent48 ?_
 cases hd
 unfold F_quote at h
 refine w_start (by dsimp only [abeginS, Tryz.f48, List.length_cons, List.length_nil, Nat.zero_add, Nat.reduceAdd, Nat.reduceSub, List.replicate, List.cons_append, List.nil_append]) (by dsimp only [St.empty]) ?_
 refine w_seq (w_region ?_)
 refine w_o (a := .s ([] : List UInt8)) ?_
 refine w_seq (w_region ?_)
 refine w_mv ?_
 refine w_o (a := .list (List.length (([34] : List UInt8) : List UInt8)) (Enc.cellsL (([34] : List UInt8) : List UInt8)) .full) (h := op_q (q_lit (α := UInt8) (l := ([34] : List UInt8)) (cs := [.u 34]) rfl rfl)) ?_
 refine w_callc (args' := [.list (List.length (([34] : List UInt8) : List UInt8)) (Enc.cellsL (([34] : List UInt8) : List UInt8)) .none]) (r := .agg (Enc.cells (QSet.mk : QSet))) of_pure rfl rfl (stripL_cons (strip_l (Enc.cloL _)) rfl) (okTrimL_cons (okTrim_l (Enc.cloL _)) rfl) (by dsimp only [aput, List.set]) ?_
 obtain ⟨x1, hx1, h⟩ := bindE_e h
 refine w_callc (args' := [.s b, .agg (Enc.cells (QSet.mk : QSet))]) (r := .s x1) (qbytes_sh fuel b QSet.mk x1 hx1) rfl rfl (stripL_cons rfl (stripL_cons (strip_c (clo_agg (Enc.clo _))) rfl)) (okTrimL_cons rfl (okTrimL_cons (okTrim_clo _ _ (clo_agg (Enc.clo _))) rfl)) (by dsimp only [aput, List.set]) ?_
 obtain ⟨g1, h⟩ := chk_e h
 refine w_o (a := .s (([34] : List UInt8) ++ x1)) (h := op_q (q_stradd g1 rfl rfl rfl)) ?_
 obtain ⟨g2, h⟩ := chk_e h
 refine w_o (a := .s ((([34] : List UInt8) ++ x1) ++ ([34] : List UInt8))) (h := op_q (q_stradd g2 rfl rfl rfl)) ?_
 refine w_mv ?_
 exact end_s h
def F_readbyte (t : (List UInt8)) (m : QSet) : Option (Int × Int × Int) :=
  (cutE (τ := Unit) (bif (t == ([] : List UInt8)) then (some (Sum.inr (0, 0, 20))) else (chk (0 ≤ (0 : Int) ∧ (0 : Int) < (List.length t : Int)) (letE (ix t (0 : Int)) (fun x1 => (bif ((((x1).toNat : Nat) : Int) != 92) then (chk (0 ≤ (0 : Int) ∧ (0 : Int) < (List.length t : Int)) (letE (ix t (0 : Int)) (fun x2 => (bif (decide ((((x2).toNat : Nat) : Int) ≥ 32)) then (chk (0 ≤ (0 : Int) ∧ (0 : Int) < (List.length t : Int)) (letE (ix t (0 : Int)) (fun x3 => (bif (decide ((((x3).toNat : Nat) : Int) ≤ 126)) then (chk (0 ≤ (0 : Int) ∧ (0 : Int) < (List.length t : Int)) (letE (ix t (0 : Int)) (fun x4 => (letE (isMarkP x4) (fun x5 => (bif (!x5) then (chk (0 ≤ (0 : Int) ∧ (0 : Int) < (List.length t : Int)) (letE (ix t (0 : Int)) (fun x6 => (some (Sum.inr ((((x6).toNat : Nat) : Int), 1, 0)))))) else (chk (0 ≤ (0 : Int) ∧ (0 : Int) < (List.length t : Int)) (letE (ix t (0 : Int)) (fun x7 => (bif ((((x7).toNat : Nat) : Int) != 92) then (some (Sum.inr (0, 0, 20))) else (bif (decide ((List.length t : Int) < 2)) then (some (Sum.inr (0, 0, 20))) else (some (Sum.inl ()))))))))))))) else (chk (0 ≤ (0 : Int) ∧ (0 : Int) < (List.length t : Int)) (letE (ix t (0 : Int)) (fun x8 => (bif ((((x8).toNat : Nat) : Int) != 92) then (some (Sum.inr (0, 0, 20))) else (bif (decide ((List.length t : Int) < 2)) then (some (Sum.inr (0, 0, 20))) else (some (Sum.inl ()))))))))))) else (chk (0 ≤ (0 : Int) ∧ (0 : Int) < (List.length t : Int)) (letE (ix t (0 : Int)) (fun x9 => (bif ((((x9).toNat : Nat) : Int) != 92) then (some (Sum.inr (0, 0, 20))) else (bif (decide ((List.length t : Int) < 2)) then (some (Sum.inr (0, 0, 20))) else (some (Sum.inl ()))))))))))) else (chk (0 ≤ (0 : Int) ∧ (0 : Int) < (List.length t : Int)) (letE (ix t (0 : Int)) (fun x10 => (bif ((((x10).toNat : Nat) : Int) != 92) then (some (Sum.inr (0, 0, 20))) else (bif (decide ((List.length t : Int) < 2)) then (some (Sum.inr (0, 0, 20))) else (some (Sum.inl ())))))))))))) (fun j1 => (chk (0 ≤ (1 : Int) ∧ (1 : Int) < (List.length t : Int)) (letE (ix t (1 : Int)) (fun x11 => (letE (Lib.indexByte ([110, 114, 116] : List UInt8) x11) (fun x12 => (cutE (τ := Unit) (bif ((((x11).toNat : Nat) : Int) == 120) then (bif (decide ((List.length t : Int) > 3)) then (chk (0 ≤ (2 : Int) ∧ (2 : Int) < (List.length t : Int)) (letE (ix t (2 : Int)) (fun x13 => (letE (nibP x13) (fun x14 => (bif (decide (x14 < 16)) then (chk (0 ≤ (3 : Int) ∧ (3 : Int) < (List.length t : Int)) (letE (ix t (3 : Int)) (fun x15 => (letE (nibP x15) (fun x16 => (bif (decide (x16 < 16)) then (chk (0 ≤ (2 : Int) ∧ (2 : Int) < (List.length t : Int)) (letE (ix t (2 : Int)) (fun x17 => (letE (nibP x17) (fun x18 => (chk (0 ≤ (3 : Int) ∧ (3 : Int) < (List.length t : Int)) (letE (ix t (3 : Int)) (fun x19 => (letE (nibP x19) (fun x20 => (some (Sum.inr ((IntKind.u8.wrap (orI .i64 (shlI .i64 x18 4) x20)), 4, 0))))))))))))) else (bif ((((x11).toNat : Nat) : Int) == 92) then (some (Sum.inr ((((x11).toNat : Nat) : Int), 2, 0))) else (letE (isMarkP x11) (fun x21 => (bif x21 then (some (Sum.inr ((((x11).toNat : Nat) : Int), 2, 0))) else (bif (decide (x12 ≥ 0)) then (chk (0 ≤ x12 ∧ x12 < (List.length ([10, 13, 9] : List UInt8) : Int)) (letE (ix ([10, 13, 9] : List UInt8) x12) (fun x22 => (some (Sum.inr ((((x22).toNat : Nat) : Int), 2, 0)))))) else (some (Sum.inl ()))))))))))))) else (bif ((((x11).toNat : Nat) : Int) == 92) then (some (Sum.inr ((((x11).toNat : Nat) : Int), 2, 0))) else (letE (isMarkP x11) (fun x23 => (bif x23 then (some (Sum.inr ((((x11).toNat : Nat) : Int), 2, 0))) else (bif (decide (x12 ≥ 0)) then (chk (0 ≤ x12 ∧ x12 < (List.length ([10, 13, 9] : List UInt8) : Int)) (letE (ix ([10, 13, 9] : List UInt8) x12) (fun x24 => (some (Sum.inr ((((x24).toNat : Nat) : Int), 2, 0)))))) else (some (Sum.inl ()))))))))))))) else (bif ((((x11).toNat : Nat) : Int) == 92) then (some (Sum.inr ((((x11).toNat : Nat) : Int), 2, 0))) else (letE (isMarkP x11) (fun x25 => (bif x25 then (some (Sum.inr ((((x11).toNat : Nat) : Int), 2, 0))) else (bif (decide (x12 ≥ 0)) then (chk (0 ≤ x12 ∧ x12 < (List.length ([10, 13, 9] : List UInt8) : Int)) (letE (ix ([10, 13, 9] : List UInt8) x12) (fun x26 => (some (Sum.inr ((((x26).toNat : Nat) : Int), 2, 0)))))) else (some (Sum.inl ())))))))) else (bif ((((x11).toNat : Nat) : Int) == 92) then (some (Sum.inr ((((x11).toNat : Nat) : Int), 2, 0))) else (letE (isMarkP x11) (fun x27 => (bif x27 then (some (Sum.inr ((((x11).toNat : Nat) : Int), 2, 0))) else (bif (decide (x12 ≥ 0)) then (chk (0 ≤ x12 ∧ x12 < (List.length ([10, 13, 9] : List UInt8) : Int)) (letE (ix ([10, 13, 9] : List UInt8) x12) (fun x28 => (some (Sum.inr ((((x28).toNat : Nat) : Int), 2, 0)))))) else (some (Sum.inl ())))))))) (fun j2 => (some (0, 0, 20)))))))))))
theorem ent98 : Ent Tryz.prog 98 := enters_of Tryz.func98 (by kernel_rfl) rfl
set_option maxRecDepth 100000 in
set_option maxHeartbeats 4000000 in
theorem readbyte_sh (t : (List UInt8)) (m : QSet) (r : (Int × Int × Int)) (h : F_readbyte t m = some r) : Pure (ITP Tryz.prog) Tryz.prog 98 [.raw (.string (bs t)), .agg (Enc.cells (m : QSet))] (.tup [.raw (.int .u8 r.1), .raw (.int .i64 r.2.1), .raw (.int .i64 r.2.2)]) := by
 obtain ⟨d, hd⟩ : ∃ d, Tryz.f98.body = some d := ⟨_, rfl⟩
 refine pure_of mix Tryz.func98 hd ent98 ?_
 cases hd
 unfold F_readbyte at h
 refine w_start (by dsimp only [abeginS, Tryz.f98, List.length_cons, List.length_nil, Nat.zero_add, Nat.reduceAdd, Nat.reduceSub, List.replicate, List.cons_append, List.nil_append]) (by dsimp only [St.empty]) ?_
 refine w_seq (w_region ?_)
 refine w_om (a := .ptr 0 0) (σ'' := ⟨[(129, (Enc.cells (m : QSet)))], [], [], 0, false⟩) ?_
 refine w_o (a := .u 0) ?_
 refine w_o (a := .i 0) ?_
 refine w_o (a := .i 0) ?_
 refine w_cutF h [1, 2, 4, 5, 6, 7, 8, 9, 10, 11, 12, 13, 14, 15, 16, 17, 18, 19, 20, 21, 22, 23, 24, 25, 26, 27, 28, 29, 30, 31, 32, 33, 34, 35, 36, 37, 38, 39, 40, 41, 42, 43, 44, 45, 46, 47, 48, 49, 50, 51, 52, 53, 54, 55, 56, 57, 58, 59, 60, 61, 62, 63, 64, 65, 66, 67, 68, 69, 70, 71, 72, 73, 74, 75, 76, 77, 78, 79, 80, 81, 82, 83, 84, 85, 86, 87, 88, 89, 90] (fun j1 => []) (fun j1 => ⟨[(129, (Enc.cells (m : QSet)))], [], [], 0, false⟩) ?_ ?_
 intro or1 h hr1
 refine w_block ?_
 refine w_seq (w_region ?_)
 refine w_mv ?_
 refine w_o (a := .b (t == ([] : List UInt8))) (h := op_q (q_streq rfl rfl rfl)) ?_
 refine w_mv ?_
 refine bif_e h (fun hc1 h => ?_) (fun hc1 h => ?_)
 refine w_condT hc1 rfl ?_
 refine w_seq (w_region ?_)
 refine w_o (a := .u 0) ?_
 refine w_o (a := .i 0) ?_
 refine w_o (a := .i 20) ?_
 replace h := cut_inr h hr1
 exact end_pureF (fun (r : (Int × Int × Int)) => (.tup [.u r.1, .i r.2.1, .i r.2.2] : AV)) h (a := .tup [.u 0, .i 0, .i 20]) rfl (show okTrimL _ _ = true from (by kernel_rfl)) (show AV.tup (stripL _) = _ from congrArg AV.tup (stripL_cons rfl (stripL_cons rfl (stripL_cons rfl rfl))))
 refine w_condF hc1 rfl ?_
 refine w_seq ?_
 refine w_draw (k0 := 0) (id := 3) 17 (by kernel_rfl) (by kernel_rfl) ?_
 refine h_mv ?_
 obtain ⟨g1, h⟩ := chk_e h
 obtain ⟨x1, hx1, h⟩ := letE_e h
 refine h_o (a := .u (((x1).toNat : Nat) : Int)) (h := by rw [← hx1]; exact (q_sidx (l := t) (n := (0 : Int)) g1 rfl rfl rfl rfl)) ?_
 refine h_o (a := .b ((((x1).toNat : Nat) : Int) != 92)) ?_
 refine bif_e h (fun hc2 h => ?_) (fun hc2 h => ?_)
 refine h_o (a := .b true) (h := q_bool rfl hc2) ?_
 refine h_met rfl rfl ?_
 refine h_mv ?_
 refine h_met rfl rfl ?_
 obtain ⟨g2, h⟩ := chk_e h
 obtain ⟨x2, hx2, h⟩ := letE_e h
 refine h_o (a := .u (((x2).toNat : Nat) : Int)) (h := by rw [← hx2]; exact (q_sidx (l := t) (n := (0 : Int)) g2 rfl rfl rfl rfl)) ?_
 refine h_met rfl rfl ?_
 refine h_o (a := .b (decide ((((x2).toNat : Nat) : Int) ≥ 32))) ?_
 refine h_o (a := .b (decide ((((x2).toNat : Nat) : Int) ≥ 32))) ?_
 refine bif_e h (fun hc3 h => ?_) (fun hc3 h => ?_)
 refine h_o (a := .b true) (h := q_bool rfl hc3) ?_
 refine h_met rfl rfl ?_
 refine h_mv ?_
 refine h_met rfl rfl ?_
 obtain ⟨g3, h⟩ := chk_e h
 obtain ⟨x3, hx3, h⟩ := letE_e h
 refine h_o (a := .u (((x3).toNat : Nat) : Int)) (h := by rw [← hx3]; exact (q_sidx (l := t) (n := (0 : Int)) g3 rfl rfl rfl rfl)) ?_
 refine h_met rfl rfl ?_
 refine h_o (a := .b (decide ((((x3).toNat : Nat) : Int) ≤ 126))) ?_
 refine h_o (a := .b (decide ((((x3).toNat : Nat) : Int) ≤ 126))) ?_
 refine bif_e h (fun hc4 h => ?_) (fun hc4 h => ?_)
 refine h_o (a := .b true) (h := q_bool rfl hc4) ?_
 refine h_met rfl rfl ?_
 refine h_o (a := .agg (Enc.cells (m : QSet))) ?_
 refine h_met rfl rfl ?_
 refine h_mv ?_
 refine h_met rfl rfl ?_
 obtain ⟨g4, h⟩ := chk_e h
 obtain ⟨x4, hx4, h⟩ := letE_e h
 refine h_o (a := .u (((x4).toNat : Nat) : Int)) (h := by rw [← hx4]; exact (q_sidx (l := t) (n := (0 : Int)) g4 rfl rfl rfl rfl)) ?_
 refine h_end ?_
 refine w_met rfl rfl ?_
 obtain ⟨x5, hx5, h⟩ := letE_e h
 refine w_callc (args' := [.agg (Enc.cells (m : QSet)), .u (((x4).toNat : Nat) : Int)]) (r := .b x5) (by rw [← hx5]; exact (mark_pure x4)) rfl rfl (stripL_cons (strip_c (clo_agg (Enc.clo _))) (stripL_cons rfl rfl)) (okTrimL_cons (okTrim_clo _ _ (clo_agg (Enc.clo _))) (by kernel_rfl)) (by dsimp only [aput, List.set]) ?_
 refine w_met rfl rfl ?_
 refine w_o (a := .b (!x5)) ?_
 refine w_o (a := .b (!x5)) ?_
 refine w_mv ?_
 refine bif_e h (fun hc5 h => ?_) (fun hc5 h => ?_)
 refine w_condT hc5 rfl ?_
 refine w_seq (w_region ?_)
 refine w_mv ?_
 obtain ⟨g5, h⟩ := chk_e h
 obtain ⟨x6, hx6, h⟩ := letE_e h
 refine w_o (a := .u (((x6).toNat : Nat) : Int)) (h := op_q (by rw [← hx6]; exact (q_sidx (l := t) (n := (0 : Int)) g5 rfl rfl rfl rfl))) ?_
 refine w_mv ?_
 refine w_o (a := .i 1) ?_
 refine w_o (a := .i 0) ?_
 replace h := cut_inr h hr1
 exact end_pureF (fun (r : (Int × Int × Int)) => (.tup [.u r.1, .i r.2.1, .i r.2.2] : AV)) h (a := .tup [.u (((x6).toNat : Nat) : Int), .i 1, .i 0]) rfl (show okTrimL _ _ = true from (by kernel_rfl)) (show AV.tup (stripL _) = _ from congrArg AV.tup (stripL_cons rfl (stripL_cons rfl (stripL_cons rfl rfl))))
 refine w_condF hc5 rfl ?_
 refine w_seq (w_region ?_)
 refine w_mv ?_
 obtain ⟨g6, h⟩ := chk_e h
 obtain ⟨x7, hx7, h⟩ := letE_e h
 refine w_o (a := .u (((x7).toNat : Nat) : Int)) (h := op_q (by rw [← hx7]; exact (q_sidx (l := t) (n := (0 : Int)) g6 rfl rfl rfl rfl))) ?_
 refine w_o (a := .b ((((x7).toNat : Nat) : Int) != 92)) ?_
 refine bif_e h (fun hc6 h => ?_) (fun hc6 h => ?_)
 refine w_o (a := .b true) (h := op_q (q_bool rfl hc6)) ?_
 refine w_po ?_
 refine w_po ?_
 refine w_po ?_
 refine w_o (a := .b true) ?_
 refine w_mv ?_
 refine w_true rfl ?_
 refine w_seq (w_region ?_)
 refine w_o (a := .u 0) ?_
 refine w_o (a := .i 0) ?_
 refine w_o (a := .i 20) ?_
 replace h := cut_inr h hr1
 exact end_pureF (fun (r : (Int × Int × Int)) => (.tup [.u r.1, .i r.2.1, .i r.2.2] : AV)) h (a := .tup [.u 0, .i 0, .i 20]) rfl (show okTrimL _ _ = true from (by kernel_rfl)) (show AV.tup (stripL _) = _ from congrArg AV.tup (stripL_cons rfl (stripL_cons rfl (stripL_cons rfl rfl))))
 refine w_o (a := .b false) (h := op_q (q_bool rfl hc6)) ?_
 refine w_met rfl rfl ?_
 refine w_mv ?_
 refine w_met rfl rfl ?_
 refine w_o (a := .i (List.length t : Int)) (h := op_q (q_lenS rfl rfl rfl)) ?_
 refine w_met rfl rfl ?_
 refine w_o (a := .b (decide ((List.length t : Int) < 2))) ?_
 refine w_o (a := .b (decide ((List.length t : Int) < 2))) ?_
 refine w_mv ?_
 refine bif_e h (fun hc7 h => ?_) (fun hc7 h => ?_)
 refine w_condT hc7 rfl ?_
 refine w_seq (w_region ?_)
 refine w_o (a := .u 0) ?_
 refine w_o (a := .i 0) ?_
 refine w_o (a := .i 20) ?_
 replace h := cut_inr h hr1
 exact end_pureF (fun (r : (Int × Int × Int)) => (.tup [.u r.1, .i r.2.1, .i r.2.2] : AV)) h (a := .tup [.u 0, .i 0, .i 20]) rfl (show okTrimL _ _ = true from (by kernel_rfl)) (show AV.tup (stripL _) = _ from congrArg AV.tup (stripL_cons rfl (stripL_cons rfl (stripL_cons rfl rfl))))
 refine w_condF hc7 rfl ?_
 refine cut_done (o := or1) () h ?_
 exact wm_of (bl 91 9) (by kernel_rfl) (by kernel_rfl)
 refine h_o (a := .b false) (h := q_bool rfl hc4) ?_
 refine h_po ?_
 refine h_po ?_
 refine h_po ?_
 refine h_end ?_
 refine w_po ?_
 refine w_po ?_
 refine w_o (a := .b false) ?_
 refine w_mv ?_
 refine w_false rfl ?_
 refine w_seq (w_region ?_)
 refine w_mv ?_
 obtain ⟨g7, h⟩ := chk_e h
 obtain ⟨x8, hx8, h⟩ := letE_e h
 refine w_o (a := .u (((x8).toNat : Nat) : Int)) (h := op_q (by rw [← hx8]; exact (q_sidx (l := t) (n := (0 : Int)) g7 rfl rfl rfl rfl))) ?_
 refine w_o (a := .b ((((x8).toNat : Nat) : Int) != 92)) ?_
 refine bif_e h (fun hc8 h => ?_) (fun hc8 h => ?_)
 refine w_o (a := .b true) (h := op_q (q_bool rfl hc8)) ?_
 refine w_po ?_
 refine w_po ?_
 refine w_po ?_
 refine w_o (a := .b true) ?_
 refine w_mv ?_
 refine w_true rfl ?_
 refine w_seq (w_region ?_)
 refine w_o (a := .u 0) ?_
 refine w_o (a := .i 0) ?_
 refine w_o (a := .i 20) ?_
 replace h := cut_inr h hr1
 exact end_pureF (fun (r : (Int × Int × Int)) => (.tup [.u r.1, .i r.2.1, .i r.2.2] : AV)) h (a := .tup [.u 0, .i 0, .i 20]) rfl (show okTrimL _ _ = true from (by kernel_rfl)) (show AV.tup (stripL _) = _ from congrArg AV.tup (stripL_cons rfl (stripL_cons rfl (stripL_cons rfl rfl))))
 refine w_o (a := .b false) (h := op_q (q_bool rfl hc8)) ?_
 refine w_met rfl rfl ?_
 refine w_mv ?_
 refine w_met rfl rfl ?_
 refine w_o (a := .i (List.length t : Int)) (h := op_q (q_lenS rfl rfl rfl)) ?_
 refine w_met rfl rfl ?_
 refine w_o (a := .b (decide ((List.length t : Int) < 2))) ?_
 refine w_o (a := .b (decide ((List.length t : Int) < 2))) ?_
 refine w_mv ?_
 refine bif_e h (fun hc9 h => ?_) (fun hc9 h => ?_)
 refine w_condT hc9 rfl ?_
 refine w_seq (w_region ?_)
 refine w_o (a := .u 0) ?_
 refine w_o (a := .i 0) ?_
 refine w_o (a := .i 20) ?_
 replace h := cut_inr h hr1
 exact end_pureF (fun (r : (Int × Int × Int)) => (.tup [.u r.1, .i r.2.1, .i r.2.2] : AV)) h (a := .tup [.u 0, .i 0, .i 20]) rfl (show okTrimL _ _ = true from (by kernel_rfl)) (show AV.tup (stripL _) = _ from congrArg AV.tup (stripL_cons rfl (stripL_cons rfl (stripL_cons rfl rfl))))
 refine w_condF hc9 rfl ?_
 refine cut_done (o := or1) () h ?_
 exact wm_of (bl 91 9) (by kernel_rfl) (by kernel_rfl)
 refine h_o (a := .b false) (h := q_bool rfl hc3) ?_
 refine h_po ?_
 refine h_po ?_
 refine h_po ?_
 refine h_o (a := .b false) ?_
 refine h_mv ?_
 refine h_po ?_
 refine h_po ?_
 refine h_po ?_
 refine h_end ?_
 refine w_po ?_
 refine w_po ?_
 refine w_o (a := .b false) ?_
 refine w_mv ?_
 refine w_false rfl ?_
 refine w_seq (w_region ?_)
 refine w_mv ?_
 obtain ⟨g8, h⟩ := chk_e h
 obtain ⟨x9, hx9, h⟩ := letE_e h
 refine w_o (a := .u (((x9).toNat : Nat) : Int)) (h := op_q (by rw [← hx9]; exact (q_sidx (l := t) (n := (0 : Int)) g8 rfl rfl rfl rfl))) ?_
 refine w_o (a := .b ((((x9).toNat : Nat) : Int) != 92)) ?_
 refine bif_e h (fun hc10 h => ?_) (fun hc10 h => ?_)
 refine w_o (a := .b true) (h := op_q (q_bool rfl hc10)) ?_
 refine w_po ?_
 refine w_po ?_
 refine w_po ?_
 refine w_o (a := .b true) ?_
 refine w_mv ?_
 refine w_true rfl ?_
 refine w_seq (w_region ?_)
 refine w_o (a := .u 0) ?_
 refine w_o (a := .i 0) ?_
 refine w_o (a := .i 20) ?_
 replace h := cut_inr h hr1
 exact end_pureF (fun (r : (Int × Int × Int)) => (.tup [.u r.1, .i r.2.1, .i r.2.2] : AV)) h (a := .tup [.u 0, .i 0, .i 20]) rfl (show okTrimL _ _ = true from (by kernel_rfl)) (show AV.tup (stripL _) = _ from congrArg AV.tup (stripL_cons rfl (stripL_cons rfl (stripL_cons rfl rfl))))
 refine w_o (a := .b false) (h := op_q (q_bool rfl hc10)) ?_
 refine w_met rfl rfl ?_
 refine w_mv ?_
 refine w_met rfl rfl ?_
 refine w_o (a := .i (List.length t : Int)) (h := op_q (q_lenS rfl rfl rfl)) ?_
 refine w_met rfl rfl ?_
 refine w_o (a := .b (decide ((List.length t : Int) < 2))) ?_
 refine w_o (a := .b (decide ((List.length t : Int) < 2))) ?_
 refine w_mv ?_
 refine bif_e h (fun hc11 h => ?_) (fun hc11 h => ?_)
 refine w_condT hc11 rfl ?_
 refine w_seq (w_region ?_)
 refine w_o (a := .u 0) ?_
 refine w_o (a := .i 0) ?_
 refine w_o (a := .i 20) ?_
 replace h := cut_inr h hr1
 exact end_pureF (fun (r : (Int × Int × Int)) => (.tup [.u r.1, .i r.2.1, .i r.2.2] : AV)) h (a := .tup [.u 0, .i 0, .i 20]) rfl (show okTrimL _ _ = true from (by kernel_rfl)) (show AV.tup (stripL _) = _ from congrArg AV.tup (stripL_cons rfl (stripL_cons rfl (stripL_cons rfl rfl))))
 refine w_condF hc11 rfl ?_
 refine cut_done (o := or1) () h ?_
 exact wm_of (bl 91 9) (by kernel_rfl) (by kernel_rfl)
 refine h_o (a := .b false) (h := q_bool rfl hc2) ?_
 refine h_po ?_
 refine h_po ?_
 refine h_po ?_
 refine h_o (a := .b false) ?_
 refine h_mv ?_
 refine h_po ?_
 refine h_po ?_
 refine h_po ?_
 refine h_o (a := .b false) ?_
 refine h_mv ?_
 refine h_po ?_
 refine h_po ?_
 refine h_po ?_
 refine h_end ?_
 refine w_po ?_
 refine w_po ?_
 refine w_o (a := .b false) ?_
 refine w_mv ?_
 refine w_false rfl ?_
 refine w_seq (w_region ?_)
 refine w_mv ?_
 obtain ⟨g9, h⟩ := chk_e h
 obtain ⟨x10, hx10, h⟩ := letE_e h
 refine w_o (a := .u (((x10).toNat : Nat) : Int)) (h := op_q (by rw [← hx10]; exact (q_sidx (l := t) (n := (0 : Int)) g9 rfl rfl rfl rfl))) ?_
 refine w_o (a := .b ((((x10).toNat : Nat) : Int) != 92)) ?_
 refine bif_e h (fun hc12 h => ?_) (fun hc12 h => ?_)
 refine w_o (a := .b true) (h := op_q (q_bool rfl hc12)) ?_
 refine w_po ?_
 refine w_po ?_
 refine w_po ?_
 refine w_o (a := .b true) ?_
 refine w_mv ?_
 refine w_true rfl ?_
 refine w_seq (w_region ?_)
 refine w_o (a := .u 0) ?_
 refine w_o (a := .i 0) ?_
 refine w_o (a := .i 20) ?_
 replace h := cut_inr h hr1
 exact end_pureF (fun (r : (Int × Int × Int)) => (.tup [.u r.1, .i r.2.1, .i r.2.2] : AV)) h (a := .tup [.u 0, .i 0, .i 20]) rfl (show okTrimL _ _ = true from (by kernel_rfl)) (show AV.tup (stripL _) = _ from congrArg AV.tup (stripL_cons rfl (stripL_cons rfl (stripL_cons rfl rfl))))
 refine w_o (a := .b false) (h := op_q (q_bool rfl hc12)) ?_
 refine w_met rfl rfl ?_
 refine w_mv ?_
 refine w_met rfl rfl ?_
 refine w_o (a := .i (List.length t : Int)) (h := op_q (q_lenS rfl rfl rfl)) ?_
 refine w_met rfl rfl ?_
 refine w_o (a := .b (decide ((List.length t : Int) < 2))) ?_
 refine w_o (a := .b (decide ((List.length t : Int) < 2))) ?_
 refine w_mv ?_
 refine bif_e h (fun hc13 h => ?_) (fun hc13 h => ?_)
 refine w_condT hc13 rfl ?_
 refine w_seq (w_region ?_)
 refine w_o (a := .u 0) ?_
 refine w_o (a := .i 0) ?_
 refine w_o (a := .i 20) ?_
 replace h := cut_inr h hr1
 exact end_pureF (fun (r : (Int × Int × Int)) => (.tup [.u r.1, .i r.2.1, .i r.2.2] : AV)) h (a := .tup [.u 0, .i 0, .i 20]) rfl (show okTrimL _ _ = true from (by kernel_rfl)) (show AV.tup (stripL _) = _ from congrArg AV.tup (stripL_cons rfl (stripL_cons rfl (stripL_cons rfl rfl))))
 refine w_condF hc13 rfl ?_
 refine cut_done (o := or1) () h ?_
 exact wm_of (bl 91 9) (by kernel_rfl) (by kernel_rfl)
 intro j1 h
 refine w_start (by dsimp only [setAll, topAll, List.foldl, List.set]) rfl ?_
 refine w_seq (w_region ?_)
 refine w_mv ?_
 obtain ⟨g10, h⟩ := chk_e h
 obtain ⟨x11, hx11, h⟩ := letE_e h
 refine w_o (a := .u (((x11).toNat : Nat) : Int)) (h := op_q (by rw [← hx11]; exact (q_sidx (l := t) (n := (1 : Int)) g10 rfl rfl rfl rfl))) ?_
 refine w_mv ?_
 refine w_seq (w_region ?_)
 refine w_mv ?_
 obtain ⟨x12, hx12, h⟩ := letE_e h
 refine w_callc (args' := [.s ([110, 114, 116] : List UInt8), .u (((x11).toNat : Nat) : Int)]) (r := .i x12) (by rw [← hx12]; exact (ixb_pure ([110, 114, 116] : List UInt8) x11)) rfl rfl (stripL_cons rfl (stripL_cons rfl rfl)) (by kernel_rfl) (by dsimp only [aput, List.set]) ?_
 refine w_mv ?_
 refine w_cutF h [0, 3, 4, 5, 6, 7, 8, 44, 45, 46, 47, 48, 49, 50, 51, 52, 53, 54, 55, 56, 57, 58, 59, 60, 61, 62, 63, 64, 65, 66, 67, 68, 69, 70, 71, 72, 73, 74, 75, 76, 77, 78, 79, 80, 81, 82, 83, 84, 85, 86, 87, 88, 89, 90] (fun j2 => []) (fun j2 => ⟨[(129, (Enc.cells (m : QSet)))], [], [], 0, false⟩) ?_ ?_
 intro or2 h hr2
 refine w_block ?_
 refine w_seq (w_region ?_)
 refine w_mv ?_
 refine w_o (a := .b ((((x11).toNat : Nat) : Int) == 120)) ?_
 refine bif_e h (fun hc14 h => ?_) (fun hc14 h => ?_)
 refine w_o (a := .b true) (h := op_q (q_bool rfl hc14)) ?_
 refine w_met rfl rfl ?_
 refine w_mv ?_
 refine w_met rfl rfl ?_
 refine w_o (a := .i (List.length t : Int)) (h := op_q (q_lenS rfl rfl rfl)) ?_
 refine w_met rfl rfl ?_
 refine w_o (a := .b (decide ((List.length t : Int) > 3))) ?_
 refine w_o (a := .b (decide ((List.length t : Int) > 3))) ?_
 refine bif_e h (fun hc15 h => ?_) (fun hc15 h => ?_)
 refine w_o (a := .b true) (h := op_q (q_bool rfl hc15)) ?_
 refine w_met rfl rfl ?_
 refine w_mv ?_
 refine w_met rfl rfl ?_
 obtain ⟨g11, h⟩ := chk_e h
 obtain ⟨x13, hx13, h⟩ := letE_e h
 refine w_o (a := .u (((x13).toNat : Nat) : Int)) (h := op_q (by rw [← hx13]; exact (q_sidx (l := t) (n := (2 : Int)) g11 rfl rfl rfl rfl))) ?_
 refine w_met rfl rfl ?_
 obtain ⟨x14, hx14, h⟩ := letE_e h
 refine w_callc (args' := [.u (((x13).toNat : Nat) : Int)]) (r := .i x14) (by rw [← hx14]; exact (nib_pure x13)) rfl rfl (stripL_cons rfl rfl) (by kernel_rfl) (by dsimp only [aput, List.set]) ?_
 refine w_met rfl rfl ?_
 refine w_o (a := .b (decide (x14 < 16))) ?_
 refine w_o (a := .b (decide (x14 < 16))) ?_
 refine bif_e h (fun hc16 h => ?_) (fun hc16 h => ?_)
 refine w_o (a := .b true) (h := op_q (q_bool rfl hc16)) ?_
 refine w_met rfl rfl ?_
 refine w_mv ?_
 refine w_met rfl rfl ?_
 obtain ⟨g12, h⟩ := chk_e h
 obtain ⟨x15, hx15, h⟩ := letE_e h
 refine w_o (a := .u (((x15).toNat : Nat) : Int)) (h := op_q (by rw [← hx15]; exact (q_sidx (l := t) (n := (3 : Int)) g12 rfl rfl rfl rfl))) ?_
 refine w_met rfl rfl ?_
 obtain ⟨x16, hx16, h⟩ := letE_e h
 refine w_callc (args' := [.u (((x15).toNat : Nat) : Int)]) (r := .i x16) (by rw [← hx16]; exact (nib_pure x15)) rfl rfl (stripL_cons rfl rfl) (by kernel_rfl) (by dsimp only [aput, List.set]) ?_
 refine w_met rfl rfl ?_
 refine w_o (a := .b (decide (x16 < 16))) ?_
 refine w_o (a := .b (decide (x16 < 16))) ?_
 refine w_mv ?_
 refine bif_e h (fun hc17 h => ?_) (fun hc17 h => ?_)
 refine w_condT hc17 rfl ?_
 refine w_seq ?_
 refine w_draw (k0 := 0) (id := 10) 7 (by kernel_rfl) (by kernel_rfl) ?_
 refine h_mv ?_
 obtain ⟨g13, h⟩ := chk_e h
 obtain ⟨x17, hx17, h⟩ := letE_e h
 refine h_o (a := .u (((x17).toNat : Nat) : Int)) (h := by rw [← hx17]; exact (q_sidx (l := t) (n := (2 : Int)) g13 rfl rfl rfl rfl)) ?_
 obtain ⟨x18, hx18, h⟩ := letE_e h
 refine h_call (args' := [.u (((x17).toNat : Nat) : Int)]) (r := .i x18) (by rw [← hx18]; exact (nib_pure x17)) rfl rfl rfl (stripL_cons rfl rfl) (by kernel_rfl) (by dsimp only [aput, List.set]) ?_
 refine h_o (a := .i (shlI .i64 x18 4)) (h := q_shl (by decide) rfl rfl rfl) ?_
 refine h_mv ?_
 obtain ⟨g14, h⟩ := chk_e h
 obtain ⟨x19, hx19, h⟩ := letE_e h
 refine h_o (a := .u (((x19).toNat : Nat) : Int)) (h := by rw [← hx19]; exact (q_sidx (l := t) (n := (3 : Int)) g14 rfl rfl rfl rfl)) ?_
 obtain ⟨x20, hx20, h⟩ := letE_e h
 refine h_call (args' := [.u (((x19).toNat : Nat) : Int)]) (r := .i x20) (by rw [← hx20]; exact (nib_pure x19)) rfl rfl rfl (stripL_cons rfl rfl) (by kernel_rfl) (by dsimp only [aput, List.set]) ?_
 refine h_end ?_
 refine w_o (a := .i (orI .i64 (shlI .i64 x18 4) x20)) ?_
 refine w_o (a := .u (IntKind.u8.wrap (orI .i64 (shlI .i64 x18 4) x20))) ?_
 refine w_mv ?_
 refine w_o (a := .i 4) ?_
 refine w_o (a := .i 0) ?_
 replace h := cut_inr h hr2
 exact end_pureF (fun (r : (Int × Int × Int)) => (.tup [.u r.1, .i r.2.1, .i r.2.2] : AV)) h (a := .tup [.u (IntKind.u8.wrap (orI .i64 (shlI .i64 x18 4) x20)), .i 4, .i 0]) rfl (show okTrimL _ _ = true from (by kernel_rfl)) (show AV.tup (stripL _) = _ from congrArg AV.tup (stripL_cons rfl (stripL_cons rfl (stripL_cons rfl rfl))))
 refine w_condF hc17 rfl ?_
 refine w_seq (w_region ?_)
 refine w_mv ?_
 refine w_o (a := .b ((((x11).toNat : Nat) : Int) == 92)) ?_
 refine bif_e h (fun hc18 h => ?_) (fun hc18 h => ?_)
 refine w_o (a := .b true) (h := op_q (q_bool rfl hc18)) ?_
 refine w_po ?_
 refine w_po ?_
 refine w_po ?_
 refine w_o (a := .b true) ?_
 refine w_mv ?_
 refine w_true rfl ?_
 refine w_seq (w_region ?_)
 refine w_mv ?_
 refine w_mv ?_
 refine w_o (a := .i 2) ?_
 refine w_o (a := .i 0) ?_
 replace h := cut_inr h hr2
 exact end_pureF (fun (r : (Int × Int × Int)) => (.tup [.u r.1, .i r.2.1, .i r.2.2] : AV)) h (a := .tup [.u (((x11).toNat : Nat) : Int), .i 2, .i 0]) rfl (show okTrimL _ _ = true from (by kernel_rfl)) (show AV.tup (stripL _) = _ from congrArg AV.tup (stripL_cons rfl (stripL_cons rfl (stripL_cons rfl rfl))))
 refine w_o (a := .b false) (h := op_q (q_bool rfl hc18)) ?_
 refine w_met rfl rfl ?_
 refine w_o (a := .agg (Enc.cells (m : QSet))) ?_
 refine w_met rfl rfl ?_
 refine w_mv ?_
 refine w_met rfl rfl ?_
 obtain ⟨x21, hx21, h⟩ := letE_e h
 refine w_callc (args' := [.agg (Enc.cells (m : QSet)), .u (((x11).toNat : Nat) : Int)]) (r := .b x21) (by rw [← hx21]; exact (mark_pure x11)) rfl rfl (stripL_cons (strip_c (clo_agg (Enc.clo _))) (stripL_cons rfl rfl)) (okTrimL_cons (okTrim_clo _ _ (clo_agg (Enc.clo _))) (by kernel_rfl)) (by dsimp only [aput, List.set]) ?_
 refine w_o (a := .b x21) ?_
 refine w_mv ?_
 refine bif_e h (fun hc19 h => ?_) (fun hc19 h => ?_)
 refine w_condT hc19 rfl ?_
 refine w_seq (w_region ?_)
 refine w_mv ?_
 refine w_mv ?_
 refine w_o (a := .i 2) ?_
 refine w_o (a := .i 0) ?_
 replace h := cut_inr h hr2
 exact end_pureF (fun (r : (Int × Int × Int)) => (.tup [.u r.1, .i r.2.1, .i r.2.2] : AV)) h (a := .tup [.u (((x11).toNat : Nat) : Int), .i 2, .i 0]) rfl (show okTrimL _ _ = true from (by kernel_rfl)) (show AV.tup (stripL _) = _ from congrArg AV.tup (stripL_cons rfl (stripL_cons rfl (stripL_cons rfl rfl))))
 refine w_condF hc19 rfl ?_
 refine w_seq (w_region ?_)
 refine w_mv ?_
 refine w_o (a := .b (decide (x12 ≥ 0))) ?_
 refine w_mv ?_
 refine bif_e h (fun hc20 h => ?_) (fun hc20 h => ?_)
 refine w_condT hc20 rfl ?_
 refine w_seq (w_region ?_)
 refine w_mv ?_
 obtain ⟨g15, h⟩ := chk_e h
 obtain ⟨x22, hx22, h⟩ := letE_e h
 refine w_o (a := .u (((x22).toNat : Nat) : Int)) (h := op_q (by rw [← hx22]; exact (q_sidx (l := ([10, 13, 9] : List UInt8)) (n := x12) g15 rfl rfl rfl rfl))) ?_
 refine w_mv ?_
 refine w_o (a := .i 2) ?_
 refine w_o (a := .i 0) ?_
 replace h := cut_inr h hr2
 exact end_pureF (fun (r : (Int × Int × Int)) => (.tup [.u r.1, .i r.2.1, .i r.2.2] : AV)) h (a := .tup [.u (((x22).toNat : Nat) : Int), .i 2, .i 0]) rfl (show okTrimL _ _ = true from (by kernel_rfl)) (show AV.tup (stripL _) = _ from congrArg AV.tup (stripL_cons rfl (stripL_cons rfl (stripL_cons rfl rfl))))
 refine w_condF hc20 rfl ?_
 refine cut_done (o := or2) () h ?_
 exact wm_of (bl 91 17592186043910) (by kernel_rfl) (by kernel_rfl)
 refine w_o (a := .b false) (h := op_q (q_bool rfl hc16)) ?_
 refine w_po ?_
 refine w_po ?_
 refine w_po ?_
 refine w_po ?_
 refine w_o (a := .b false) ?_
 refine w_mv ?_
 refine w_false rfl ?_
 refine w_seq (w_region ?_)
 refine w_mv ?_
 refine w_o (a := .b ((((x11).toNat : Nat) : Int) == 92)) ?_
 refine bif_e h (fun hc21 h => ?_) (fun hc21 h => ?_)
 refine w_o (a := .b true) (h := op_q (q_bool rfl hc21)) ?_
 refine w_po ?_
 refine w_po ?_
 refine w_po ?_
 refine w_o (a := .b true) ?_
 refine w_mv ?_
 refine w_true rfl ?_
 refine w_seq (w_region ?_)
 refine w_mv ?_
 refine w_mv ?_
 refine w_o (a := .i 2) ?_
 refine w_o (a := .i 0) ?_
 replace h := cut_inr h hr2
 exact end_pureF (fun (r : (Int × Int × Int)) => (.tup [.u r.1, .i r.2.1, .i r.2.2] : AV)) h (a := .tup [.u (((x11).toNat : Nat) : Int), .i 2, .i 0]) rfl (show okTrimL _ _ = true from (by kernel_rfl)) (show AV.tup (stripL _) = _ from congrArg AV.tup (stripL_cons rfl (stripL_cons rfl (stripL_cons rfl rfl))))
 refine w_o (a := .b false) (h := op_q (q_bool rfl hc21)) ?_
 refine w_met rfl rfl ?_
 refine w_o (a := .agg (Enc.cells (m : QSet))) ?_
 refine w_met rfl rfl ?_
 refine w_mv ?_
 refine w_met rfl rfl ?_
 obtain ⟨x23, hx23, h⟩ := letE_e h
 refine w_callc (args' := [.agg (Enc.cells (m : QSet)), .u (((x11).toNat : Nat) : Int)]) (r := .b x23) (by rw [← hx23]; exact (mark_pure x11)) rfl rfl (stripL_cons (strip_c (clo_agg (Enc.clo _))) (stripL_cons rfl rfl)) (okTrimL_cons (okTrim_clo _ _ (clo_agg (Enc.clo _))) (by kernel_rfl)) (by dsimp only [aput, List.set]) ?_
 refine w_o (a := .b x23) ?_
 refine w_mv ?_
 refine bif_e h (fun hc22 h => ?_) (fun hc22 h => ?_)
 refine w_condT hc22 rfl ?_
 refine w_seq (w_region ?_)
 refine w_mv ?_
 refine w_mv ?_
 refine w_o (a := .i 2) ?_
 refine w_o (a := .i 0) ?_
 replace h := cut_inr h hr2
 exact end_pureF (fun (r : (Int × Int × Int)) => (.tup [.u r.1, .i r.2.1, .i r.2.2] : AV)) h (a := .tup [.u (((x11).toNat : Nat) : Int), .i 2, .i 0]) rfl (show okTrimL _ _ = true from (by kernel_rfl)) (show AV.tup (stripL _) = _ from congrArg AV.tup (stripL_cons rfl (stripL_cons rfl (stripL_cons rfl rfl))))
 refine w_condF hc22 rfl ?_
 refine w_seq (w_region ?_)
 refine w_mv ?_
 refine w_o (a := .b (decide (x12 ≥ 0))) ?_
 refine w_mv ?_
 refine bif_e h (fun hc23 h => ?_) (fun hc23 h => ?_)
 refine w_condT hc23 rfl ?_
 refine w_seq (w_region ?_)
 refine w_mv ?_
 obtain ⟨g16, h⟩ := chk_e h
 obtain ⟨x24, hx24, h⟩ := letE_e h
 refine w_o (a := .u (((x24).toNat : Nat) : Int)) (h := op_q (by rw [← hx24]; exact (q_sidx (l := ([10, 13, 9] : List UInt8)) (n := x12) g16 rfl rfl rfl rfl))) ?_
 refine w_mv ?_
 refine w_o (a := .i 2) ?_
 refine w_o (a := .i 0) ?_
 replace h := cut_inr h hr2
 exact end_pureF (fun (r : (Int × Int × Int)) => (.tup [.u r.1, .i r.2.1, .i r.2.2] : AV)) h (a := .tup [.u (((x24).toNat : Nat) : Int), .i 2, .i 0]) rfl (show okTrimL _ _ = true from (by kernel_rfl)) (show AV.tup (stripL _) = _ from congrArg AV.tup (stripL_cons rfl (stripL_cons rfl (stripL_cons rfl rfl))))
 refine w_condF hc23 rfl ?_
 refine cut_done (o := or2) () h ?_
 exact wm_of (bl 91 17592186043910) (by kernel_rfl) (by kernel_rfl)
 refine w_o (a := .b false) (h := op_q (q_bool rfl hc15)) ?_
 refine w_po ?_
 refine w_po ?_
 refine w_po ?_
 refine w_po ?_
 refine w_o (a := .b false) ?_
 refine w_mv ?_
 refine w_po ?_
 refine w_po ?_
 refine w_po ?_
 refine w_po ?_
 refine w_o (a := .b false) ?_
 refine w_mv ?_
 refine w_false rfl ?_
 refine w_seq (w_region ?_)
 refine w_mv ?_
 refine w_o (a := .b ((((x11).toNat : Nat) : Int) == 92)) ?_
 refine bif_e h (fun hc24 h => ?_) (fun hc24 h => ?_)
 refine w_o (a := .b true) (h := op_q (q_bool rfl hc24)) ?_
 refine w_po ?_
 refine w_po ?_
 refine w_po ?_
 refine w_o (a := .b true) ?_
 refine w_mv ?_
 refine w_true rfl ?_
 refine w_seq (w_region ?_)
 refine w_mv ?_
 refine w_mv ?_
 refine w_o (a := .i 2) ?_
 refine w_o (a := .i 0) ?_
 replace h := cut_inr h hr2
 exact end_pureF (fun (r : (Int × Int × Int)) => (.tup [.u r.1, .i r.2.1, .i r.2.2] : AV)) h (a := .tup [.u (((x11).toNat : Nat) : Int), .i 2, .i 0]) rfl (show okTrimL _ _ = true from (by kernel_rfl)) (show AV.tup (stripL _) = _ from congrArg AV.tup (stripL_cons rfl (stripL_cons rfl (stripL_cons rfl rfl))))
 refine w_o (a := .b false) (h := op_q (q_bool rfl hc24)) ?_
 refine w_met rfl rfl ?_
 refine w_o (a := .agg (Enc.cells (m : QSet))) ?_
 refine w_met rfl rfl ?_
 refine w_mv ?_
 refine w_met rfl rfl ?_
 obtain ⟨x25, hx25, h⟩ := letE_e h
 refine w_callc (args' := [.agg (Enc.cells (m : QSet)), .u (((x11).toNat : Nat) : Int)]) (r := .b x25) (by rw [← hx25]; exact (mark_pure x11)) rfl rfl (stripL_cons (strip_c (clo_agg (Enc.clo _))) (stripL_cons rfl rfl)) (okTrimL_cons (okTrim_clo _ _ (clo_agg (Enc.clo _))) (by kernel_rfl)) (by dsimp only [aput, List.set]) ?_
 refine w_o (a := .b x25) ?_
 refine w_mv ?_
 refine bif_e h (fun hc25 h => ?_) (fun hc25 h => ?_)
 refine w_condT hc25 rfl ?_
 refine w_seq (w_region ?_)
 refine w_mv ?_
 refine w_mv ?_
 refine w_o (a := .i 2) ?_
 refine w_o (a := .i 0) ?_
 replace h := cut_inr h hr2
 exact end_pureF (fun (r : (Int × Int × Int)) => (.tup [.u r.1, .i r.2.1, .i r.2.2] : AV)) h (a := .tup [.u (((x11).toNat : Nat) : Int), .i 2, .i 0]) rfl (show okTrimL _ _ = true from (by kernel_rfl)) (show AV.tup (stripL _) = _ from congrArg AV.tup (stripL_cons rfl (stripL_cons rfl (stripL_cons rfl rfl))))
 refine w_condF hc25 rfl ?_
 refine w_seq (w_region ?_)
 refine w_mv ?_
 refine w_o (a := .b (decide (x12 ≥ 0))) ?_
 refine w_mv ?_
 refine bif_e h (fun hc26 h => ?_) (fun hc26 h => ?_)
 refine w_condT hc26 rfl ?_
 refine w_seq (w_region ?_)
 refine w_mv ?_
 obtain ⟨g17, h⟩ := chk_e h
 obtain ⟨x26, hx26, h⟩ := letE_e h
 refine w_o (a := .u (((x26).toNat : Nat) : Int)) (h := op_q (by rw [← hx26]; exact (q_sidx (l := ([10, 13, 9] : List UInt8)) (n := x12) g17 rfl rfl rfl rfl))) ?_
 refine w_mv ?_
 refine w_o (a := .i 2) ?_
 refine w_o (a := .i 0) ?_
 replace h := cut_inr h hr2
 exact end_pureF (fun (r : (Int × Int × Int)) => (.tup [.u r.1, .i r.2.1, .i r.2.2] : AV)) h (a := .tup [.u (((x26).toNat : Nat) : Int), .i 2, .i 0]) rfl (show okTrimL _ _ = true from (by kernel_rfl)) (show AV.tup (stripL _) = _ from congrArg AV.tup (stripL_cons rfl (stripL_cons rfl (stripL_cons rfl rfl))))
 refine w_condF hc26 rfl ?_
 refine cut_done (o := or2) () h ?_
 exact wm_of (bl 91 17592186043910) (by kernel_rfl) (by kernel_rfl)
 refine w_o (a := .b false) (h := op_q (q_bool rfl hc14)) ?_
 refine w_po ?_
 refine w_po ?_
 refine w_po ?_
 refine w_o (a := .b false) ?_
 refine w_mv ?_
 refine w_po ?_
 refine w_po ?_
 refine w_po ?_
 refine w_po ?_
 refine w_o (a := .b false) ?_
 refine w_mv ?_
 refine w_po ?_
 refine w_po ?_
 refine w_po ?_
 refine w_po ?_
 refine w_o (a := .b false) ?_
 refine w_mv ?_
 refine w_false rfl ?_
 refine w_seq (w_region ?_)
 refine w_mv ?_
 refine w_o (a := .b ((((x11).toNat : Nat) : Int) == 92)) ?_
 refine bif_e h (fun hc27 h => ?_) (fun hc27 h => ?_)
 refine w_o (a := .b true) (h := op_q (q_bool rfl hc27)) ?_
 refine w_po ?_
 refine w_po ?_
 refine w_po ?_
 refine w_o (a := .b true) ?_
 refine w_mv ?_
 refine w_true rfl ?_
 refine w_seq (w_region ?_)
 refine w_mv ?_
 refine w_mv ?_
 refine w_o (a := .i 2) ?_
 refine w_o (a := .i 0) ?_
 replace h := cut_inr h hr2
 exact end_pureF (fun (r : (Int × Int × Int)) => (.tup [.u r.1, .i r.2.1, .i r.2.2] : AV)) h (a := .tup [.u (((x11).toNat : Nat) : Int), .i 2, .i 0]) rfl (show okTrimL _ _ = true from (by kernel_rfl)) (show AV.tup (stripL _) = _ from congrArg AV.tup (stripL_cons rfl (stripL_cons rfl (stripL_cons rfl rfl))))
 refine w_o (a := .b false) (h := op_q (q_bool rfl hc27)) ?_
 refine w_met rfl rfl ?_
 refine w_o (a := .agg (Enc.cells (m : QSet))) ?_
 refine w_met rfl rfl ?_
 refine w_mv ?_
 refine w_met rfl rfl ?_
 obtain ⟨x27, hx27, h⟩ := letE_e h
 refine w_callc (args' := [.agg (Enc.cells (m : QSet)), .u (((x11).toNat : Nat) : Int)]) (r := .b x27) (by rw [← hx27]; exact (mark_pure x11)) rfl rfl (stripL_cons (strip_c (clo_agg (Enc.clo _))) (stripL_cons rfl rfl)) (okTrimL_cons (okTrim_clo _ _ (clo_agg (Enc.clo _))) (by kernel_rfl)) (by dsimp only [aput, List.set]) ?_
 refine w_o (a := .b x27) ?_
 refine w_mv ?_
 refine bif_e h (fun hc28 h => ?_) (fun hc28 h => ?_)
 refine w_condT hc28 rfl ?_
 refine w_seq (w_region ?_)
 refine w_mv ?_
 refine w_mv ?_
 refine w_o (a := .i 2) ?_
 refine w_o (a := .i 0) ?_
 replace h := cut_inr h hr2
 exact end_pureF (fun (r : (Int × Int × Int)) => (.tup [.u r.1, .i r.2.1, .i r.2.2] : AV)) h (a := .tup [.u (((x11).toNat : Nat) : Int), .i 2, .i 0]) rfl (show okTrimL _ _ = true from (by kernel_rfl)) (show AV.tup (stripL _) = _ from congrArg AV.tup (stripL_cons rfl (stripL_cons rfl (stripL_cons rfl rfl))))
 refine w_condF hc28 rfl ?_
 refine w_seq (w_region ?_)
 refine w_mv ?_
 refine w_o (a := .b (decide (x12 ≥ 0))) ?_
 refine w_mv ?_
 refine bif_e h (fun hc29 h => ?_) (fun hc29 h => ?_)
 refine w_condT hc29 rfl ?_
 refine w_seq (w_region ?_)
 refine w_mv ?_
 obtain ⟨g18, h⟩ := chk_e h
 obtain ⟨x28, hx28, h⟩ := letE_e h
 refine w_o (a := .u (((x28).toNat : Nat) : Int)) (h := op_q (by rw [← hx28]; exact (q_sidx (l := ([10, 13, 9] : List UInt8)) (n := x12) g18 rfl rfl rfl rfl))) ?_
 refine w_mv ?_
 refine w_o (a := .i 2) ?_
 refine w_o (a := .i 0) ?_
 replace h := cut_inr h hr2
 exact end_pureF (fun (r : (Int × Int × Int)) => (.tup [.u r.1, .i r.2.1, .i r.2.2] : AV)) h (a := .tup [.u (((x28).toNat : Nat) : Int), .i 2, .i 0]) rfl (show okTrimL _ _ = true from (by kernel_rfl)) (show AV.tup (stripL _) = _ from congrArg AV.tup (stripL_cons rfl (stripL_cons rfl (stripL_cons rfl rfl))))
 refine w_condF hc29 rfl ?_
 refine cut_done (o := or2) () h ?_
 exact wm_of (bl 91 17592186043910) (by kernel_rfl) (by kernel_rfl)
 intro j2 h
 refine w_start (by dsimp only [setAll, topAll, List.foldl, List.set]) rfl ?_
 refine w_seq (w_region ?_)
 refine w_o (a := .u 0) ?_
 refine w_o (a := .i 0) ?_
 refine w_o (a := .i 20) ?_
 exact end_pureF (fun (r : (Int × Int × Int)) => (.tup [.u r.1, .i r.2.1, .i r.2.2] : AV)) h (a := .tup [.u 0, .i 0, .i 20]) rfl (show okTrimL _ _ = true from (by kernel_rfl)) (show AV.tup (stripL _) = _ from congrArg AV.tup (stripL_cons rfl (stripL_cons rfl (stripL_cons rfl rfl))))
def F_unquote (fuel : Nat) (t : (List UInt8)) : Option ((List UInt8) × Int × Int) :=
  (bif (t == ([] : List UInt8)) then (some (([] : List UInt8), 0, 21)) else (chk (0 ≤ (0 : Int) ∧ (0 : Int) < (List.length t : Int)) (letE (ix t (0 : Int)) (fun x1 => (bif ((((x1).toNat : Nat) : Int) != 34) then (some (([] : List UInt8), 0, 21)) else (cutE (τ := (List UInt8)) (loopE (β := (List UInt8) × Int) (fun s1 => (bif (decide (s1.2 < (List.length t : Int))) then (chk (0 ≤ s1.2 ∧ s1.2 < (List.length t : Int)) (letE (ix t s1.2) (fun x2 => (bif ((((x2).toNat : Nat) : Int) == 34) then (chk (-9223372036854775808 ≤ (s1.2 + 1) ∧ (s1.2 + 1) < 9223372036854775808) (some (Sum.inr (Sum.inr (s1.1, (s1.2 + 1), 0))))) else (chk (0 ≤ s1.2 ∧ s1.2 ≤ (List.length t : Int) ∧ (List.length t : Int) ≤ (List.length t : Int)) (letE (sub t s1.2 (List.length t : Int)) (fun x3 => (bindE (F_readbyte x3 QSet.mk) (fun x4 => (bif (x4.2.2 != 0) then (some (Sum.inr (Sum.inr (([] : List UInt8), s1.2, x4.2.2)))) else (chk (0 ≤ x4.1 ∧ x4.1 < 256) (chk ((List.length s1.1 + List.length ([(u8of x4.1)] : List UInt8)) * 1 ≤ 140737488355328) (chk (-9223372036854775808 ≤ (s1.2 + x4.2.1) ∧ (s1.2 + x4.2.1) < 9223372036854775808) (some (Sum.inl ((s1.1 ++ ([(u8of x4.1)] : List UInt8)), (s1.2 + x4.2.1))))))))))))))))) else (some (Sum.inr (Sum.inl (s1.1)))))) fuel (([] : (List UInt8)), 1)) (fun j1 => (some (([] : List UInt8), (List.length t : Int), 21)))))))))
theorem ent85 : Ent Tryz.prog 85 := enters_of Tryz.func85 (by kernel_rfl) rfl
set_option maxRecDepth 100000 in
set_option maxHeartbeats 4000000 in
theorem unquote_sh (fuel : Nat) (t : (List UInt8)) (r : ((List UInt8) × Int × Int)) (h : F_unquote fuel t = some r) : Pure (ITP Tryz.prog) Tryz.prog 85 [.raw (.string (bs t))] (.tup [.raw (.string (bs r.1)), .raw (.int .i64 r.2.1), .raw (.int .i64 r.2.2)]) := by
 obtain ⟨d, hd⟩ : ∃ d, Tryz.f85.body = some d := ⟨_, rfl⟩
 refine pure_of mix Tryz.func85 hd ent85 ?_
 cases hd
 unfold F_unquote at h
 refine w_start (by dsimp only [abeginS, Tryz.f85, List.length_cons, List.length_nil, Nat.zero_add, Nat.reduceAdd, Nat.reduceSub, List.replicate, List.cons_append, List.nil_append]) (by dsimp only [St.empty]) ?_
 refine w_seq (w_region ?_)
 refine w_o (a := .s ([] : List UInt8)) ?_
 refine w_o (a := .i 0) ?_
 refine w_o (a := .i 0) ?_
 refine w_seq ?_
 refine w_seq (w_region ?_)
 refine w_mv ?_
 refine w_o (a := .b (t == ([] : List UInt8))) (h := op_q (q_streq rfl rfl rfl)) ?_
 refine bif_e h (fun hc1 h => ?_) (fun hc1 h => ?_)
 refine w_o (a := .b true) (h := op_q (q_bool rfl hc1)) ?_
 refine w_po ?_
 refine w_po ?_
 refine w_po ?_
 refine w_o (a := .b true) ?_
 refine w_true rfl ?_
 refine w_seq (w_region ?_)
 refine w_o (a := .s ([] : List UInt8)) ?_
 refine w_o (a := .i 0) ?_
 refine w_o (a := .i 21) ?_
 exact end_pureF (fun (r : ((List UInt8) × Int × Int)) => (.tup [.s r.1, .i r.2.1, .i r.2.2] : AV)) h (a := .tup [.s ([] : List UInt8), .i 0, .i 21]) rfl (show okTrimL _ _ = true from (by kernel_rfl)) (show AV.tup (stripL _) = _ from congrArg AV.tup (stripL_cons rfl (stripL_cons rfl (stripL_cons rfl rfl))))
 refine w_o (a := .b false) (h := op_q (q_bool rfl hc1)) ?_
 refine w_met rfl rfl ?_
 refine w_mv ?_
 refine w_met rfl rfl ?_
 obtain ⟨g1, h⟩ := chk_e h
 obtain ⟨x1, hx1, h⟩ := letE_e h
 refine w_o (a := .u (((x1).toNat : Nat) : Int)) (h := op_q (by rw [← hx1]; exact (q_sidx (l := t) (n := (0 : Int)) g1 rfl rfl rfl rfl))) ?_
 refine w_met rfl rfl ?_
 refine w_o (a := .b ((((x1).toNat : Nat) : Int) != 34)) ?_
 refine w_o (a := .b ((((x1).toNat : Nat) : Int) != 34)) ?_
 refine bif_e h (fun hc2 h => ?_) (fun hc2 h => ?_)
 refine w_condT hc2 rfl ?_
 refine w_seq (w_region ?_)
 refine w_o (a := .s ([] : List UInt8)) ?_
 refine w_o (a := .i 0) ?_
 refine w_o (a := .i 21) ?_
 exact end_pureF (fun (r : ((List UInt8) × Int × Int)) => (.tup [.s r.1, .i r.2.1, .i r.2.2] : AV)) h (a := .tup [.s ([] : List UInt8), .i 0, .i 21]) rfl (show okTrimL _ _ = true from (by kernel_rfl)) (show AV.tup (stripL _) = _ from congrArg AV.tup (stripL_cons rfl (stripL_cons rfl (stripL_cons rfl rfl))))
 refine w_condF hc2 rfl ?_
 refine w_seq (w_region ?_)
 refine w_o (a := .list 0 [] .full) ?_
 refine w_cutF h [1, 2, 3, 4, 5, 6, 7, 8, 9, 10, 11, 12, 13, 14, 15, 16, 17, 18, 19, 20, 21, 22, 23, 24, 25, 26, 27, 28, 29, 30, 31, 32, 33, 34, 35, 36, 37, 38, 39, 40, 41, 42, 43, 44, 45, 46, 47, 48, 49, 50, 51] (fun j1 => [(5, (ownAV (List.length (j1 : List UInt8)) (Enc.cellsL (j1 : List UInt8))))]) (fun j1 => (ownSt [] 5 (List.length (j1 : List UInt8)) 1)) ?_ ?_
 intro or1 h hr1
 refine w_seq (w_region ?_)
 refine w_o (a := .i 1) ?_
 refine w_block ?_
 refine w_loopF h [1, 2, 3, 4, 5, 6, 7, 8, 9, 10, 11, 12, 13, 14, 15, 16, 17, 18, 19, 20, 21, 22, 23, 24, 25, 26, 27, 28, 29, 30, 31, 32, 33, 34, 35, 36, 37, 38, 39, 40, 41, 42, 43, 44, 45, 46, 47, 48, 49, 50, 51] (fun s1 => [(5, (ownAV (List.length (s1.1 : List UInt8)) (Enc.cellsL (s1.1 : List UInt8)))), (6, .i s1.2)]) (fun s1 => (ownSt [] 5 (List.length (s1.1 : List UInt8)) 1)) ?_ ?_
 exact wm_of (bl 52 97) (by kernel_rfl) (by kernel_rfl)
 intro s1 p1 h
 refine w_start (by dsimp only [setAll, topAll, List.foldl, List.set]) rfl ?_
 refine w_seq ?_
 refine w_seq (w_region ?_)
 refine w_mv ?_
 refine w_mv ?_
 refine w_o (a := .i (List.length t : Int)) (h := op_q (q_lenS rfl rfl rfl)) ?_
 refine w_o (a := .b (decide (s1.2 < (List.length t : Int)))) ?_
 refine bif_e h (fun hc3 h => ?_) (fun hc3 h => ?_)
 refine w_condT hc3 rfl ?_
 refine w_block ?_
 refine w_seq ?_
 refine w_seq (w_region ?_)
 refine w_mv ?_
 refine w_mv ?_
 obtain ⟨g2, h⟩ := chk_e h
 obtain ⟨x2, hx2, h⟩ := letE_e h
 refine w_o (a := .u (((x2).toNat : Nat) : Int)) (h := op_q (by rw [← hx2]; exact (q_sidx (l := t) (n := s1.2) g2 rfl rfl rfl rfl))) ?_
 refine w_o (a := .b ((((x2).toNat : Nat) : Int) == 34)) ?_
 refine bif_e h (fun hc4 h => ?_) (fun hc4 h => ?_)
 refine w_condT hc4 rfl ?_
 refine w_seq (w_region ?_)
 refine w_mv ?_
 refine w_o (a := .s s1.1) (h := op_q (q_bstrO (l := s1.1) rfl rfl ⟨rfl, rfl⟩ rfl)) ?_
 refine w_mv ?_
 obtain ⟨g3, h⟩ := chk_e h
 refine w_o (a := .i (s1.2 + 1)) (h := op_q (q_add rfl rfl rfl rfl g3.1 g3.2)) ?_
 refine w_mv ?_
 refine w_mv ?_
 refine w_o (a := .i 0) ?_
 refine loop_exit h (fun h => ?_)
 replace h := cut_inr h hr1
 exact end_pureF (fun (r : ((List UInt8) × Int × Int)) => (.tup [.s r.1, .i r.2.1, .i r.2.2] : AV)) h (a := .tup [.s s1.1, .i (s1.2 + 1), .i 0]) rfl (show okTrimL _ _ = true from (by kernel_rfl)) (show AV.tup (stripL _) = _ from congrArg AV.tup (stripL_cons rfl (stripL_cons rfl (stripL_cons rfl rfl))))
 refine w_condF hc4 rfl ?_
 refine w_seq ?_
 refine w_draw (k0 := 0) (id := 8) 12 (by kernel_rfl) (by kernel_rfl) ?_
 refine h_mv ?_
 refine h_mv ?_
 obtain ⟨g4, h⟩ := chk_e h
 obtain ⟨x3, hx3, h⟩ := letE_e h
 refine h_o (a := .s x3) (h := by rw [← hx3]; exact (q_sslL_ (l := t) g4 rfl rfl rfl rfl)) ?_
 refine h_o (a := .list (List.length (([34] : List UInt8) : List UInt8)) (Enc.cellsL (([34] : List UInt8) : List UInt8)) .full) (h := q_lit (α := UInt8) (l := ([34] : List UInt8)) (cs := [.u 34]) rfl rfl) ?_
 refine h_call (args' := [.list (List.length (([34] : List UInt8) : List UInt8)) (Enc.cellsL (([34] : List UInt8) : List UInt8)) .none]) (r := .agg (Enc.cells (QSet.mk : QSet))) of_pure rfl rfl rfl (stripL_cons (strip_l (Enc.cloL _)) rfl) (okTrimL_cons (okTrim_l (Enc.cloL _)) rfl) (by dsimp only [aput, List.set]) ?_
 obtain ⟨x4, hx4, h⟩ := bindE_e h
 refine h_call (args' := [.s x3, .agg (Enc.cells (QSet.mk : QSet))]) (r := .tup [.u x4.1, .i x4.2.1, .i x4.2.2]) (readbyte_sh x3 QSet.mk x4 hx4) rfl rfl rfl (stripL_cons rfl (stripL_cons (strip_c (clo_agg (Enc.clo _))) rfl)) (okTrimL_cons rfl (okTrimL_cons (okTrim_clo _ _ (clo_agg (Enc.clo _))) rfl)) (by dsimp only [aput, List.set]) ?_
 refine h_mv ?_
 refine h_ex ?_
 refine h_ex ?_
 refine h_ex ?_
 refine h_mv ?_
 refine h_mv ?_
 refine h_end ?_
 refine w_mv ?_
 refine w_seq ?_
 refine w_seq (w_region ?_)
 refine w_mv ?_
 refine w_o (a := .b (x4.2.2 != 0)) ?_
 refine bif_e h (fun hc5 h => ?_) (fun hc5 h => ?_)
 refine w_condT hc5 rfl ?_
 refine w_seq (w_region ?_)
 refine w_mv ?_
 refine w_mv ?_
 refine w_o (a := .s ([] : List UInt8)) ?_
 refine w_mv ?_
 refine w_mv ?_
 refine loop_exit h (fun h => ?_)
 replace h := cut_inr h hr1
 exact end_pureF (fun (r : ((List UInt8) × Int × Int)) => (.tup [.s r.1, .i r.2.1, .i r.2.2] : AV)) h (a := .tup [.s ([] : List UInt8), .i s1.2, .i x4.2.2]) rfl (show okTrimL _ _ = true from (by kernel_rfl)) (show AV.tup (stripL _) = _ from congrArg AV.tup (stripL_cons rfl (stripL_cons rfl (stripL_cons rfl rfl))))
 refine w_condF hc5 rfl ?_
 refine w_seq (w_region ?_)
 refine w_mv ?_
 refine w_mv ?_
 obtain ⟨g5, h⟩ := chk_e h
 refine w_o (a := .list (List.length (([(u8of x4.1)] : List UInt8) : List UInt8)) (Enc.cellsL (([(u8of x4.1)] : List UInt8) : List UInt8)) .full) (h := op_q (q_lit (α := UInt8) (l := ([(u8of x4.1)] : List UInt8)) (cs := [.u x4.1]) rfl (by show List.map _ _ = _; simp only [List.map_cons, List.map_nil, u8c g5]))) ?_
 obtain ⟨g6, h⟩ := chk_e h
 refine w_opm (a := (ownAV (List.length ((s1.1 ++ ([(u8of x4.1)] : List UInt8)) : List UInt8)) (Enc.cellsL ((s1.1 ++ ([(u8of x4.1)] : List UInt8)) : List UInt8)))) (σ'' := (ownSt [] 5 (List.length ((s1.1 ++ ([(u8of x4.1)] : List UInt8)) : List UInt8)) 1)) rfl rfl rfl (op_append rfl rfl rfl rfl (append_ownE (α := UInt8) (bs := []) (a := s1.1) (b := ([(u8of x4.1)] : List UInt8)) g6 rfl rfl rfl rfl rfl ⟨rfl, by decide⟩)) (by dsimp only [aput, List.set]) rfl ?_
 refine w_mv ?_
 refine w_region (k0 := 0) (id := 12) ?_
 refine w_mv ?_
 refine w_mv ?_
 obtain ⟨g7, h⟩ := chk_e h
 refine w_o (a := .i (s1.2 + x4.2.1)) (h := op_q (q_add rfl rfl rfl rfl g7.1 g7.2)) ?_
 refine w_mv ?_
 refine loop_next (p := p1) ((s1.1 ++ ([(u8of x4.1)] : List UInt8)), (s1.2 + x4.2.1)) h ?_
 exact wm_of (bl 52 97) (by kernel_rfl) (by kernel_rfl)
 refine w_condF hc3 rfl ?_
 refine loop_exit h (fun h => ?_)
 refine cut_done (o := or1) (s1.1) h ?_
 exact wm_of (bl 52 33) (by kernel_rfl) (by kernel_rfl)
 intro j1 h
 refine w_start (by dsimp only [setAll, topAll, List.foldl, List.set]) rfl ?_
 refine w_seq (w_region ?_)
 refine w_mv ?_
 refine w_o (a := .i (List.length t : Int)) (h := op_q (q_lenS rfl rfl rfl)) ?_
 refine w_o (a := .s ([] : List UInt8)) ?_
 refine w_mv ?_
 refine w_o (a := .i 21) ?_
 exact end_pureF (fun (r : ((List UInt8) × Int × Int)) => (.tup [.s r.1, .i r.2.1, .i r.2.2] : AV)) h (a := .tup [.s ([] : List UInt8), .i (List.length t : Int), .i 21]) rfl (show okTrimL _ _ = true from (by kernel_rfl)) (show AV.tup (stripL _) = _ from congrArg AV.tup (stripL_cons rfl (stripL_cons rfl (stripL_cons rfl rfl))))
def F_right (e : Ev) (over : Bool) : Option Bool :=
  (bif (e.k == 1) then (some (!over)) else (cutE (τ := Bool) (bif (e.k == 2) then (some (Sum.inl ((e.k == 2)))) else (some (Sum.inl ((e.k == 3))))) (fun j1 => (bif j1 then (bif (decide (e = (Ev.mk e.k 0))) then (bif over then (some (!(e.k == 3))) else (some true)) else (some false)) else (some false)))))
theorem ent46 : Ent Tryz.prog 46 := enters_of Tryz.func46 (by kernel_rfl) rfl
set_option maxRecDepth 100000 in
set_option maxHeartbeats 4000000 in
theorem right_sh (e : Ev) (over : Bool) (r : Bool) (h : F_right e over = some r) : Pure (ITP Tryz.prog) Tryz.prog 46 [.agg (Enc.cells (e : Ev)), .raw (.bool over)] (.raw (.bool r)) := by
 obtain ⟨d, hd⟩ : ∃ d, Tryz.f46.body = some d := ⟨_, rfl⟩
 refine pure_of mix Tryz.func46 hd ent46 ?_
 cases hd
 unfold F_right at h
 refine w_start (by dsimp only [abeginS, Tryz.f46, List.length_cons, List.length_nil, Nat.zero_add, Nat.reduceAdd, Nat.reduceSub, List.replicate, List.cons_append, List.nil_append]) (by dsimp only [St.empty]) ?_
 refine w_seq (w_region ?_)
 refine w_om (a := .ptr 0 0) (σ'' := ⟨[(27, (Enc.cells (e : Ev)))], [], [], 0, false⟩) ?_
 refine w_o (a := .b false) ?_
 refine w_seq ?_
 refine w_seq (w_region ?_)
 refine w_o (a := .ptr 0 0) ?_
 refine w_o (a := .u e.k) ?_
 refine w_block ?_
 refine w_seq (w_region ?_)
 refine w_o (a := .b (e.k == 1)) ?_
 refine w_mv ?_
 refine bif_e h (fun hc1 h => ?_) (fun hc1 h => ?_)
 refine w_condT hc1 rfl ?_
 refine w_seq (w_region ?_)
 refine w_mv ?_
 refine w_o (a := .b (!over)) ?_
 refine w_mv ?_
 exact end_b h
 refine w_condF hc1 rfl ?_
 refine w_cutF h [0, 3, 4, 5, 6, 7, 8, 9, 10, 11, 12, 13, 14, 15, 16, 17, 18, 19, 20, 21, 22, 23, 24, 25, 26, 27] (fun j1 => [(11, .b j1)]) (fun j1 => ⟨[(27, (Enc.cells (e : Ev)))], [], [], 0, false⟩) ?_ ?_
 intro or1 h hr1
 refine w_seq (w_region ?_)
 refine w_o (a := .b (e.k == 2)) ?_
 refine w_mv ?_
 refine bif_e h (fun hc2 h => ?_) (fun hc2 h => ?_)
 refine w_condT hc2 rfl ?_
 refine cut_done (o := or1) ((e.k == 2)) h ?_
 exact wm_of (bl 28 2054) (by kernel_rfl) (by kernel_rfl)
 refine w_condF hc2 rfl ?_
 refine w_region (k0 := 0) (id := 5) ?_
 refine w_o (a := .b (e.k == 3)) ?_
 refine w_mv ?_
 refine cut_done (o := or1) ((e.k == 3)) h ?_
 exact wm_of (bl 28 2054) (by kernel_rfl) (by kernel_rfl)
 intro j1 h
 refine w_start (by dsimp only [setAll, topAll, List.foldl, List.set]) rfl ?_
 refine bif_e h (fun hc3 h => ?_) (fun hc3 h => ?_)
 refine w_condT hc3 rfl ?_
 refine w_seq (w_region ?_)
 refine w_o (a := .agg (Enc.cells (e : Ev))) ?_
 refine w_o (a := .ptr 0 0) ?_
 refine w_o (a := .u e.k) ?_
 refine w_o (a := .agg (Enc.cells ((Ev.mk e.k 0) : Ev))) ?_
 refine w_run (.b (decide (e = (Ev.mk e.k 0)))) rfl rfl rfl (rs_eqEv e (Ev.mk e.k 0) rfl rfl rfl) (by dsimp only [aput, List.set]) ?_
 refine bif_e h (fun hc4 h => ?_) (fun hc4 h => ?_)
 refine w_o (a := .b true) (h := op_q (q_bool rfl hc4)) ?_
 refine w_met rfl rfl ?_
 refine w_mv ?_
 refine w_met rfl rfl ?_
 refine bif_e h (fun hc5 h => ?_) (fun hc5 h => ?_)
 refine w_o (a := .b true) (h := op_q (q_bool rfl hc5)) ?_
 refine w_met rfl rfl ?_
 refine w_o (a := .ptr 0 0) ?_
 refine w_met rfl rfl ?_
 refine w_o (a := .u e.k) ?_
 refine w_met rfl rfl ?_
 refine w_o (a := .b (e.k == 3)) ?_
 refine w_met rfl rfl ?_
 refine w_o (a := .b (e.k == 3)) ?_
 refine w_met rfl rfl ?_
 refine w_o (a := .b (!(e.k == 3))) ?_
 refine w_o (a := .b (!(e.k == 3))) ?_
 refine w_mv ?_
 exact end_b h
 refine w_o (a := .b false) (h := op_q (q_bool rfl hc5)) ?_
 refine w_po ?_
 refine w_po ?_
 refine w_po ?_
 refine w_met rfl rfl ?_
 refine w_o (a := .b false) ?_
 refine w_met rfl rfl ?_
 refine w_o (a := .b true) ?_
 refine w_o (a := .b true) ?_
 refine w_mv ?_
 exact end_b h
 refine w_o (a := .b false) (h := op_q (q_bool rfl hc4)) ?_
 refine w_po ?_
 refine w_po ?_
 refine w_po ?_
 refine w_po ?_
 refine w_po ?_
 refine w_po ?_
 refine w_po ?_
 refine w_o (a := .b false) ?_
 refine w_mv ?_
 exact end_b h
 refine w_condF hc3 rfl ?_
 refine w_seq (w_region ?_)
 refine w_o (a := .b false) ?_
 exact end_b h
def F_check (fuel : Nat) (l : (List Ev)) : Option (Int × Int) :=
  (bif (decide ((List.length l : Int) > 4096)) then (some ((-1), 5)) else (cutE (τ := Unit) (loopE (β := Bool × Int) (fun s1 => (bif (decide (s1.2 < (List.length l : Int))) then (cutE (τ := Bool) (chk (0 ≤ s1.2 ∧ s1.2 < (List.length l : Int)) (letE (ix l s1.2) (fun x1 => (bindE (F_right x1 s1.1) (fun x2 => (bif (!x2) then (some (Sum.inr (Sum.inr (Sum.inr (s1.2, 320))))) else (bif s1.1 then (some (Sum.inl (true))) else (some (Sum.inl ((x1.k == 3))))))))))) (fun j2 => (chk (-9223372036854775808 ≤ (s1.2 + 1) ∧ (s1.2 + 1) < 9223372036854775808) (some (Sum.inl (j2, (s1.2 + 1))))))) else (some (Sum.inr (Sum.inl ()))))) fuel (false, 0)) (fun j1 => (some ((-1), 0)))))
theorem ent17 : Ent Tryz.prog 17 := enters_of Tryz.func17 (by kernel_rfl) rfl
set_option maxRecDepth 100000 in
set_option maxHeartbeats 4000000 in
theorem check_sh (fuel : Nat) (l : (List Ev)) (r : (Int × Int)) (h : F_check fuel l = some r) : Pure (ITP Tryz.prog) Tryz.prog 17 [.list (List.length (l : List Ev)) (Enc.cellsL (l : List Ev)) .none] (.tup [.raw (.int .i64 r.1), .raw (.int .i64 r.2)]) := by
 obtain ⟨d, hd⟩ : ∃ d, Tryz.f17.body = some d := ⟨_, rfl⟩
 refine pure_of mix Tryz.func17 hd ent17 ?_
 cases hd
 unfold F_check at h
 refine w_start (by dsimp only [abeginS, Tryz.f17, List.length_cons, List.length_nil, Nat.zero_add, Nat.reduceAdd, Nat.reduceSub, List.replicate, List.cons_append, List.nil_append]) (by dsimp only [St.empty]) ?_
 refine w_seq (w_region ?_)
 refine w_o (a := .i 0) ?_
 refine w_o (a := .i 0) ?_
 refine w_seq ?_
 refine w_seq (w_region ?_)
 refine w_mv ?_
 refine w_o (a := .i (List.length l : Int)) ?_
 refine w_o (a := .b (decide ((List.length l : Int) > 4096))) ?_
 refine bif_e h (fun hc1 h => ?_) (fun hc1 h => ?_)
 refine w_condT hc1 rfl ?_
 refine w_seq (w_region ?_)
 refine w_o (a := .i (-1)) ?_
 refine w_o (a := .i 5) ?_
 exact end_pureF (fun (r : (Int × Int)) => (.tup [.i r.1, .i r.2] : AV)) h (a := .tup [.i (-1), .i 5]) rfl (show okTrimL _ _ = true from (by kernel_rfl)) (show AV.tup (stripL _) = _ from congrArg AV.tup (stripL_cons rfl (stripL_cons rfl rfl)))
 refine w_condF hc1 rfl ?_
 refine w_seq (w_region ?_)
 refine w_o (a := .b false) ?_
 refine w_cutF h [0, 1, 2, 3, 4, 5, 6, 7, 8, 9, 10, 11, 12, 13, 14, 15, 16, 17, 18, 19, 20, 21, 22, 23, 24, 25, 26, 27, 28] (fun j1 => []) (fun j1 => ⟨[], [], [], 0, false⟩) ?_ ?_
 intro or1 h hr1
 refine w_seq (w_region ?_)
 refine w_mv ?_
 refine w_o (a := .i (List.length l : Int)) ?_
 refine w_o (a := .i 0) ?_
 refine w_block ?_
 refine w_loopF h [0, 1, 2, 3, 4, 5, 6, 7, 8, 9, 12, 13, 14, 15, 16, 17, 18, 19, 20, 21, 22, 23, 24, 25, 26, 27, 28] (fun s1 => [(4, .b s1.1), (12, .i s1.2)]) (fun s1 => ⟨[], [], [], 0, false⟩) ?_ ?_
 exact wm_of (bl 29 7184) (by kernel_rfl) (by kernel_rfl)
 intro s1 p1 h
 refine w_start (by dsimp only [setAll, topAll, List.foldl, List.set]) rfl ?_
 refine w_seq (w_region ?_)
 refine w_o (a := .b (decide (s1.2 < (List.length l : Int)))) ?_
 refine w_seq ?_
 refine bif_e h (fun hc2 h => ?_) (fun hc2 h => ?_)
 refine w_condT hc2 rfl ?_
 refine w_cutF h [2, 3, 4, 5, 6, 13, 14, 15, 16, 17, 18, 19, 20, 21, 22, 23, 24, 25, 26, 27] (fun j2 => [(4, .b j2)]) (fun j2 => ⟨[], [], [], 0, false⟩) ?_ ?_
 intro or2 h hr2
 refine w_block ?_
 refine w_seq (w_region ?_)
 refine w_mv ?_
 obtain ⟨g1, h⟩ := chk_e h
 obtain ⟨x1, hx1, h⟩ := letE_e h
 refine w_o (a := .iptr (Enc.cells x1 ++ Enc.cellsL (List.drop (Int.toNat s1.2 + 1) l))) (h := op_q (by rw [← hx1]; exact (q_idx (α := Ev) (l := l) g1 rfl rfl rfl rfl rfl))) ?_
 refine w_o (a := .agg (Enc.cells (x1 : Ev))) ?_
 refine w_om (a := .ptr 0 0) (σ'' := ⟨[(27, (Enc.cells ((Ev.mk 0 0) : Ev)))], [], [], 0, false⟩) ?_
 refine w_mv ?_
 refine w_om (σ'' := ⟨[(27, (Enc.cells (x1 : Ev)))], [], [], 0, false⟩) (h := op_storeW (n := 2) rfl rfl rfl rfl rfl rfl rfl rfl (by decide)) ?_
 refine w_seq ?_
 refine w_seq (w_region ?_)
 refine w_o (a := .agg (Enc.cells (x1 : Ev))) ?_
 refine w_mv ?_
 obtain ⟨x2, hx2, h⟩ := bindE_e h
 refine w_callc (args' := [.agg (Enc.cells (x1 : Ev)), .b s1.1]) (r := .b x2) (right_sh x1 s1.1 x2 hx2) rfl rfl (stripL_cons (strip_c (clo_agg (Enc.clo _))) (stripL_cons rfl rfl)) (okTrimL_cons (okTrim_clo _ _ (clo_agg (Enc.clo _))) (by kernel_rfl)) (by dsimp only [aput, List.set]) ?_
 refine w_o (a := .b (!x2)) ?_
 refine bif_e h (fun hc3 h => ?_) (fun hc3 h => ?_)
 refine w_condT hc3 rfl ?_
 refine w_seq (w_region ?_)
 refine w_mv ?_
 refine w_mv ?_
 refine w_o (a := .i 320) ?_
 replace h := cut_inr h hr2
 refine loop_exit h (fun h => ?_)
 replace h := cut_inr h hr1
 exact end_pureF (fun (r : (Int × Int)) => (.tup [.i r.1, .i r.2] : AV)) h (a := .tup [.i s1.2, .i 320]) rfl (show okTrimL _ _ = true from (by kernel_rfl)) (show AV.tup (stripL _) = _ from congrArg AV.tup (stripL_cons rfl (stripL_cons rfl rfl)))
 refine w_condF hc3 rfl ?_
 refine w_region (k0 := 0) (id := 9) ?_
 refine w_mv ?_
 refine bif_e h (fun hc4 h => ?_) (fun hc4 h => ?_)
 refine w_o (a := .b true) (h := op_q (q_bool rfl hc4)) ?_
 refine w_po ?_
 refine w_po ?_
 refine w_po ?_
 refine w_o (a := .b true) ?_
 refine w_mv ?_
 refine cut_done (o := or2) (true) h ?_
 exact wm_trim (bl 29 268443539) 0 (by kernel_rfl) (Nat.le_of_ble_eq_true rfl) (okSt_of rfl) (by dsimp only [setAll, topAll, List.foldl, List.set]; exact (okTrimL_cons rfl (okTrimL_cons rfl (okTrimL_cons rfl (okTrimL_cons rfl (okTrimL_cons rfl (okTrimL_cons rfl (okTrimL_cons rfl (okTrimL_cons rfl (okTrimL_cons rfl (okTrimL_cons rfl (okTrimL_cons (okTrim_l (Enc.cloL _)) (by kernel_rfl))))))))))))) (by kernel_rfl)
 refine w_o (a := .b false) (h := op_q (q_bool rfl hc4)) ?_
 refine w_met rfl rfl ?_
 refine w_o (a := .ptr 0 0) ?_
 refine w_met rfl rfl ?_
 refine w_o (a := .u x1.k) ?_
 refine w_met rfl rfl ?_
 refine w_o (a := .b (x1.k == 3)) ?_
 refine w_o (a := .b (x1.k == 3)) ?_
 refine w_mv ?_
 refine cut_done (o := or2) ((x1.k == 3)) h ?_
 exact wm_trim (bl 29 268443539) 0 (by kernel_rfl) (Nat.le_of_ble_eq_true rfl) (okSt_of rfl) (by dsimp only [setAll, topAll, List.foldl, List.set]; exact (okTrimL_cons rfl (okTrimL_cons rfl (okTrimL_cons rfl (okTrimL_cons rfl (okTrimL_cons rfl (okTrimL_cons rfl (okTrimL_cons rfl (okTrimL_cons rfl (okTrimL_cons rfl (okTrimL_cons rfl (okTrimL_cons (okTrim_l (Enc.cloL _)) (by kernel_rfl))))))))))))) (by kernel_rfl)
 intro j2 h
 refine w_start (by dsimp only [setAll, topAll, List.foldl, List.set]) rfl ?_
 refine w_region (k0 := 0) (id := 10) ?_
 obtain ⟨g2, h⟩ := chk_e h
 refine w_o (a := .i (s1.2 + 1)) (h := op_q (q_add rfl rfl rfl rfl g2.1 g2.2)) ?_
 refine w_mv ?_
 refine loop_next (p := p1) (j2, (s1.2 + 1)) h ?_
 exact wm_of (bl 29 7184) (by kernel_rfl) (by kernel_rfl)
 refine w_condF hc2 rfl ?_
 refine loop_exit h (fun h => ?_)
 refine cut_done (o := or1) () h ?_
 exact wm_of (bl 29 0) (by kernel_rfl) (by kernel_rfl)
 intro j1 h
 refine w_start (by dsimp only [setAll, topAll, List.foldl, List.set]) rfl ?_
 refine w_seq (w_region ?_)
 refine w_o (a := .i (-1)) ?_
 refine w_o (a := .i 0) ?_
 exact end_pureF (fun (r : (Int × Int)) => (.tup [.i r.1, .i r.2] : AV)) h (a := .tup [.i (-1), .i 0]) rfl (show okTrimL _ _ = true from (by kernel_rfl)) (show AV.tup (stripL _) = _ from congrArg AV.tup (stripL_cons rfl (stripL_cons rfl rfl)))
def F_eqevs (fuel : Nat) (a : (List Ev)) (b : (List Ev)) : Option Bool :=
  (bif ((List.length a : Int) != (List.length b : Int)) then (some false) else (cutE (τ := Unit) (loopE (β := Int) (fun s1 => (bif (decide (s1 < (List.length a : Int))) then (chk (0 ≤ s1 ∧ s1 < (List.length a : Int)) (letE (ix a s1) (fun x1 => (chk (0 ≤ s1 ∧ s1 < (List.length b : Int)) (letE (ix b s1) (fun x2 => (bif (decide (x1 ≠ x2)) then (some (Sum.inr (Sum.inr false))) else (chk (-9223372036854775808 ≤ (s1 + 1) ∧ (s1 + 1) < 9223372036854775808) (some (Sum.inl ((s1 + 1)))))))))))) else (some (Sum.inr (Sum.inl ()))))) fuel (0)) (fun j1 => (some true))))
theorem ent25 : Ent Tryz.prog 25 := enters_of Tryz.func25 (by kernel_rfl) rfl
set_option maxRecDepth 100000 in
set_option maxHeartbeats 4000000 in
theorem eqevs_sh (fuel : Nat) (a : (List Ev)) (b : (List Ev)) (r : Bool) (h : F_eqevs fuel a b = some r) : Pure (ITP Tryz.prog) Tryz.prog 25 [.list (List.length (a : List Ev)) (Enc.cellsL (a : List Ev)) .none, .list (List.length (b : List Ev)) (Enc.cellsL (b : List Ev)) .none] (.raw (.bool r)) := by
 obtain ⟨d, hd⟩ : ∃ d, Tryz.f25.body = some d := ⟨_, rfl⟩
 refine pure_of mix Tryz.func25 hd ent25 ?_
 cases hd
 unfold F_eqevs at h
 refine w_start (by dsimp only [abeginS, Tryz.f25, List.length_cons, List.length_nil, Nat.zero_add, Nat.reduceAdd, Nat.reduceSub, List.replicate, List.cons_append, List.nil_append]) (by dsimp only [St.empty]) ?_
 refine w_seq (w_region ?_)
 refine w_o (a := .b false) ?_
 refine w_seq ?_
 refine w_seq (w_region ?_)
 refine w_mv ?_
 refine w_o (a := .i (List.length a : Int)) ?_
 refine w_mv ?_
 refine w_o (a := .i (List.length b : Int)) ?_
 refine w_o (a := .b ((List.length a : Int) != (List.length b : Int))) ?_
 refine bif_e h (fun hc1 h => ?_) (fun hc1 h => ?_)
 refine w_condT hc1 rfl ?_
 refine w_seq (w_region ?_)
 refine w_o (a := .b false) ?_
 exact end_b h
 refine w_condF hc1 rfl ?_
 refine w_cutF h [0, 1, 2, 3, 4, 5, 6, 7, 8, 9, 10, 11, 12, 13, 14, 15, 16, 17, 18, 19, 20, 21, 22, 23, 24, 25] (fun j1 => []) (fun j1 => ⟨[], [], [], 0, false⟩) ?_ ?_
 intro or1 h hr1
 refine w_seq (w_region ?_)
 refine w_mv ?_
 refine w_o (a := .i (List.length a : Int)) ?_
 refine w_o (a := .i 0) ?_
 refine w_block ?_
 refine w_loopF h [2, 3, 4, 5, 6, 7, 8, 9, 10, 11, 13, 14, 15, 16, 17, 18, 19, 20, 21, 22, 23, 24, 25] (fun s1 => [(13, .i s1)]) (fun s1 => ⟨[], [], [], 0, false⟩) ?_ ?_
 exact wm_of (bl 26 12291) (by kernel_rfl) (by kernel_rfl)
 intro s1 p1 h
 refine w_start (by dsimp only [setAll, topAll, List.foldl, List.set]) rfl ?_
 refine w_seq (w_region ?_)
 refine w_o (a := .b (decide (s1 < (List.length a : Int)))) ?_
 refine w_seq ?_
 refine bif_e h (fun hc2 h => ?_) (fun hc2 h => ?_)
 refine w_condT hc2 rfl ?_
 refine w_seq ?_
 refine w_block ?_
 refine w_seq (w_region ?_)
 refine w_mv ?_
 refine w_mv ?_
 refine w_seq ?_
 refine w_draw (k0 := 0) (id := 6) 8 (by kernel_rfl) (by kernel_rfl) ?_
 refine h_mv ?_
 refine h_mv ?_
 obtain ⟨g1, h⟩ := chk_e h
 obtain ⟨x1, hx1, h⟩ := letE_e h
 refine h_o (a := .iptr (Enc.cells x1 ++ Enc.cellsL (List.drop (Int.toNat s1 + 1) a))) (h := by rw [← hx1]; exact (q_idx (α := Ev) (l := a) g1 rfl rfl rfl rfl rfl)) ?_
 refine h_o (a := .agg (Enc.cells (x1 : Ev))) ?_
 refine h_mv ?_
 refine h_mv ?_
 obtain ⟨g2, h⟩ := chk_e h
 obtain ⟨x2, hx2, h⟩ := letE_e h
 refine h_o (a := .iptr (Enc.cells x2 ++ Enc.cellsL (List.drop (Int.toNat s1 + 1) b))) (h := by rw [← hx2]; exact (q_idx (α := Ev) (l := b) g2 rfl rfl rfl rfl rfl)) ?_
 refine h_o (a := .agg (Enc.cells (x2 : Ev))) ?_
 refine h_end ?_
 refine w_run (.b (decide (x1 ≠ x2))) rfl rfl rfl (rs_neqEv x1 x2 rfl rfl rfl) (by dsimp only [aput, List.set]) ?_
 refine bif_e h (fun hc3 h => ?_) (fun hc3 h => ?_)
 refine w_condT hc3 rfl ?_
 refine w_seq (w_region ?_)
 refine w_o (a := .b false) ?_
 refine loop_exit h (fun h => ?_)
 replace h := cut_inr h hr1
 exact end_b h
 refine w_condF hc3 rfl ?_
 refine w_region (k0 := 0) (id := 8) ?_
 obtain ⟨g3, h⟩ := chk_e h
 refine w_o (a := .i (s1 + 1)) (h := op_q (q_add rfl rfl rfl rfl g3.1 g3.2)) ?_
 refine w_mv ?_
 refine loop_next (p := p1) ((s1 + 1)) h ?_
 exact wm_of (bl 26 12291) (by kernel_rfl) (by kernel_rfl)
 refine w_condF hc2 rfl ?_
 refine loop_exit h (fun h => ?_)
 refine cut_done (o := or1) () h ?_
 exact wm_of (bl 26 0) (by kernel_rfl) (by kernel_rfl)
 intro j1 h
 refine w_start (by dsimp only [setAll, topAll, List.foldl, List.set]) rfl ?_
 refine w_seq (w_region ?_)
 refine w_o (a := .b true) ?_
 exact end_b h
def F_bytes (fuel : Nat) (l : (List Ev)) : Option (List UInt8) :=
  (cutE (τ := (List UInt8)) (loopE (β := (List UInt8) × Int) (fun s1 => (bif (decide (s1.2 < (List.length l : Int))) then (cutE (τ := (List UInt8)) (chk (0 ≤ s1.2 ∧ s1.2 < (List.length l : Int)) (letE (ix l s1.2) (fun x1 => (bif (x1.k == 1) then (chk (0 ≤ x1.b ∧ x1.b < 256) (chk ((List.length s1.1 + List.length ([(u8of x1.b)] : List UInt8)) * 1 ≤ 140737488355328) (some (Sum.inl ((s1.1 ++ ([(u8of x1.b)] : List UInt8))))))) else (some (Sum.inl (s1.1))))))) (fun j2 => (chk (-9223372036854775808 ≤ (s1.2 + 1) ∧ (s1.2 + 1) < 9223372036854775808) (some (Sum.inl (j2, (s1.2 + 1))))))) else (some (Sum.inr (Sum.inl (s1.1)))))) fuel (([] : (List UInt8)), 0)) (fun j1 => (some j1)))
theorem ent36 : Ent Tryz.prog 36 := enters_of Tryz.func36 (by kernel_rfl) rfl
set_option maxRecDepth 100000 in
set_option maxHeartbeats 4000000 in
theorem bytes_sh (fuel : Nat) (l : (List Ev)) (r : (List UInt8)) (h : F_bytes fuel l = some r) : Pure (ITP Tryz.prog) Tryz.prog 36 [.list (List.length (l : List Ev)) (Enc.cellsL (l : List Ev)) .none] (.list (List.length (r : List UInt8)) (Enc.cellsL (r : List UInt8)) .none) := by
 obtain ⟨d, hd⟩ : ∃ d, Tryz.f36.body = some d := ⟨_, rfl⟩
 refine pure_of mix Tryz.func36 hd ent36 ?_
 cases hd
 unfold F_bytes at h
 refine w_start (by dsimp only [abeginS, Tryz.f36, List.length_cons, List.length_nil, Nat.zero_add, Nat.reduceAdd, Nat.reduceSub, List.replicate, List.cons_append, List.nil_append]) (by dsimp only [St.empty]) ?_
 refine w_seq (w_region ?_)
 refine w_o (a := .list 0 [] .full) ?_
 refine w_seq (w_region ?_)
 refine w_o (a := .list 0 [] .full) ?_
 refine w_cutF h [0, 1, 2, 3, 4, 5, 6, 7, 8, 9, 10, 11, 12, 13, 14, 15, 16, 17, 18, 19, 20, 21] (fun j1 => [(3, (ownAV (List.length (j1 : List UInt8)) (Enc.cellsL (j1 : List UInt8))))]) (fun j1 => (ownSt [] 5 (List.length (j1 : List UInt8)) 1)) ?_ ?_
 intro or1 h hr1
 refine w_seq (w_region ?_)
 refine w_mv ?_
 refine w_o (a := .i (List.length l : Int)) ?_
 refine w_o (a := .i 0) ?_
 refine w_block ?_
 refine w_loopF h [0, 1, 2, 3, 4, 5, 8, 9, 10, 11, 12, 13, 14, 15, 16, 17, 18, 19, 20, 21] (fun s1 => [(3, (ownAV (List.length (s1.1 : List UInt8)) (Enc.cellsL (s1.1 : List UInt8)))), (8, .i s1.2)]) (fun s1 => (ownSt [] 5 (List.length (s1.1 : List UInt8)) 1)) ?_ ?_
 exact wm_of (bl 22 456) (by kernel_rfl) (by kernel_rfl)
 intro s1 p1 h
 refine w_start (by dsimp only [setAll, topAll, List.foldl, List.set]) rfl ?_
 refine w_seq (w_region ?_)
 refine w_o (a := .b (decide (s1.2 < (List.length l : Int)))) ?_
 refine w_seq ?_
 refine bif_e h (fun hc1 h => ?_) (fun hc1 h => ?_)
 refine w_condT hc1 rfl ?_
 refine w_cutF h [3, 5, 9, 10, 11, 12, 13, 14, 15, 16, 17, 18, 19] (fun j2 => [(3, (ownAV (List.length (j2 : List UInt8)) (Enc.cellsL (j2 : List UInt8))))]) (fun j2 => (ownSt [] 5 (List.length (j2 : List UInt8)) 1)) ?_ ?_
 intro or2 h hr2
 refine w_block ?_
 refine w_seq (w_region ?_)
 obtain ⟨g1, h⟩ := chk_e h
 obtain ⟨x1, hx1, h⟩ := letE_e h
 refine w_o (a := .iptr (Enc.cells x1 ++ Enc.cellsL (List.drop (Int.toNat s1.2 + 1) l))) (h := op_q (by rw [← hx1]; exact (q_idx (α := Ev) (l := l) g1 rfl rfl rfl rfl rfl))) ?_
 refine w_o (a := .agg (Enc.cells (x1 : Ev))) ?_
 refine w_om (a := .ptr 0 0) (σ'' := (ownSt [(27, (Enc.cells ((Ev.mk 0 0) : Ev)))] 5 (List.length (s1.1 : List UInt8)) 1)) ?_
 refine w_om (σ'' := (ownSt [(27, (Enc.cells (x1 : Ev)))] 5 (List.length (s1.1 : List UInt8)) 1)) (h := op_storeW (n := 2) rfl rfl rfl rfl rfl rfl rfl rfl (by decide)) ?_
 refine w_seq (w_region ?_)
 refine w_o (a := .ptr 0 0) ?_
 refine w_o (a := .u x1.k) ?_
 refine w_o (a := .b (x1.k == 1)) ?_
 refine bif_e h (fun hc2 h => ?_) (fun hc2 h => ?_)
 refine w_condT hc2 rfl ?_
 refine w_region (k0 := 0) (id := 6) ?_
 refine w_mv ?_
 refine w_o (a := .ptr 0 1) ?_
 refine w_o (a := .u x1.b) ?_
 obtain ⟨g2, h⟩ := chk_e h
 refine w_o (a := .list (List.length (([(u8of x1.b)] : List UInt8) : List UInt8)) (Enc.cellsL (([(u8of x1.b)] : List UInt8) : List UInt8)) .full) (h := op_q (q_lit (α := UInt8) (l := ([(u8of x1.b)] : List UInt8)) (cs := [.u x1.b]) rfl (by show List.map _ _ = _; simp only [List.map_cons, List.map_nil, u8c g2]))) ?_
 obtain ⟨g3, h⟩ := chk_e h
 refine w_opm (a := (ownAV (List.length ((s1.1 ++ ([(u8of x1.b)] : List UInt8)) : List UInt8)) (Enc.cellsL ((s1.1 ++ ([(u8of x1.b)] : List UInt8)) : List UInt8)))) (σ'' := (ownSt [(27, (Enc.cells (x1 : Ev)))] 5 (List.length ((s1.1 ++ ([(u8of x1.b)] : List UInt8)) : List UInt8)) 1)) rfl rfl rfl (op_append rfl rfl rfl rfl (append_ownE (α := UInt8) (bs := [(27, (Enc.cells (x1 : Ev)))]) (a := s1.1) (b := ([(u8of x1.b)] : List UInt8)) g3 rfl rfl rfl rfl rfl ⟨rfl, by decide⟩)) (by dsimp only [aput, List.set]) rfl ?_
 refine w_mv ?_
 refine cut_done (o := or2) ((s1.1 ++ ([(u8of x1.b)] : List UInt8))) h ?_
 exact wm_trim (bl 22 3146207) 0 (by kernel_rfl) (Nat.le_of_ble_eq_true rfl) (okSt_of rfl) (by dsimp only [setAll, topAll, List.foldl, List.set]; exact (okTrimL_cons rfl (okTrimL_cons rfl (okTrimL_cons rfl (okTrimL_cons (okTrim_own (Enc.cloL _)) (okTrimL_cons rfl (okTrimL_cons rfl (okTrimL_cons (okTrim_l (Enc.cloL _)) (by kernel_rfl))))))))) (by kernel_rfl)
 refine w_condF hc2 rfl ?_
 refine cut_done (o := or2) (s1.1) h ?_
 exact wm_trim (bl 22 3146207) 0 (by kernel_rfl) (Nat.le_of_ble_eq_true rfl) (okSt_of rfl) (by dsimp only [setAll, topAll, List.foldl, List.set]; exact (okTrimL_cons rfl (okTrimL_cons rfl (okTrimL_cons rfl (okTrimL_cons (okTrim_own (Enc.cloL _)) (okTrimL_cons rfl (okTrimL_cons rfl (okTrimL_cons (okTrim_l (Enc.cloL _)) (by kernel_rfl))))))))) (by kernel_rfl)
 intro j2 h
 refine w_start (by dsimp only [setAll, topAll, List.foldl, List.set]) rfl ?_
 refine w_region (k0 := 0) (id := 7) ?_
 obtain ⟨g4, h⟩ := chk_e h
 refine w_o (a := .i (s1.2 + 1)) (h := op_q (q_add rfl rfl rfl rfl g4.1 g4.2)) ?_
 refine w_mv ?_
 refine loop_next (p := p1) (j2, (s1.2 + 1)) h ?_
 exact wm_of (bl 22 456) (by kernel_rfl) (by kernel_rfl)
 refine w_condF hc1 rfl ?_
 refine loop_exit h (fun h => ?_)
 refine cut_done (o := or1) (s1.1) h ?_
 exact wm_of (bl 22 8) (by kernel_rfl) (by kernel_rfl)
 intro j1 h
 refine w_start (by dsimp only [setAll, topAll, List.foldl, List.set]) rfl ?_
 refine w_seq (w_region ?_)
 refine w_mv ?_
 refine w_mv ?_
 exact end_pureF (fun (r : (List UInt8)) => (.list (List.length (r : List UInt8)) (Enc.cellsL (r : List UInt8)) .none : AV)) h (a := (ownAV (List.length (j1 : List UInt8)) (Enc.cellsL (j1 : List UInt8)))) rfl (okTrim_own (Enc.cloL _)) (strip_o (Enc.cloL _) Enc.z)
end Go.Ab

