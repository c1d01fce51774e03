/-
  schedule: package quote; events.
-/
import Derived.Test.YtblibgbakbhlkaaDoorZuQc
import Derived.Test.YtblibgbakbhlkaaDoorZuBd
import Derived.Test.YtblibgbakbhlkaaDoorZdQp
set_option linter.unusedSimpArgs false
set_option linter.unusedVariables false
namespace Go.Ab
open Go Go.RowKit Go.Fwd Go.Proofs
def F_qbytes (fuel : Nat) (b : (List UInt8)) (m : QSet) : Option (List UInt8) :=
  (cutE (τ := (Bool × List UInt8)) (loopE (β := Int × (Bool × List UInt8)) (fun s1 => (bif (decide (s1.1 < (List.length b : Int))) then (chk (0 ≤ s1.1 ∧ s1.1 < (List.length b : Int)) (letE (ix b s1.1) (fun x1 => (letE (byteP x1) (fun x2 => (chk ((List.length s1.2.2 + List.length x2) * 1 ≤ 140737488355328) (chk (-9223372036854775808 ≤ (s1.1 + 1) ∧ (s1.1 + 1) < 9223372036854775808) (some (Sum.inl ((s1.1 + 1), (true, (s1.2.2 ++ x2)))))))))))) else (some (Sum.inr (Sum.inl ((s1.2.1, s1.2.2))))))) fuel (0, (false, ([] : List UInt8)))) (fun j1 => (some j1.2)))
theorem ent38 : Ent Tryd.prog 38 := enters_of Tryd.func38 (by kernel_rfl) rfl
set_option maxRecDepth 100000 in
set_option maxHeartbeats 4000000 in
theorem qbytes_sh (fuel : Nat) (b : (List UInt8)) (m : QSet) (r : (List UInt8)) (h : F_qbytes fuel b m = some r) : Pure (ITP Tryd.prog) Tryd.prog 38 [.raw (.string (bs b)), .agg (Enc.cells (m : QSet))] (.raw (.string (bs r))) := by
 obtain ⟨d, hd⟩ : ∃ d, Tryd.f38.body = some d := ⟨_, rfl⟩
 refine pure_of mix Tryd.func38 hd ent38 ?_
 cases hd
 unfold F_qbytes at h
 refine w_start (by dsimp only [abeginS, Tryd.f38, List.length_cons, List.length_nil, Nat.zero_add, Nat.reduceAdd, Nat.reduceSub, List.replicate, List.cons_append, List.nil_append]) (by dsimp only [St.empty]) ?_
 refine w_seq (w_region ?_)
 refine w_opm (a := .ptr 0 0) (σ'' := ⟨[(80, (Enc.cells (m : QSet)))], [], [], 0, false⟩) rfl rfl rfl rfl (by dsimp only [aput, List.set]) rfl ?_
 refine w_op (a := .raw (.string (bs ([] : List UInt8)))) rfl rfl rfl rfl (by dsimp only [aput, List.set]) ?_
 refine w_seq (w_region ?_)
 refine w_opB (a := .ptr 1 0) (σ'' := (ownSt [(80, (Enc.cells (m : QSet))), (84, (bldC 1 false ([] : List UInt8)))] 5 (List.length (([] : List UInt8) : List UInt8)) 1)) rfl rfl rfl rfl (by dsimp only [aput, List.set]) rfl ?_
 refine w_cutF h [0, 1, 2, 3, 4, 6, 7, 8, 9, 10, 11, 12, 13, 14, 15, 16, 17, 18, 19] (fun j1 => []) (fun j1 => (ownSt [(80, (Enc.cells (m : QSet))), (84, (bldC 1 j1.1 j1.2))] 5 (List.length (j1.2 : List UInt8)) 1)) ?_ ?_
 ·
  intro or1 h hr1
  refine w_seq (w_region ?_)
  refine w_mv ?_
  refine w_op (a := .raw (.int .i64 (List.length b : Int))) rfl rfl rfl (op_q (q_lenS rfl rfl rfl)) (by dsimp only [aput, List.set]) ?_
  refine w_op (a := .raw (.int .i64 0)) rfl rfl rfl rfl (by dsimp only [aput, List.set]) ?_
  refine w_block ?_
  refine w_loopF h [1, 2, 4, 6, 7, 9, 10, 11, 12, 13, 14, 15, 16, 17, 18, 19] (fun s1 => [(9, .raw (.int .i64 s1.1))]) (fun s1 => (ownSt [(80, (Enc.cells (m : QSet))), (84, (bldC 1 s1.2.1 s1.2.2))] 5 (List.length (s1.2.2 : List UInt8)) 1)) ?_ ?_
  ·
   exact wm_of [true, false, false, true, false, true, false, false, true, true, false, false, false, false, false, false, false, false, false, false] (by kernel_rfl) (by kernel_rfl)
  ·
   intro s1 p1 h
   refine w_start (by dsimp only [setAll, topAll, List.foldl, List.set]) rfl ?_
   refine w_seq (w_region ?_)
   refine w_op (a := .raw (.bool (decide (s1.1 < (List.length b : Int))))) rfl rfl rfl rfl (by dsimp only [aput, List.set]) ?_
   refine w_seq ?_
   refine bif_e h (fun hc1 h => ?_) (fun hc1 h => ?_)
   ·
    refine w_condT hc1 rfl ?_
    refine w_seq ?_
    refine w_block ?_
    refine w_seq (w_region ?_)
    refine w_mv ?_
    refine w_mv ?_
    refine w_draw (k0 := 0) (id := 5) 4 (by kernel_rfl) (by kernel_rfl) ?_
    refine h_mv ?_
    refine h_mv ?_
    obtain ⟨g1, h⟩ := chk_e h
    obtain ⟨x1, hx1, h⟩ := letE_e h
    refine h_op (a := .raw (.int .u8 (((x1).toNat : Nat) : Int))) rfl rfl rfl (by rw [← hx1]; exact (q_sidx (l := b) (n := s1.1) g1 rfl rfl rfl rfl)) (by dsimp only [aput, List.set]) ?_
    refine h_op (a := .agg (Enc.cells (m : QSet))) rfl rfl rfl rfl (by dsimp only [aput, List.set]) ?_
    refine h_end ?_
    obtain ⟨x2, hx2, h⟩ := letE_e h
    refine w_callc (args' := [.raw (.int .u8 (((x1).toNat : Nat) : Int)), .agg (Enc.cells (m : QSet))]) (r := .raw (.string (bs x2))) (by rw [← hx2]; exact (byte_pure x1)) rfl rfl (stripL_cons rfl (stripL_cons (strip_c (clo_agg (Enc.clo _))) rfl)) (okTrimL_cons rfl (okTrimL_cons (okTrim_clo _ _ (clo_agg (Enc.clo _))) rfl)) (by dsimp only [aput, List.set]) ?_
    obtain ⟨g2, h⟩ := chk_e h
    refine w_snd (r := .tup [.raw (.int .i64 (List.length x2 : Int)), .raw .nilIface]) (σ' := (ownSt [(80, (Enc.cells (m : QSet))), (84, (bldC 1 true (s1.2.2 ++ x2)))] 5 (List.length ((s1.2.2 ++ x2) : List UInt8)) 1)) (bld_write (u := s1.2.1) (l := s1.2.2) (b := x2) g2 rfl) rfl rfl ⟨rfl, rfl⟩ (by dsimp only [aput, List.set]) ?_
    refine w_region (k0 := 0) (id := 6) ?_
    obtain ⟨g3, h⟩ := chk_e h
    refine w_op (a := .raw (.int .i64 (s1.1 + 1))) rfl rfl rfl (op_q (q_add rfl rfl rfl rfl g3.1 g3.2)) (by dsimp only [aput, List.set]) ?_
    refine w_mv ?_
    refine loop_next (p := p1) ((s1.1 + 1), (true, (s1.2.2 ++ x2))) h ?_
    exact wm_of [true, false, false, true, false, true, false, false, true, true, false, false, false, false, false, false, false, false, false, false] (by kernel_rfl) (by kernel_rfl)
   ·
    refine w_condF hc1 rfl ?_
    refine loop_exit h (fun h => ?_)
    refine cut_done (o := or1) ((s1.2.1, s1.2.2)) h ?_
    exact wm_of [false, false, false, false, false, true, false, false, false, false, false, false, false, false, false, false, false, false, false, false] (by kernel_rfl) (by kernel_rfl)
 ·
  intro j1 h
  refine w_start (by dsimp only [setAll, topAll, List.foldl, List.set]) rfl ?_
  refine w_seq (w_region ?_)
  refine w_snd (r := .raw (.string (bs j1.2))) (σ' := (ownSt [(80, (Enc.cells (m : QSet))), (84, (bldC 1 j1.1 j1.2))] 5 (List.length (j1.2 : List UInt8)) 1)) (bld_string (u := j1.1) (l := j1.2) rfl) rfl rfl ⟨rfl, rfl⟩ (by dsimp only [aput, List.set]) ?_
  refine w_mv ?_
  exact end_s h
def F_quote (fuel : Nat) (b : (List UInt8)) : Option (List UInt8) :=
  (bindE (F_qbytes fuel b QSet.mk) (fun x1 => (chk (List.length ([34] : List UInt8) + List.length x1 ≤ 9223372036854775807) (chk (List.length (([34] : List UInt8) ++ x1) + List.length ([34] : List UInt8) ≤ 9223372036854775807) (some ((([34] : List UInt8) ++ x1) ++ ([34] : List UInt8)))))))
theorem ent24 : Ent Tryd.prog 24 := enters_of Tryd.func24 (by kernel_rfl) rfl
set_option maxRecDepth 100000 in
set_option maxHeartbeats 4000000 in
theorem quote_sh (fuel : Nat) (b : (List UInt8)) (r : (List UInt8)) (h : F_quote fuel b = some r) : Pure (ITP Tryd.prog) Tryd.prog 24 [.raw (.string (bs b))] (.raw (.string (bs r))) := by
 obtain ⟨d, hd⟩ : ∃ d, Tryd.f24.body = some d := ⟨_, rfl⟩
 refine pure_of mix Tryd.func24 hd ent24 ?_
 cases hd
 unfold F_quote at h
 refine w_start (by dsimp only [abeginS, Tryd.f24, List.length_cons, List.length_nil, Nat.zero_add, Nat.reduceAdd, Nat.reduceSub, List.replicate, List.cons_append, List.nil_append]) (by dsimp only [St.empty]) ?_
 refine w_seq (w_region ?_)
 refine w_op (a := .raw (.string (bs ([] : List UInt8)))) rfl rfl rfl rfl (by dsimp only [aput, List.set]) ?_
 refine w_seq (w_region ?_)
 refine w_mv ?_
 refine w_op (a := .list (List.length (([34] : List UInt8) : List UInt8)) (Enc.cellsL (([34] : List UInt8) : List UInt8)) .full) rfl rfl rfl (op_q (q_lit (α := UInt8) (l := ([34] : List UInt8)) (cs := [.raw (.int .u8 34)]) rfl rfl)) (by dsimp only [aput, List.set]) ?_
 refine w_callc (args' := [.list (List.length (([34] : List UInt8) : List UInt8)) (Enc.cellsL (([34] : List UInt8) : List UInt8)) .none]) (r := .agg (Enc.cells (QSet.mk : QSet))) of_pure rfl rfl (stripL_cons (strip_l (Enc.cloL _)) rfl) (okTrimL_cons (okTrim_l (Enc.cloL _)) rfl) (by dsimp only [aput, List.set]) ?_
 obtain ⟨x1, hx1, h⟩ := bindE_e h
 refine w_callc (args' := [.raw (.string (bs b)), .agg (Enc.cells (QSet.mk : QSet))]) (r := .raw (.string (bs x1))) (qbytes_sh fuel b QSet.mk x1 hx1) rfl rfl (stripL_cons rfl (stripL_cons (strip_c (clo_agg (Enc.clo _))) rfl)) (okTrimL_cons rfl (okTrimL_cons (okTrim_clo _ _ (clo_agg (Enc.clo _))) rfl)) (by dsimp only [aput, List.set]) ?_
 obtain ⟨g1, h⟩ := chk_e h
 refine w_op (a := .raw (.string (bs (([34] : List UInt8) ++ x1)))) rfl rfl rfl (op_q (q_stradd g1 rfl rfl rfl)) (by dsimp only [aput, List.set]) ?_
 obtain ⟨g2, h⟩ := chk_e h
 refine w_op (a := .raw (.string (bs ((([34] : List UInt8) ++ x1) ++ ([34] : List UInt8))))) rfl rfl rfl (op_q (q_stradd g2 rfl rfl rfl)) (by dsimp only [aput, List.set]) ?_
 refine w_mv ?_
 exact end_s h
def F_readbyte (t : (List UInt8)) (m : QSet) : Option (Int × Int × Int) :=
  (cutE (τ := Unit) (bif (t == ([] : List UInt8)) then (some (Sum.inr (0, 0, 20))) else (chk (0 ≤ (0 : Int) ∧ (0 : Int) < (List.length t : Int)) (letE (ix t (0 : Int)) (fun x1 => (bif ((((x1).toNat : Nat) : Int) != 92) then (chk (0 ≤ (0 : Int) ∧ (0 : Int) < (List.length t : Int)) (letE (ix t (0 : Int)) (fun x2 => (bif (decide ((((x2).toNat : Nat) : Int) ≥ 32)) then (chk (0 ≤ (0 : Int) ∧ (0 : Int) < (List.length t : Int)) (letE (ix t (0 : Int)) (fun x3 => (bif (decide ((((x3).toNat : Nat) : Int) ≤ 126)) then (chk (0 ≤ (0 : Int) ∧ (0 : Int) < (List.length t : Int)) (letE (ix t (0 : Int)) (fun x4 => (letE (isMarkP x4) (fun x5 => (bif (!x5) then (chk (0 ≤ (0 : Int) ∧ (0 : Int) < (List.length t : Int)) (letE (ix t (0 : Int)) (fun x6 => (some (Sum.inr ((((x6).toNat : Nat) : Int), 1, 0)))))) else (chk (0 ≤ (0 : Int) ∧ (0 : Int) < (List.length t : Int)) (letE (ix t (0 : Int)) (fun x7 => (bif ((((x7).toNat : Nat) : Int) != 92) then (some (Sum.inr (0, 0, 20))) else (bif (decide ((List.length t : Int) < 2)) then (some (Sum.inr (0, 0, 20))) else (some (Sum.inl ()))))))))))))) else (chk (0 ≤ (0 : Int) ∧ (0 : Int) < (List.length t : Int)) (letE (ix t (0 : Int)) (fun x8 => (bif ((((x8).toNat : Nat) : Int) != 92) then (some (Sum.inr (0, 0, 20))) else (bif (decide ((List.length t : Int) < 2)) then (some (Sum.inr (0, 0, 20))) else (some (Sum.inl ()))))))))))) else (chk (0 ≤ (0 : Int) ∧ (0 : Int) < (List.length t : Int)) (letE (ix t (0 : Int)) (fun x9 => (bif ((((x9).toNat : Nat) : Int) != 92) then (some (Sum.inr (0, 0, 20))) else (bif (decide ((List.length t : Int) < 2)) then (some (Sum.inr (0, 0, 20))) else (some (Sum.inl ()))))))))))) else (chk (0 ≤ (0 : Int) ∧ (0 : Int) < (List.length t : Int)) (letE (ix t (0 : Int)) (fun x10 => (bif ((((x10).toNat : Nat) : Int) != 92) then (some (Sum.inr (0, 0, 20))) else (bif (decide ((List.length t : Int) < 2)) then (some (Sum.inr (0, 0, 20))) else (some (Sum.inl ())))))))))))) (fun j1 => (chk (0 ≤ (1 : Int) ∧ (1 : Int) < (List.length t : Int)) (letE (ix t (1 : Int)) (fun x11 => (letE (Lib.indexByte ([110, 114, 116] : List UInt8) x11) (fun x12 => (cutE (τ := Unit) (bif ((((x11).toNat : Nat) : Int) == 120) then (bif (decide ((List.length t : Int) > 3)) then (chk (0 ≤ (2 : Int) ∧ (2 : Int) < (List.length t : Int)) (letE (ix t (2 : Int)) (fun x13 => (letE (nibP x13) (fun x14 => (bif (decide (x14 < 16)) then (chk (0 ≤ (3 : Int) ∧ (3 : Int) < (List.length t : Int)) (letE (ix t (3 : Int)) (fun x15 => (letE (nibP x15) (fun x16 => (bif (decide (x16 < 16)) then (chk (0 ≤ (2 : Int) ∧ (2 : Int) < (List.length t : Int)) (letE (ix t (2 : Int)) (fun x17 => (letE (nibP x17) (fun x18 => (chk (0 ≤ (3 : Int) ∧ (3 : Int) < (List.length t : Int)) (letE (ix t (3 : Int)) (fun x19 => (letE (nibP x19) (fun x20 => (some (Sum.inr ((IntKind.u8.wrap (orI .i64 (shlI .i64 x18 4) x20)), 4, 0))))))))))))) else (bif ((((x11).toNat : Nat) : Int) == 92) then (some (Sum.inr ((((x11).toNat : Nat) : Int), 2, 0))) else (letE (isMarkP x11) (fun x21 => (bif x21 then (some (Sum.inr ((((x11).toNat : Nat) : Int), 2, 0))) else (bif (decide (x12 ≥ 0)) then (chk (0 ≤ x12 ∧ x12 < (List.length ([10, 13, 9] : List UInt8) : Int)) (letE (ix ([10, 13, 9] : List UInt8) x12) (fun x22 => (some (Sum.inr ((((x22).toNat : Nat) : Int), 2, 0)))))) else (some (Sum.inl ()))))))))))))) else (bif ((((x11).toNat : Nat) : Int) == 92) then (some (Sum.inr ((((x11).toNat : Nat) : Int), 2, 0))) else (letE (isMarkP x11) (fun x23 => (bif x23 then (some (Sum.inr ((((x11).toNat : Nat) : Int), 2, 0))) else (bif (decide (x12 ≥ 0)) then (chk (0 ≤ x12 ∧ x12 < (List.length ([10, 13, 9] : List UInt8) : Int)) (letE (ix ([10, 13, 9] : List UInt8) x12) (fun x24 => (some (Sum.inr ((((x24).toNat : Nat) : Int), 2, 0)))))) else (some (Sum.inl ()))))))))))))) else (bif ((((x11).toNat : Nat) : Int) == 92) then (some (Sum.inr ((((x11).toNat : Nat) : Int), 2, 0))) else (letE (isMarkP x11) (fun x25 => (bif x25 then (some (Sum.inr ((((x11).toNat : Nat) : Int), 2, 0))) else (bif (decide (x12 ≥ 0)) then (chk (0 ≤ x12 ∧ x12 < (List.length ([10, 13, 9] : List UInt8) : Int)) (letE (ix ([10, 13, 9] : List UInt8) x12) (fun x26 => (some (Sum.inr ((((x26).toNat : Nat) : Int), 2, 0)))))) else (some (Sum.inl ())))))))) else (bif ((((x11).toNat : Nat) : Int) == 92) then (some (Sum.inr ((((x11).toNat : Nat) : Int), 2, 0))) else (letE (isMarkP x11) (fun x27 => (bif x27 then (some (Sum.inr ((((x11).toNat : Nat) : Int), 2, 0))) else (bif (decide (x12 ≥ 0)) then (chk (0 ≤ x12 ∧ x12 < (List.length ([10, 13, 9] : List UInt8) : Int)) (letE (ix ([10, 13, 9] : List UInt8) x12) (fun x28 => (some (Sum.inr ((((x28).toNat : Nat) : Int), 2, 0)))))) else (some (Sum.inl ())))))))) (fun j2 => (some (0, 0, 20)))))))))))
theorem ent58 : Ent Tryd.prog 58 := enters_of Tryd.func58 (by kernel_rfl) rfl
set_option maxRecDepth 100000 in
set_option maxHeartbeats 4000000 in
theorem readbyte_sh (t : (List UInt8)) (m : QSet) (r : (Int × Int × Int)) (h : F_readbyte t m = some r) : Pure (ITP Tryd.prog) Tryd.prog 58 [.raw (.string (bs t)), .agg (Enc.cells (m : QSet))] (.tup [.raw (.int .u8 r.1), .raw (.int .i64 r.2.1), .raw (.int .i64 r.2.2)]) := by
 obtain ⟨d, hd⟩ : ∃ d, Tryd.f58.body = some d := ⟨_, rfl⟩
 refine pure_of mix Tryd.func58 hd ent58 ?_
 cases hd
 unfold F_readbyte at h
 refine w_start (by dsimp only [abeginS, Tryd.f58, List.length_cons, List.length_nil, Nat.zero_add, Nat.reduceAdd, Nat.reduceSub, List.replicate, List.cons_append, List.nil_append]) (by dsimp only [St.empty]) ?_
 refine w_seq (w_region ?_)
 refine w_opm (a := .ptr 0 0) (σ'' := ⟨[(80, (Enc.cells (m : QSet)))], [], [], 0, false⟩) rfl rfl rfl rfl (by dsimp only [aput, List.set]) rfl ?_
 refine w_op (a := .raw (.int .u8 0)) rfl rfl rfl rfl (by dsimp only [aput, List.set]) ?_
 refine w_op (a := .raw (.int .i64 0)) rfl rfl rfl rfl (by dsimp only [aput, List.set]) ?_
 refine w_op (a := .raw (.int .i64 0)) rfl rfl rfl rfl (by dsimp only [aput, List.set]) ?_
 refine w_cutF h [1, 2, 4, 5, 6, 7, 8, 9, 10, 11, 12, 13, 14, 15, 16, 17, 18, 19, 20, 21, 22, 23, 24, 25, 26, 27, 28, 29, 30, 31, 32, 33, 34, 35, 36, 37, 38, 39, 40, 41, 42, 43, 44, 45, 46, 47, 48, 49, 50, 51, 52, 53, 54, 55, 56, 57, 58, 59, 60, 61, 62, 63, 64, 65, 66, 67, 68, 69, 70, 71, 72, 73, 74, 75, 76, 77, 78, 79, 80, 81, 82, 83, 84, 85, 86, 87, 88, 89, 90] (fun j1 => []) (fun j1 => ⟨[(80, (Enc.cells (m : QSet)))], [], [], 0, false⟩) ?_ ?_
 ·
  intro or1 h hr1
  refine w_block ?_
  refine w_seq (w_region ?_)
  refine w_mv ?_
  refine w_op (a := .raw (.bool (t == ([] : List UInt8)))) rfl rfl rfl (op_q (q_streq rfl rfl rfl)) (by dsimp only [aput, List.set]) ?_
  refine w_mv ?_
  refine bif_e h (fun hc1 h => ?_) (fun hc1 h => ?_)
  ·
   refine w_condT hc1 rfl ?_
   refine w_seq (w_region ?_)
   refine w_op (a := .raw (.int .u8 0)) rfl rfl rfl rfl (by dsimp only [aput, List.set]) ?_
   refine w_op (a := .raw (.int .i64 0)) rfl rfl rfl rfl (by dsimp only [aput, List.set]) ?_
   refine w_op (a := .raw (.int .i64 20)) rfl rfl rfl rfl (by dsimp only [aput, List.set]) ?_
   replace h := cut_inr h hr1
   exact end_pureF (fun (r : (Int × Int × Int)) => (.tup [.raw (.int .u8 r.1), .raw (.int .i64 r.2.1), .raw (.int .i64 r.2.2)] : AV)) h (a := .tup [.raw (.int .u8 0), .raw (.int .i64 0), .raw (.int .i64 20)]) rfl (show okTrimL _ _ = true from (okTrimL_cons rfl (okTrimL_cons rfl (okTrimL_cons rfl rfl)))) (show AV.tup (stripL _) = _ from congrArg AV.tup (stripL_cons rfl (stripL_cons rfl (stripL_cons rfl rfl))))
  ·
   refine w_condF hc1 rfl ?_
   refine w_seq ?_
   refine w_draw (k0 := 0) (id := 3) 17 (by kernel_rfl) (by kernel_rfl) ?_
   refine h_mv ?_
   obtain ⟨g1, h⟩ := chk_e h
   obtain ⟨x1, hx1, h⟩ := letE_e h
   refine h_op (a := .raw (.int .u8 (((x1).toNat : Nat) : Int))) rfl rfl rfl (by rw [← hx1]; exact (q_sidx (l := t) (n := (0 : Int)) g1 rfl rfl rfl rfl)) (by dsimp only [aput, List.set]) ?_
   refine h_op (a := .raw (.bool ((((x1).toNat : Nat) : Int) != 92))) rfl rfl rfl rfl (by dsimp only [aput, List.set]) ?_
   refine bif_e h (fun hc2 h => ?_) (fun hc2 h => ?_)
   ·
    refine h_op (a := .raw (.bool true)) rfl rfl rfl (q_bool rfl hc2) (by dsimp only [aput, List.set]) ?_
    refine h_met rfl rfl ?_
    refine h_mv ?_
    refine h_met rfl rfl ?_
    obtain ⟨g2, h⟩ := chk_e h
    obtain ⟨x2, hx2, h⟩ := letE_e h
    refine h_op (a := .raw (.int .u8 (((x2).toNat : Nat) : Int))) rfl rfl rfl (by rw [← hx2]; exact (q_sidx (l := t) (n := (0 : Int)) g2 rfl rfl rfl rfl)) (by dsimp only [aput, List.set]) ?_
    refine h_met rfl rfl ?_
    refine h_op (a := .raw (.bool (decide ((((x2).toNat : Nat) : Int) ≥ 32)))) rfl rfl rfl rfl (by dsimp only [aput, List.set]) ?_
    refine h_op (a := .raw (.bool (decide ((((x2).toNat : Nat) : Int) ≥ 32)))) rfl rfl rfl rfl (by dsimp only [aput, List.set]) ?_
    refine bif_e h (fun hc3 h => ?_) (fun hc3 h => ?_)
    ·
     refine h_op (a := .raw (.bool true)) rfl rfl rfl (q_bool rfl hc3) (by dsimp only [aput, List.set]) ?_
     refine h_met rfl rfl ?_
     refine h_mv ?_
     refine h_met rfl rfl ?_
     obtain ⟨g3, h⟩ := chk_e h
     obtain ⟨x3, hx3, h⟩ := letE_e h
     refine h_op (a := .raw (.int .u8 (((x3).toNat : Nat) : Int))) rfl rfl rfl (by rw [← hx3]; exact (q_sidx (l := t) (n := (0 : Int)) g3 rfl rfl rfl rfl)) (by dsimp only [aput, List.set]) ?_
     refine h_met rfl rfl ?_
     refine h_op (a := .raw (.bool (decide ((((x3).toNat : Nat) : Int) ≤ 126)))) rfl rfl rfl rfl (by dsimp only [aput, List.set]) ?_
     refine h_op (a := .raw (.bool (decide ((((x3).toNat : Nat) : Int) ≤ 126)))) rfl rfl rfl rfl (by dsimp only [aput, List.set]) ?_
     refine bif_e h (fun hc4 h => ?_) (fun hc4 h => ?_)
     ·
      refine h_op (a := .raw (.bool true)) rfl rfl rfl (q_bool rfl hc4) (by dsimp only [aput, List.set]) ?_
      refine h_met rfl rfl ?_
      refine h_op (a := .agg (Enc.cells (m : QSet))) rfl rfl rfl rfl (by dsimp only [aput, List.set]) ?_
      refine h_met rfl rfl ?_
      refine h_mv ?_
      refine h_met rfl rfl ?_
      obtain ⟨g4, h⟩ := chk_e h
      obtain ⟨x4, hx4, h⟩ := letE_e h
      refine h_op (a := .raw (.int .u8 (((x4).toNat : Nat) : Int))) rfl rfl rfl (by rw [← hx4]; exact (q_sidx (l := t) (n := (0 : Int)) g4 rfl rfl rfl rfl)) (by dsimp only [aput, List.set]) ?_
      refine h_end ?_
      refine w_met rfl rfl ?_
      obtain ⟨x5, hx5, h⟩ := letE_e h
      refine w_callc (args' := [.agg (Enc.cells (m : QSet)), .raw (.int .u8 (((x4).toNat : Nat) : Int))]) (r := .raw (.bool x5)) (by rw [← hx5]; exact (mark_pure x4)) rfl rfl (stripL_cons (strip_c (clo_agg (Enc.clo _))) (stripL_cons rfl rfl)) (okTrimL_cons (okTrim_clo _ _ (clo_agg (Enc.clo _))) (okTrimL_cons rfl rfl)) (by dsimp only [aput, List.set]) ?_
      refine w_met rfl rfl ?_
      refine w_op (a := .raw (.bool (!x5))) rfl rfl rfl rfl (by dsimp only [aput, List.set]) ?_
      refine w_op (a := .raw (.bool (!x5))) rfl rfl rfl rfl (by dsimp only [aput, List.set]) ?_
      refine w_mv ?_
      refine bif_e h (fun hc5 h => ?_) (fun hc5 h => ?_)
      ·
       refine w_condT hc5 rfl ?_
       refine w_seq (w_region ?_)
       refine w_mv ?_
       obtain ⟨g5, h⟩ := chk_e h
       obtain ⟨x6, hx6, h⟩ := letE_e h
       refine w_op (a := .raw (.int .u8 (((x6).toNat : Nat) : Int))) rfl rfl rfl (op_q (by rw [← hx6]; exact (q_sidx (l := t) (n := (0 : Int)) g5 rfl rfl rfl rfl))) (by dsimp only [aput, List.set]) ?_
       refine w_mv ?_
       refine w_op (a := .raw (.int .i64 1)) rfl rfl rfl rfl (by dsimp only [aput, List.set]) ?_
       refine w_op (a := .raw (.int .i64 0)) rfl rfl rfl rfl (by dsimp only [aput, List.set]) ?_
       replace h := cut_inr h hr1
       exact end_pureF (fun (r : (Int × Int × Int)) => (.tup [.raw (.int .u8 r.1), .raw (.int .i64 r.2.1), .raw (.int .i64 r.2.2)] : AV)) h (a := .tup [.raw (.int .u8 (((x6).toNat : Nat) : Int)), .raw (.int .i64 1), .raw (.int .i64 0)]) rfl (show okTrimL _ _ = true from (okTrimL_cons rfl (okTrimL_cons rfl (okTrimL_cons rfl rfl)))) (show AV.tup (stripL _) = _ from congrArg AV.tup (stripL_cons rfl (stripL_cons rfl (stripL_cons rfl rfl))))
      ·
       refine w_condF hc5 rfl ?_
       refine w_seq (w_region ?_)
       refine w_mv ?_
       obtain ⟨g6, h⟩ := chk_e h
       obtain ⟨x7, hx7, h⟩ := letE_e h
       refine w_op (a := .raw (.int .u8 (((x7).toNat : Nat) : Int))) rfl rfl rfl (op_q (by rw [← hx7]; exact (q_sidx (l := t) (n := (0 : Int)) g6 rfl rfl rfl rfl))) (by dsimp only [aput, List.set]) ?_
       refine w_op (a := .raw (.bool ((((x7).toNat : Nat) : Int) != 92))) rfl rfl rfl rfl (by dsimp only [aput, List.set]) ?_
       refine bif_e h (fun hc6 h => ?_) (fun hc6 h => ?_)
       ·
        refine w_op (a := .raw (.bool true)) rfl rfl rfl (op_q (q_bool rfl hc6)) (by dsimp only [aput, List.set]) ?_
        refine w_pass rfl rfl (by decide) (by dsimp only [aput, List.set]) ?_
        refine w_pass rfl rfl (by decide) (by dsimp only [aput, List.set]) ?_
        refine w_pass rfl rfl (by decide) (by dsimp only [aput, List.set]) ?_
        refine w_op (a := .raw (.bool true)) rfl rfl rfl rfl (by dsimp only [aput, List.set]) ?_
        refine w_mv ?_
        refine w_true rfl ?_
        refine w_seq (w_region ?_)
        refine w_op (a := .raw (.int .u8 0)) rfl rfl rfl rfl (by dsimp only [aput, List.set]) ?_
        refine w_op (a := .raw (.int .i64 0)) rfl rfl rfl rfl (by dsimp only [aput, List.set]) ?_
        refine w_op (a := .raw (.int .i64 20)) rfl rfl rfl rfl (by dsimp only [aput, List.set]) ?_
        replace h := cut_inr h hr1
        exact end_pureF (fun (r : (Int × Int × Int)) => (.tup [.raw (.int .u8 r.1), .raw (.int .i64 r.2.1), .raw (.int .i64 r.2.2)] : AV)) h (a := .tup [.raw (.int .u8 0), .raw (.int .i64 0), .raw (.int .i64 20)]) rfl (show okTrimL _ _ = true from (okTrimL_cons rfl (okTrimL_cons rfl (okTrimL_cons rfl rfl)))) (show AV.tup (stripL _) = _ from congrArg AV.tup (stripL_cons rfl (stripL_cons rfl (stripL_cons rfl rfl))))
       ·
        refine w_op (a := .raw (.bool false)) rfl rfl rfl (op_q (q_bool rfl hc6)) (by dsimp only [aput, List.set]) ?_
        refine w_met rfl rfl ?_
        refine w_mv ?_
        refine w_met rfl rfl ?_
        refine w_op (a := .raw (.int .i64 (List.length t : Int))) rfl rfl rfl (op_q (q_lenS rfl rfl rfl)) (by dsimp only [aput, List.set]) ?_
        refine w_met rfl rfl ?_
        refine w_op (a := .raw (.bool (decide ((List.length t : Int) < 2)))) rfl rfl rfl rfl (by dsimp only [aput, List.set]) ?_
        refine w_op (a := .raw (.bool (decide ((List.length t : Int) < 2)))) rfl rfl rfl rfl (by dsimp only [aput, List.set]) ?_
        refine w_mv ?_
        refine bif_e h (fun hc7 h => ?_) (fun hc7 h => ?_)
        ·
         refine w_condT hc7 rfl ?_
         refine w_seq (w_region ?_)
         refine w_op (a := .raw (.int .u8 0)) rfl rfl rfl rfl (by dsimp only [aput, List.set]) ?_
         refine w_op (a := .raw (.int .i64 0)) rfl rfl rfl rfl (by dsimp only [aput, List.set]) ?_
         refine w_op (a := .raw (.int .i64 20)) rfl rfl rfl rfl (by dsimp only [aput, List.set]) ?_
         replace h := cut_inr h hr1
         exact end_pureF (fun (r : (Int × Int × Int)) => (.tup [.raw (.int .u8 r.1), .raw (.int .i64 r.2.1), .raw (.int .i64 r.2.2)] : AV)) h (a := .tup [.raw (.int .u8 0), .raw (.int .i64 0), .raw (.int .i64 20)]) rfl (show okTrimL _ _ = true from (okTrimL_cons rfl (okTrimL_cons rfl (okTrimL_cons rfl rfl)))) (show AV.tup (stripL _) = _ from congrArg AV.tup (stripL_cons rfl (stripL_cons rfl (stripL_cons rfl rfl))))
        ·
         refine w_condF hc7 rfl ?_
         refine cut_done (o := or1) () h ?_
         exact wm_of [true, false, false, true, false, false, false, false, false, false, false, false, false, false, false, false, false, false, false, false, false, false, false, false, false, false, false, false, false, false, false, false, false, false, false, false, false, false, false, false, false, false, false, false, false, false, false, false, false, false, false, false, false, false, false, false, false, false, false, false, false, false, false, false, false, false, false, false, false, false, false, false, false, false, false, false, false, false, false, false, false, false, false, false, false, false, false, false, false, false, false] (by kernel_rfl) (by kernel_rfl)
     ·
      refine h_op (a := .raw (.bool false)) rfl rfl rfl (q_bool rfl hc4) (by dsimp only [aput, List.set]) ?_
      refine h_pass rfl rfl rfl (by decide) (by dsimp only [aput, List.set]) ?_
      refine h_pass rfl rfl rfl (by decide) (by dsimp only [aput, List.set]) ?_
      refine h_pass rfl rfl rfl (by decide) (by dsimp only [aput, List.set]) ?_
      refine h_end ?_
      refine w_pass rfl rfl (by decide) (by dsimp only [aput, List.set]) ?_
      refine w_pass rfl rfl (by decide) (by dsimp only [aput, List.set]) ?_
      refine w_op (a := .raw (.bool false)) rfl rfl rfl rfl (by dsimp only [aput, List.set]) ?_
      refine w_mv ?_
      refine w_false rfl ?_
      refine w_seq (w_region ?_)
      refine w_mv ?_
      obtain ⟨g7, h⟩ := chk_e h
      obtain ⟨x8, hx8, h⟩ := letE_e h
      refine w_op (a := .raw (.int .u8 (((x8).toNat : Nat) : Int))) rfl rfl rfl (op_q (by rw [← hx8]; exact (q_sidx (l := t) (n := (0 : Int)) g7 rfl rfl rfl rfl))) (by dsimp only [aput, List.set]) ?_
      refine w_op (a := .raw (.bool ((((x8).toNat : Nat) : Int) != 92))) rfl rfl rfl rfl (by dsimp only [aput, List.set]) ?_
      refine bif_e h (fun hc8 h => ?_) (fun hc8 h => ?_)
      ·
       refine w_op (a := .raw (.bool true)) rfl rfl rfl (op_q (q_bool rfl hc8)) (by dsimp only [aput, List.set]) ?_
       refine w_pass rfl rfl (by decide) (by dsimp only [aput, List.set]) ?_
       refine w_pass rfl rfl (by decide) (by dsimp only [aput, List.set]) ?_
       refine w_pass rfl rfl (by decide) (by dsimp only [aput, List.set]) ?_
       refine w_op (a := .raw (.bool true)) rfl rfl rfl rfl (by dsimp only [aput, List.set]) ?_
       refine w_mv ?_
       refine w_true rfl ?_
       refine w_seq (w_region ?_)
       refine w_op (a := .raw (.int .u8 0)) rfl rfl rfl rfl (by dsimp only [aput, List.set]) ?_
       refine w_op (a := .raw (.int .i64 0)) rfl rfl rfl rfl (by dsimp only [aput, List.set]) ?_
       refine w_op (a := .raw (.int .i64 20)) rfl rfl rfl rfl (by dsimp only [aput, List.set]) ?_
       replace h := cut_inr h hr1
       exact end_pureF (fun (r : (Int × Int × Int)) => (.tup [.raw (.int .u8 r.1), .raw (.int .i64 r.2.1), .raw (.int .i64 r.2.2)] : AV)) h (a := .tup [.raw (.int .u8 0), .raw (.int .i64 0), .raw (.int .i64 20)]) rfl (show okTrimL _ _ = true from (okTrimL_cons rfl (okTrimL_cons rfl (okTrimL_cons rfl rfl)))) (show AV.tup (stripL _) = _ from congrArg AV.tup (stripL_cons rfl (stripL_cons rfl (stripL_cons rfl rfl))))
      ·
       refine w_op (a := .raw (.bool false)) rfl rfl rfl (op_q (q_bool rfl hc8)) (by dsimp only [aput, List.set]) ?_
       refine w_met rfl rfl ?_
       refine w_mv ?_
       refine w_met rfl rfl ?_
       refine w_op (a := .raw (.int .i64 (List.length t : Int))) rfl rfl rfl (op_q (q_lenS rfl rfl rfl)) (by dsimp only [aput, List.set]) ?_
       refine w_met rfl rfl ?_
       refine w_op (a := .raw (.bool (decide ((List.length t : Int) < 2)))) rfl rfl rfl rfl (by dsimp only [aput, List.set]) ?_
       refine w_op (a := .raw (.bool (decide ((List.length t : Int) < 2)))) rfl rfl rfl rfl (by dsimp only [aput, List.set]) ?_
       refine w_mv ?_
       refine bif_e h (fun hc9 h => ?_) (fun hc9 h => ?_)
       ·
        refine w_condT hc9 rfl ?_
        refine w_seq (w_region ?_)
        refine w_op (a := .raw (.int .u8 0)) rfl rfl rfl rfl (by dsimp only [aput, List.set]) ?_
        refine w_op (a := .raw (.int .i64 0)) rfl rfl rfl rfl (by dsimp only [aput, List.set]) ?_
        refine w_op (a := .raw (.int .i64 20)) rfl rfl rfl rfl (by dsimp only [aput, List.set]) ?_
        replace h := cut_inr h hr1
        exact end_pureF (fun (r : (Int × Int × Int)) => (.tup [.raw (.int .u8 r.1), .raw (.int .i64 r.2.1), .raw (.int .i64 r.2.2)] : AV)) h (a := .tup [.raw (.int .u8 0), .raw (.int .i64 0), .raw (.int .i64 20)]) rfl (show okTrimL _ _ = true from (okTrimL_cons rfl (okTrimL_cons rfl (okTrimL_cons rfl rfl)))) (show AV.tup (stripL _) = _ from congrArg AV.tup (stripL_cons rfl (stripL_cons rfl (stripL_cons rfl rfl))))
       ·
        refine w_condF hc9 rfl ?_
        refine cut_done (o := or1) () h ?_
        exact wm_of [true, false, false, true, false, false, false, false, false, false, false, false, false, false, false, false, false, false, false, false, false, false, false, false, false, false, false, false, false, false, false, false, false, false, false, false, false, false, false, false, false, false, false, false, false, false, false, false, false, false, false, false, false, false, false, false, false, false, false, false, false, false, false, false, false, false, false, false, false, false, false, false, false, false, false, false, false, false, false, false, false, false, false, false, false, false, false, false, false, false, false] (by kernel_rfl) (by kernel_rfl)
    ·
     refine h_op (a := .raw (.bool false)) rfl rfl rfl (q_bool rfl hc3) (by dsimp only [aput, List.set]) ?_
     refine h_pass rfl rfl rfl (by decide) (by dsimp only [aput, List.set]) ?_
     refine h_pass rfl rfl rfl (by decide) (by dsimp only [aput, List.set]) ?_
     refine h_pass rfl rfl rfl (by decide) (by dsimp only [aput, List.set]) ?_
     refine h_op (a := .raw (.bool false)) rfl rfl rfl rfl (by dsimp only [aput, List.set]) ?_
     refine h_mv ?_
     refine h_pass rfl rfl rfl (by decide) (by dsimp only [aput, List.set]) ?_
     refine h_pass rfl rfl rfl (by decide) (by dsimp only [aput, List.set]) ?_
     refine h_pass rfl rfl rfl (by decide) (by dsimp only [aput, List.set]) ?_
     refine h_end ?_
     refine w_pass rfl rfl (by decide) (by dsimp only [aput, List.set]) ?_
     refine w_pass rfl rfl (by decide) (by dsimp only [aput, List.set]) ?_
     refine w_op (a := .raw (.bool false)) rfl rfl rfl rfl (by dsimp only [aput, List.set]) ?_
     refine w_mv ?_
     refine w_false rfl ?_
     refine w_seq (w_region ?_)
     refine w_mv ?_
     obtain ⟨g8, h⟩ := chk_e h
     obtain ⟨x9, hx9, h⟩ := letE_e h
     refine w_op (a := .raw (.int .u8 (((x9).toNat : Nat) : Int))) rfl rfl rfl (op_q (by rw [← hx9]; exact (q_sidx (l := t) (n := (0 : Int)) g8 rfl rfl rfl rfl))) (by dsimp only [aput, List.set]) ?_
     refine w_op (a := .raw (.bool ((((x9).toNat : Nat) : Int) != 92))) rfl rfl rfl rfl (by dsimp only [aput, List.set]) ?_
     refine bif_e h (fun hc10 h => ?_) (fun hc10 h => ?_)
     ·
      refine w_op (a := .raw (.bool true)) rfl rfl rfl (op_q (q_bool rfl hc10)) (by dsimp only [aput, List.set]) ?_
      refine w_pass rfl rfl (by decide) (by dsimp only [aput, List.set]) ?_
      refine w_pass rfl rfl (by decide) (by dsimp only [aput, List.set]) ?_
      refine w_pass rfl rfl (by decide) (by dsimp only [aput, List.set]) ?_
      refine w_op (a := .raw (.bool true)) rfl rfl rfl rfl (by dsimp only [aput, List.set]) ?_
      refine w_mv ?_
      refine w_true rfl ?_
      refine w_seq (w_region ?_)
      refine w_op (a := .raw (.int .u8 0)) rfl rfl rfl rfl (by dsimp only [aput, List.set]) ?_
      refine w_op (a := .raw (.int .i64 0)) rfl rfl rfl rfl (by dsimp only [aput, List.set]) ?_
      refine w_op (a := .raw (.int .i64 20)) rfl rfl rfl rfl (by dsimp only [aput, List.set]) ?_
      replace h := cut_inr h hr1
      exact end_pureF (fun (r : (Int × Int × Int)) => (.tup [.raw (.int .u8 r.1), .raw (.int .i64 r.2.1), .raw (.int .i64 r.2.2)] : AV)) h (a := .tup [.raw (.int .u8 0), .raw (.int .i64 0), .raw (.int .i64 20)]) rfl (show okTrimL _ _ = true from (okTrimL_cons rfl (okTrimL_cons rfl (okTrimL_cons rfl rfl)))) (show AV.tup (stripL _) = _ from congrArg AV.tup (stripL_cons rfl (stripL_cons rfl (stripL_cons rfl rfl))))
     ·
      refine w_op (a := .raw (.bool false)) rfl rfl rfl (op_q (q_bool rfl hc10)) (by dsimp only [aput, List.set]) ?_
      refine w_met rfl rfl ?_
      refine w_mv ?_
      refine w_met rfl rfl ?_
      refine w_op (a := .raw (.int .i64 (List.length t : Int))) rfl rfl rfl (op_q (q_lenS rfl rfl rfl)) (by dsimp only [aput, List.set]) ?_
      refine w_met rfl rfl ?_
      refine w_op (a := .raw (.bool (decide ((List.length t : Int) < 2)))) rfl rfl rfl rfl (by dsimp only [aput, List.set]) ?_
      refine w_op (a := .raw (.bool (decide ((List.length t : Int) < 2)))) rfl rfl rfl rfl (by dsimp only [aput, List.set]) ?_
      refine w_mv ?_
      refine bif_e h (fun hc11 h => ?_) (fun hc11 h => ?_)
      ·
       refine w_condT hc11 rfl ?_
       refine w_seq (w_region ?_)
       refine w_op (a := .raw (.int .u8 0)) rfl rfl rfl rfl (by dsimp only [aput, List.set]) ?_
       refine w_op (a := .raw (.int .i64 0)) rfl rfl rfl rfl (by dsimp only [aput, List.set]) ?_
       refine w_op (a := .raw (.int .i64 20)) rfl rfl rfl rfl (by dsimp only [aput, List.set]) ?_
       replace h := cut_inr h hr1
       exact end_pureF (fun (r : (Int × Int × Int)) => (.tup [.raw (.int .u8 r.1), .raw (.int .i64 r.2.1), .raw (.int .i64 r.2.2)] : AV)) h (a := .tup [.raw (.int .u8 0), .raw (.int .i64 0), .raw (.int .i64 20)]) rfl (show okTrimL _ _ = true from (okTrimL_cons rfl (okTrimL_cons rfl (okTrimL_cons rfl rfl)))) (show AV.tup (stripL _) = _ from congrArg AV.tup (stripL_cons rfl (stripL_cons rfl (stripL_cons rfl rfl))))
      ·
       refine w_condF hc11 rfl ?_
       refine cut_done (o := or1) () h ?_
       exact wm_of [true, false, false, true, false, false, false, false, false, false, false, false, false, false, false, false, false, false, false, false, false, false, false, false, false, false, false, false, false, false, false, false, false, false, false, false, false, false, false, false, false, false, false, false, false, false, false, false, false, false, false, false, false, false, false, false, false, false, false, false, false, false, false, false, false, false, false, false, false, false, false, false, false, false, false, false, false, false, false, false, false, false, false, false, false, false, false, false, false, false, false] (by kernel_rfl) (by kernel_rfl)
   ·
    refine h_op (a := .raw (.bool false)) rfl rfl rfl (q_bool rfl hc2) (by dsimp only [aput, List.set]) ?_
    refine h_pass rfl rfl rfl (by decide) (by dsimp only [aput, List.set]) ?_
    refine h_pass rfl rfl rfl (by decide) (by dsimp only [aput, List.set]) ?_
    refine h_pass rfl rfl rfl (by decide) (by dsimp only [aput, List.set]) ?_
    refine h_op (a := .raw (.bool false)) rfl rfl rfl rfl (by dsimp only [aput, List.set]) ?_
    refine h_mv ?_
    refine h_pass rfl rfl rfl (by decide) (by dsimp only [aput, List.set]) ?_
    refine h_pass rfl rfl rfl (by decide) (by dsimp only [aput, List.set]) ?_
    refine h_pass rfl rfl rfl (by decide) (by dsimp only [aput, List.set]) ?_
    refine h_op (a := .raw (.bool false)) rfl rfl rfl rfl (by dsimp only [aput, List.set]) ?_
    refine h_mv ?_
    refine h_pass rfl rfl rfl (by decide) (by dsimp only [aput, List.set]) ?_
    refine h_pass rfl rfl rfl (by decide) (by dsimp only [aput, List.set]) ?_
    refine h_pass rfl rfl rfl (by decide) (by dsimp only [aput, List.set]) ?_
    refine h_end ?_
    refine w_pass rfl rfl (by decide) (by dsimp only [aput, List.set]) ?_
    refine w_pass rfl rfl (by decide) (by dsimp only [aput, List.set]) ?_
    refine w_op (a := .raw (.bool false)) rfl rfl rfl rfl (by dsimp only [aput, List.set]) ?_
    refine w_mv ?_
    refine w_false rfl ?_
    refine w_seq (w_region ?_)
    refine w_mv ?_
    obtain ⟨g9, h⟩ := chk_e h
    obtain ⟨x10, hx10, h⟩ := letE_e h
    refine w_op (a := .raw (.int .u8 (((x10).toNat : Nat) : Int))) rfl rfl rfl (op_q (by rw [← hx10]; exact (q_sidx (l := t) (n := (0 : Int)) g9 rfl rfl rfl rfl))) (by dsimp only [aput, List.set]) ?_
    refine w_op (a := .raw (.bool ((((x10).toNat : Nat) : Int) != 92))) rfl rfl rfl rfl (by dsimp only [aput, List.set]) ?_
    refine bif_e h (fun hc12 h => ?_) (fun hc12 h => ?_)
    ·
     refine w_op (a := .raw (.bool true)) rfl rfl rfl (op_q (q_bool rfl hc12)) (by dsimp only [aput, List.set]) ?_
     refine w_pass rfl rfl (by decide) (by dsimp only [aput, List.set]) ?_
     refine w_pass rfl rfl (by decide) (by dsimp only [aput, List.set]) ?_
     refine w_pass rfl rfl (by decide) (by dsimp only [aput, List.set]) ?_
     refine w_op (a := .raw (.bool true)) rfl rfl rfl rfl (by dsimp only [aput, List.set]) ?_
     refine w_mv ?_
     refine w_true rfl ?_
     refine w_seq (w_region ?_)
     refine w_op (a := .raw (.int .u8 0)) rfl rfl rfl rfl (by dsimp only [aput, List.set]) ?_
     refine w_op (a := .raw (.int .i64 0)) rfl rfl rfl rfl (by dsimp only [aput, List.set]) ?_
     refine w_op (a := .raw (.int .i64 20)) rfl rfl rfl rfl (by dsimp only [aput, List.set]) ?_
     replace h := cut_inr h hr1
     exact end_pureF (fun (r : (Int × Int × Int)) => (.tup [.raw (.int .u8 r.1), .raw (.int .i64 r.2.1), .raw (.int .i64 r.2.2)] : AV)) h (a := .tup [.raw (.int .u8 0), .raw (.int .i64 0), .raw (.int .i64 20)]) rfl (show okTrimL _ _ = true from (okTrimL_cons rfl (okTrimL_cons rfl (okTrimL_cons rfl rfl)))) (show AV.tup (stripL _) = _ from congrArg AV.tup (stripL_cons rfl (stripL_cons rfl (stripL_cons rfl rfl))))
    ·
     refine w_op (a := .raw (.bool false)) rfl rfl rfl (op_q (q_bool rfl hc12)) (by dsimp only [aput, List.set]) ?_
     refine w_met rfl rfl ?_
     refine w_mv ?_
     refine w_met rfl rfl ?_
     refine w_op (a := .raw (.int .i64 (List.length t : Int))) rfl rfl rfl (op_q (q_lenS rfl rfl rfl)) (by dsimp only [aput, List.set]) ?_
     refine w_met rfl rfl ?_
     refine w_op (a := .raw (.bool (decide ((List.length t : Int) < 2)))) rfl rfl rfl rfl (by dsimp only [aput, List.set]) ?_
     refine w_op (a := .raw (.bool (decide ((List.length t : Int) < 2)))) rfl rfl rfl rfl (by dsimp only [aput, List.set]) ?_
     refine w_mv ?_
     refine bif_e h (fun hc13 h => ?_) (fun hc13 h => ?_)
     ·
      refine w_condT hc13 rfl ?_
      refine w_seq (w_region ?_)
      refine w_op (a := .raw (.int .u8 0)) rfl rfl rfl rfl (by dsimp only [aput, List.set]) ?_
      refine w_op (a := .raw (.int .i64 0)) rfl rfl rfl rfl (by dsimp only [aput, List.set]) ?_
      refine w_op (a := .raw (.int .i64 20)) rfl rfl rfl rfl (by dsimp only [aput, List.set]) ?_
      replace h := cut_inr h hr1
      exact end_pureF (fun (r : (Int × Int × Int)) => (.tup [.raw (.int .u8 r.1), .raw (.int .i64 r.2.1), .raw (.int .i64 r.2.2)] : AV)) h (a := .tup [.raw (.int .u8 0), .raw (.int .i64 0), .raw (.int .i64 20)]) rfl (show okTrimL _ _ = true from (okTrimL_cons rfl (okTrimL_cons rfl (okTrimL_cons rfl rfl)))) (show AV.tup (stripL _) = _ from congrArg AV.tup (stripL_cons rfl (stripL_cons rfl (stripL_cons rfl rfl))))
     ·
      refine w_condF hc13 rfl ?_
      refine cut_done (o := or1) () h ?_
      exact wm_of [true, false, false, true, false, false, false, false, false, false, false, false, false, false, false, false, false, false, false, false, false, false, false, false, false, false, false, false, false, false, false, false, false, false, false, false, false, false, false, false, false, false, false, false, false, false, false, false, false, false, false, false, false, false, false, false, false, false, false, false, false, false, false, false, false, false, false, false, false, false, false, false, false, false, false, false, false, false, false, false, false, false, false, false, false, false, false, false, false, false, false] (by kernel_rfl) (by kernel_rfl)
 ·
  intro j1 h
  refine w_start (by dsimp only [setAll, topAll, List.foldl, List.set]) rfl ?_
  refine w_seq (w_region ?_)
  refine w_mv ?_
  obtain ⟨g10, h⟩ := chk_e h
  obtain ⟨x11, hx11, h⟩ := letE_e h
  refine w_op (a := .raw (.int .u8 (((x11).toNat : Nat) : Int))) rfl rfl rfl (op_q (by rw [← hx11]; exact (q_sidx (l := t) (n := (1 : Int)) g10 rfl rfl rfl rfl))) (by dsimp only [aput, List.set]) ?_
  refine w_mv ?_
  refine w_seq (w_region ?_)
  refine w_mv ?_
  obtain ⟨x12, hx12, h⟩ := letE_e h
  refine w_callc (args' := [.raw (.string (bs ([110, 114, 116] : List UInt8))), .raw (.int .u8 (((x11).toNat : Nat) : Int))]) (r := .raw (.int .i64 x12)) (by rw [← hx12]; exact (ixb_pure ([110, 114, 116] : List UInt8) x11)) rfl rfl (stripL_cons rfl (stripL_cons rfl rfl)) (okTrimL_cons rfl (okTrimL_cons rfl rfl)) (by dsimp only [aput, List.set]) ?_
  refine w_mv ?_
  refine w_cutF h [0, 3, 4, 5, 6, 7, 8, 44, 45, 46, 47, 48, 49, 50, 51, 52, 53, 54, 55, 56, 57, 58, 59, 60, 61, 62, 63, 64, 65, 66, 67, 68, 69, 70, 71, 72, 73, 74, 75, 76, 77, 78, 79, 80, 81, 82, 83, 84, 85, 86, 87, 88, 89, 90] (fun j2 => []) (fun j2 => ⟨[(80, (Enc.cells (m : QSet)))], [], [], 0, false⟩) ?_ ?_
  ·
   intro or2 h hr2
   refine w_block ?_
   refine w_seq (w_region ?_)
   refine w_mv ?_
   refine w_op (a := .raw (.bool ((((x11).toNat : Nat) : Int) == 120))) rfl rfl rfl rfl (by dsimp only [aput, List.set]) ?_
   refine bif_e h (fun hc14 h => ?_) (fun hc14 h => ?_)
   ·
    refine w_op (a := .raw (.bool true)) rfl rfl rfl (op_q (q_bool rfl hc14)) (by dsimp only [aput, List.set]) ?_
    refine w_met rfl rfl ?_
    refine w_mv ?_
    refine w_met rfl rfl ?_
    refine w_op (a := .raw (.int .i64 (List.length t : Int))) rfl rfl rfl (op_q (q_lenS rfl rfl rfl)) (by dsimp only [aput, List.set]) ?_
    refine w_met rfl rfl ?_
    refine w_op (a := .raw (.bool (decide ((List.length t : Int) > 3)))) rfl rfl rfl rfl (by dsimp only [aput, List.set]) ?_
    refine w_op (a := .raw (.bool (decide ((List.length t : Int) > 3)))) rfl rfl rfl rfl (by dsimp only [aput, List.set]) ?_
    refine bif_e h (fun hc15 h => ?_) (fun hc15 h => ?_)
    ·
     refine w_op (a := .raw (.bool true)) rfl rfl rfl (op_q (q_bool rfl hc15)) (by dsimp only [aput, List.set]) ?_
     refine w_met rfl rfl ?_
     refine w_mv ?_
     refine w_met rfl rfl ?_
     obtain ⟨g11, h⟩ := chk_e h
     obtain ⟨x13, hx13, h⟩ := letE_e h
     refine w_op (a := .raw (.int .u8 (((x13).toNat : Nat) : Int))) rfl rfl rfl (op_q (by rw [← hx13]; exact (q_sidx (l := t) (n := (2 : Int)) g11 rfl rfl rfl rfl))) (by dsimp only [aput, List.set]) ?_
     refine w_met rfl rfl ?_
     obtain ⟨x14, hx14, h⟩ := letE_e h
     refine w_callc (args' := [.raw (.int .u8 (((x13).toNat : Nat) : Int))]) (r := .raw (.int .i64 x14)) (by rw [← hx14]; exact (nib_pure x13)) rfl rfl (stripL_cons rfl rfl) (okTrimL_cons rfl rfl) (by dsimp only [aput, List.set]) ?_
     refine w_met rfl rfl ?_
     refine w_op (a := .raw (.bool (decide (x14 < 16)))) rfl rfl rfl rfl (by dsimp only [aput, List.set]) ?_
     refine w_op (a := .raw (.bool (decide (x14 < 16)))) rfl rfl rfl rfl (by dsimp only [aput, List.set]) ?_
     refine bif_e h (fun hc16 h => ?_) (fun hc16 h => ?_)
     ·
      refine w_op (a := .raw (.bool true)) rfl rfl rfl (op_q (q_bool rfl hc16)) (by dsimp only [aput, List.set]) ?_
      refine w_met rfl rfl ?_
      refine w_mv ?_
      refine w_met rfl rfl ?_
      obtain ⟨g12, h⟩ := chk_e h
      obtain ⟨x15, hx15, h⟩ := letE_e h
      refine w_op (a := .raw (.int .u8 (((x15).toNat : Nat) : Int))) rfl rfl rfl (op_q (by rw [← hx15]; exact (q_sidx (l := t) (n := (3 : Int)) g12 rfl rfl rfl rfl))) (by dsimp only [aput, List.set]) ?_
      refine w_met rfl rfl ?_
      obtain ⟨x16, hx16, h⟩ := letE_e h
      refine w_callc (args' := [.raw (.int .u8 (((x15).toNat : Nat) : Int))]) (r := .raw (.int .i64 x16)) (by rw [← hx16]; exact (nib_pure x15)) rfl rfl (stripL_cons rfl rfl) (okTrimL_cons rfl rfl) (by dsimp only [aput, List.set]) ?_
      refine w_met rfl rfl ?_
      refine w_op (a := .raw (.bool (decide (x16 < 16)))) rfl rfl rfl rfl (by dsimp only [aput, List.set]) ?_
      refine w_op (a := .raw (.bool (decide (x16 < 16)))) rfl rfl rfl rfl (by dsimp only [aput, List.set]) ?_
      refine w_mv ?_
      refine bif_e h (fun hc17 h => ?_) (fun hc17 h => ?_)
      ·
       refine w_condT hc17 rfl ?_
       refine w_seq ?_
       refine w_draw (k0 := 0) (id := 10) 7 (by kernel_rfl) (by kernel_rfl) ?_
       refine h_mv ?_
       obtain ⟨g13, h⟩ := chk_e h
       obtain ⟨x17, hx17, h⟩ := letE_e h
       refine h_op (a := .raw (.int .u8 (((x17).toNat : Nat) : Int))) rfl rfl rfl (by rw [← hx17]; exact (q_sidx (l := t) (n := (2 : Int)) g13 rfl rfl rfl rfl)) (by dsimp only [aput, List.set]) ?_
       obtain ⟨x18, hx18, h⟩ := letE_e h
       refine h_call (args' := [.raw (.int .u8 (((x17).toNat : Nat) : Int))]) (r := .raw (.int .i64 x18)) (by rw [← hx18]; exact (nib_pure x17)) rfl rfl rfl (stripL_cons rfl rfl) (okTrimL_cons rfl rfl) (by dsimp only [aput, List.set]) ?_
       refine h_op (a := .raw (.int .i64 (shlI .i64 x18 4))) rfl rfl rfl (q_shl (by decide) rfl rfl rfl) (by dsimp only [aput, List.set]) ?_
       refine h_mv ?_
       obtain ⟨g14, h⟩ := chk_e h
       obtain ⟨x19, hx19, h⟩ := letE_e h
       refine h_op (a := .raw (.int .u8 (((x19).toNat : Nat) : Int))) rfl rfl rfl (by rw [← hx19]; exact (q_sidx (l := t) (n := (3 : Int)) g14 rfl rfl rfl rfl)) (by dsimp only [aput, List.set]) ?_
       obtain ⟨x20, hx20, h⟩ := letE_e h
       refine h_call (args' := [.raw (.int .u8 (((x19).toNat : Nat) : Int))]) (r := .raw (.int .i64 x20)) (by rw [← hx20]; exact (nib_pure x19)) rfl rfl rfl (stripL_cons rfl rfl) (okTrimL_cons rfl rfl) (by dsimp only [aput, List.set]) ?_
       refine h_end ?_
       refine w_op (a := .raw (.int .i64 (orI .i64 (shlI .i64 x18 4) x20))) rfl rfl rfl rfl (by dsimp only [aput, List.set]) ?_
       refine w_op (a := .raw (.int .u8 (IntKind.u8.wrap (orI .i64 (shlI .i64 x18 4) x20)))) rfl rfl rfl rfl (by dsimp only [aput, List.set]) ?_
       refine w_mv ?_
       refine w_op (a := .raw (.int .i64 4)) rfl rfl rfl rfl (by dsimp only [aput, List.set]) ?_
       refine w_op (a := .raw (.int .i64 0)) rfl rfl rfl rfl (by dsimp only [aput, List.set]) ?_
       replace h := cut_inr h hr2
       exact end_pureF (fun (r : (Int × Int × Int)) => (.tup [.raw (.int .u8 r.1), .raw (.int .i64 r.2.1), .raw (.int .i64 r.2.2)] : AV)) h (a := .tup [.raw (.int .u8 (IntKind.u8.wrap (orI .i64 (shlI .i64 x18 4) x20))), .raw (.int .i64 4), .raw (.int .i64 0)]) rfl (show okTrimL _ _ = true from (okTrimL_cons rfl (okTrimL_cons rfl (okTrimL_cons rfl rfl)))) (show AV.tup (stripL _) = _ from congrArg AV.tup (stripL_cons rfl (stripL_cons rfl (stripL_cons rfl rfl))))
      ·
       refine w_condF hc17 rfl ?_
       refine w_seq (w_region ?_)
       refine w_mv ?_
       refine w_op (a := .raw (.bool ((((x11).toNat : Nat) : Int) == 92))) rfl rfl rfl rfl (by dsimp only [aput, List.set]) ?_
       refine bif_e h (fun hc18 h => ?_) (fun hc18 h => ?_)
       ·
        refine w_op (a := .raw (.bool true)) rfl rfl rfl (op_q (q_bool rfl hc18)) (by dsimp only [aput, List.set]) ?_
        refine w_pass rfl rfl (by decide) (by dsimp only [aput, List.set]) ?_
        refine w_pass rfl rfl (by decide) (by dsimp only [aput, List.set]) ?_
        refine w_pass rfl rfl (by decide) (by dsimp only [aput, List.set]) ?_
        refine w_op (a := .raw (.bool true)) rfl rfl rfl rfl (by dsimp only [aput, List.set]) ?_
        refine w_mv ?_
        refine w_true rfl ?_
        refine w_seq (w_region ?_)
        refine w_mv ?_
        refine w_mv ?_
        refine w_op (a := .raw (.int .i64 2)) rfl rfl rfl rfl (by dsimp only [aput, List.set]) ?_
        refine w_op (a := .raw (.int .i64 0)) rfl rfl rfl rfl (by dsimp only [aput, List.set]) ?_
        replace h := cut_inr h hr2
        exact end_pureF (fun (r : (Int × Int × Int)) => (.tup [.raw (.int .u8 r.1), .raw (.int .i64 r.2.1), .raw (.int .i64 r.2.2)] : AV)) h (a := .tup [.raw (.int .u8 (((x11).toNat : Nat) : Int)), .raw (.int .i64 2), .raw (.int .i64 0)]) rfl (show okTrimL _ _ = true from (okTrimL_cons rfl (okTrimL_cons rfl (okTrimL_cons rfl rfl)))) (show AV.tup (stripL _) = _ from congrArg AV.tup (stripL_cons rfl (stripL_cons rfl (stripL_cons rfl rfl))))
       ·
        refine w_op (a := .raw (.bool false)) rfl rfl rfl (op_q (q_bool rfl hc18)) (by dsimp only [aput, List.set]) ?_
        refine w_met rfl rfl ?_
        refine w_op (a := .agg (Enc.cells (m : QSet))) rfl rfl rfl rfl (by dsimp only [aput, List.set]) ?_
        refine w_met rfl rfl ?_
        refine w_mv ?_
        refine w_met rfl rfl ?_
        obtain ⟨x21, hx21, h⟩ := letE_e h
        refine w_callc (args' := [.agg (Enc.cells (m : QSet)), .raw (.int .u8 (((x11).toNat : Nat) : Int))]) (r := .raw (.bool x21)) (by rw [← hx21]; exact (mark_pure x11)) rfl rfl (stripL_cons (strip_c (clo_agg (Enc.clo _))) (stripL_cons rfl rfl)) (okTrimL_cons (okTrim_clo _ _ (clo_agg (Enc.clo _))) (okTrimL_cons rfl rfl)) (by dsimp only [aput, List.set]) ?_
        refine w_op (a := .raw (.bool x21)) rfl rfl rfl rfl (by dsimp only [aput, List.set]) ?_
        refine w_mv ?_
        refine bif_e h (fun hc19 h => ?_) (fun hc19 h => ?_)
        ·
         refine w_condT hc19 rfl ?_
         refine w_seq (w_region ?_)
         refine w_mv ?_
         refine w_mv ?_
         refine w_op (a := .raw (.int .i64 2)) rfl rfl rfl rfl (by dsimp only [aput, List.set]) ?_
         refine w_op (a := .raw (.int .i64 0)) rfl rfl rfl rfl (by dsimp only [aput, List.set]) ?_
         replace h := cut_inr h hr2
         exact end_pureF (fun (r : (Int × Int × Int)) => (.tup [.raw (.int .u8 r.1), .raw (.int .i64 r.2.1), .raw (.int .i64 r.2.2)] : AV)) h (a := .tup [.raw (.int .u8 (((x11).toNat : Nat) : Int)), .raw (.int .i64 2), .raw (.int .i64 0)]) rfl (show okTrimL _ _ = true from (okTrimL_cons rfl (okTrimL_cons rfl (okTrimL_cons rfl rfl)))) (show AV.tup (stripL _) = _ from congrArg AV.tup (stripL_cons rfl (stripL_cons rfl (stripL_cons rfl rfl))))
        ·
         refine w_condF hc19 rfl ?_
         refine w_seq (w_region ?_)
         refine w_mv ?_
         refine w_op (a := .raw (.bool (decide (x12 ≥ 0)))) rfl rfl rfl rfl (by dsimp only [aput, List.set]) ?_
         refine w_mv ?_
         refine bif_e h (fun hc20 h => ?_) (fun hc20 h => ?_)
         ·
          refine w_condT hc20 rfl ?_
          refine w_seq (w_region ?_)
          refine w_mv ?_
          obtain ⟨g15, h⟩ := chk_e h
          obtain ⟨x22, hx22, h⟩ := letE_e h
          refine w_op (a := .raw (.int .u8 (((x22).toNat : Nat) : Int))) rfl rfl rfl (op_q (by rw [← hx22]; exact (q_sidx (l := ([10, 13, 9] : List UInt8)) (n := x12) g15 rfl rfl rfl rfl))) (by dsimp only [aput, List.set]) ?_
          refine w_mv ?_
          refine w_op (a := .raw (.int .i64 2)) rfl rfl rfl rfl (by dsimp only [aput, List.set]) ?_
          refine w_op (a := .raw (.int .i64 0)) rfl rfl rfl rfl (by dsimp only [aput, List.set]) ?_
          replace h := cut_inr h hr2
          exact end_pureF (fun (r : (Int × Int × Int)) => (.tup [.raw (.int .u8 r.1), .raw (.int .i64 r.2.1), .raw (.int .i64 r.2.2)] : AV)) h (a := .tup [.raw (.int .u8 (((x22).toNat : Nat) : Int)), .raw (.int .i64 2), .raw (.int .i64 0)]) rfl (show okTrimL _ _ = true from (okTrimL_cons rfl (okTrimL_cons rfl (okTrimL_cons rfl rfl)))) (show AV.tup (stripL _) = _ from congrArg AV.tup (stripL_cons rfl (stripL_cons rfl (stripL_cons rfl rfl))))
         ·
          refine w_condF hc20 rfl ?_
          refine cut_done (o := or2) () h ?_
          exact wm_of [false, true, true, false, false, false, false, false, false, true, true, true, true, true, true, true, true, true, true, true, true, true, true, true, true, true, true, true, true, true, true, true, true, true, true, true, true, true, true, true, true, true, true, true, false, false, false, false, false, false, false, false, false, false, false, false, false, false, false, false, false, false, false, false, false, false, false, false, false, false, false, false, false, false, false, false, false, false, false, false, false, false, false, false, false, false, false, false, false, false, false] (by kernel_rfl) (by kernel_rfl)
     ·
      refine w_op (a := .raw (.bool false)) rfl rfl rfl (op_q (q_bool rfl hc16)) (by dsimp only [aput, List.set]) ?_
      refine w_pass rfl rfl (by decide) (by dsimp only [aput, List.set]) ?_
      refine w_pass rfl rfl (by decide) (by dsimp only [aput, List.set]) ?_
      refine w_pass rfl rfl (by decide) (by dsimp only [aput, List.set]) ?_
      refine w_pass rfl rfl (by decide) (by dsimp only [aput, List.set]) ?_
      refine w_op (a := .raw (.bool false)) rfl rfl rfl rfl (by dsimp only [aput, List.set]) ?_
      refine w_mv ?_
      refine w_false rfl ?_
      refine w_seq (w_region ?_)
      refine w_mv ?_
      refine w_op (a := .raw (.bool ((((x11).toNat : Nat) : Int) == 92))) rfl rfl rfl rfl (by dsimp only [aput, List.set]) ?_
      refine bif_e h (fun hc21 h => ?_) (fun hc21 h => ?_)
      ·
       refine w_op (a := .raw (.bool true)) rfl rfl rfl (op_q (q_bool rfl hc21)) (by dsimp only [aput, List.set]) ?_
       refine w_pass rfl rfl (by decide) (by dsimp only [aput, List.set]) ?_
       refine w_pass rfl rfl (by decide) (by dsimp only [aput, List.set]) ?_
       refine w_pass rfl rfl (by decide) (by dsimp only [aput, List.set]) ?_
       refine w_op (a := .raw (.bool true)) rfl rfl rfl rfl (by dsimp only [aput, List.set]) ?_
       refine w_mv ?_
       refine w_true rfl ?_
       refine w_seq (w_region ?_)
       refine w_mv ?_
       refine w_mv ?_
       refine w_op (a := .raw (.int .i64 2)) rfl rfl rfl rfl (by dsimp only [aput, List.set]) ?_
       refine w_op (a := .raw (.int .i64 0)) rfl rfl rfl rfl (by dsimp only [aput, List.set]) ?_
       replace h := cut_inr h hr2
       exact end_pureF (fun (r : (Int × Int × Int)) => (.tup [.raw (.int .u8 r.1), .raw (.int .i64 r.2.1), .raw (.int .i64 r.2.2)] : AV)) h (a := .tup [.raw (.int .u8 (((x11).toNat : Nat) : Int)), .raw (.int .i64 2), .raw (.int .i64 0)]) rfl (show okTrimL _ _ = true from (okTrimL_cons rfl (okTrimL_cons rfl (okTrimL_cons rfl rfl)))) (show AV.tup (stripL _) = _ from congrArg AV.tup (stripL_cons rfl (stripL_cons rfl (stripL_cons rfl rfl))))
      ·
       refine w_op (a := .raw (.bool false)) rfl rfl rfl (op_q (q_bool rfl hc21)) (by dsimp only [aput, List.set]) ?_
       refine w_met rfl rfl ?_
       refine w_op (a := .agg (Enc.cells (m : QSet))) rfl rfl rfl rfl (by dsimp only [aput, List.set]) ?_
       refine w_met rfl rfl ?_
       refine w_mv ?_
       refine w_met rfl rfl ?_
       obtain ⟨x23, hx23, h⟩ := letE_e h
       refine w_callc (args' := [.agg (Enc.cells (m : QSet)), .raw (.int .u8 (((x11).toNat : Nat) : Int))]) (r := .raw (.bool x23)) (by rw [← hx23]; exact (mark_pure x11)) rfl rfl (stripL_cons (strip_c (clo_agg (Enc.clo _))) (stripL_cons rfl rfl)) (okTrimL_cons (okTrim_clo _ _ (clo_agg (Enc.clo _))) (okTrimL_cons rfl rfl)) (by dsimp only [aput, List.set]) ?_
       refine w_op (a := .raw (.bool x23)) rfl rfl rfl rfl (by dsimp only [aput, List.set]) ?_
       refine w_mv ?_
       refine bif_e h (fun hc22 h => ?_) (fun hc22 h => ?_)
       ·
        refine w_condT hc22 rfl ?_
        refine w_seq (w_region ?_)
        refine w_mv ?_
        refine w_mv ?_
        refine w_op (a := .raw (.int .i64 2)) rfl rfl rfl rfl (by dsimp only [aput, List.set]) ?_
        refine w_op (a := .raw (.int .i64 0)) rfl rfl rfl rfl (by dsimp only [aput, List.set]) ?_
        replace h := cut_inr h hr2
        exact end_pureF (fun (r : (Int × Int × Int)) => (.tup [.raw (.int .u8 r.1), .raw (.int .i64 r.2.1), .raw (.int .i64 r.2.2)] : AV)) h (a := .tup [.raw (.int .u8 (((x11).toNat : Nat) : Int)), .raw (.int .i64 2), .raw (.int .i64 0)]) rfl (show okTrimL _ _ = true from (okTrimL_cons rfl (okTrimL_cons rfl (okTrimL_cons rfl rfl)))) (show AV.tup (stripL _) = _ from congrArg AV.tup (stripL_cons rfl (stripL_cons rfl (stripL_cons rfl rfl))))
       ·
        refine w_condF hc22 rfl ?_
        refine w_seq (w_region ?_)
        refine w_mv ?_
        refine w_op (a := .raw (.bool (decide (x12 ≥ 0)))) rfl rfl rfl rfl (by dsimp only [aput, List.set]) ?_
        refine w_mv ?_
        refine bif_e h (fun hc23 h => ?_) (fun hc23 h => ?_)
        ·
         refine w_condT hc23 rfl ?_
         refine w_seq (w_region ?_)
         refine w_mv ?_
         obtain ⟨g16, h⟩ := chk_e h
         obtain ⟨x24, hx24, h⟩ := letE_e h
         refine w_op (a := .raw (.int .u8 (((x24).toNat : Nat) : Int))) rfl rfl rfl (op_q (by rw [← hx24]; exact (q_sidx (l := ([10, 13, 9] : List UInt8)) (n := x12) g16 rfl rfl rfl rfl))) (by dsimp only [aput, List.set]) ?_
         refine w_mv ?_
         refine w_op (a := .raw (.int .i64 2)) rfl rfl rfl rfl (by dsimp only [aput, List.set]) ?_
         refine w_op (a := .raw (.int .i64 0)) rfl rfl rfl rfl (by dsimp only [aput, List.set]) ?_
         replace h := cut_inr h hr2
         exact end_pureF (fun (r : (Int × Int × Int)) => (.tup [.raw (.int .u8 r.1), .raw (.int .i64 r.2.1), .raw (.int .i64 r.2.2)] : AV)) h (a := .tup [.raw (.int .u8 (((x24).toNat : Nat) : Int)), .raw (.int .i64 2), .raw (.int .i64 0)]) rfl (show okTrimL _ _ = true from (okTrimL_cons rfl (okTrimL_cons rfl (okTrimL_cons rfl rfl)))) (show AV.tup (stripL _) = _ from congrArg AV.tup (stripL_cons rfl (stripL_cons rfl (stripL_cons rfl rfl))))
        ·
         refine w_condF hc23 rfl ?_
         refine cut_done (o := or2) () h ?_
         exact wm_of [false, true, true, false, false, false, false, false, false, true, true, true, true, true, true, true, true, true, true, true, true, true, true, true, true, true, true, true, true, true, true, true, true, true, true, true, true, true, true, true, true, true, true, true, false, false, false, false, false, false, false, false, false, false, false, false, false, false, false, false, false, false, false, false, false, false, false, false, false, false, false, false, false, false, false, false, false, false, false, false, false, false, false, false, false, false, false, false, false, false, false] (by kernel_rfl) (by kernel_rfl)
    ·
     refine w_op (a := .raw (.bool false)) rfl rfl rfl (op_q (q_bool rfl hc15)) (by dsimp only [aput, List.set]) ?_
     refine w_pass rfl rfl (by decide) (by dsimp only [aput, List.set]) ?_
     refine w_pass rfl rfl (by decide) (by dsimp only [aput, List.set]) ?_
     refine w_pass rfl rfl (by decide) (by dsimp only [aput, List.set]) ?_
     refine w_pass rfl rfl (by decide) (by dsimp only [aput, List.set]) ?_
     refine w_op (a := .raw (.bool false)) rfl rfl rfl rfl (by dsimp only [aput, List.set]) ?_
     refine w_mv ?_
     refine w_pass rfl rfl (by decide) (by dsimp only [aput, List.set]) ?_
     refine w_pass rfl rfl (by decide) (by dsimp only [aput, List.set]) ?_
     refine w_pass rfl rfl (by decide) (by dsimp only [aput, List.set]) ?_
     refine w_pass rfl rfl (by decide) (by dsimp only [aput, List.set]) ?_
     refine w_op (a := .raw (.bool false)) rfl rfl rfl rfl (by dsimp only [aput, List.set]) ?_
     refine w_mv ?_
     refine w_false rfl ?_
     refine w_seq (w_region ?_)
     refine w_mv ?_
     refine w_op (a := .raw (.bool ((((x11).toNat : Nat) : Int) == 92))) rfl rfl rfl rfl (by dsimp only [aput, List.set]) ?_
     refine bif_e h (fun hc24 h => ?_) (fun hc24 h => ?_)
     ·
      refine w_op (a := .raw (.bool true)) rfl rfl rfl (op_q (q_bool rfl hc24)) (by dsimp only [aput, List.set]) ?_
      refine w_pass rfl rfl (by decide) (by dsimp only [aput, List.set]) ?_
      refine w_pass rfl rfl (by decide) (by dsimp only [aput, List.set]) ?_
      refine w_pass rfl rfl (by decide) (by dsimp only [aput, List.set]) ?_
      refine w_op (a := .raw (.bool true)) rfl rfl rfl rfl (by dsimp only [aput, List.set]) ?_
      refine w_mv ?_
      refine w_true rfl ?_
      refine w_seq (w_region ?_)
      refine w_mv ?_
      refine w_mv ?_
      refine w_op (a := .raw (.int .i64 2)) rfl rfl rfl rfl (by dsimp only [aput, List.set]) ?_
      refine w_op (a := .raw (.int .i64 0)) rfl rfl rfl rfl (by dsimp only [aput, List.set]) ?_
      replace h := cut_inr h hr2
      exact end_pureF (fun (r : (Int × Int × Int)) => (.tup [.raw (.int .u8 r.1), .raw (.int .i64 r.2.1), .raw (.int .i64 r.2.2)] : AV)) h (a := .tup [.raw (.int .u8 (((x11).toNat : Nat) : Int)), .raw (.int .i64 2), .raw (.int .i64 0)]) rfl (show okTrimL _ _ = true from (okTrimL_cons rfl (okTrimL_cons rfl (okTrimL_cons rfl rfl)))) (show AV.tup (stripL _) = _ from congrArg AV.tup (stripL_cons rfl (stripL_cons rfl (stripL_cons rfl rfl))))
     ·
      refine w_op (a := .raw (.bool false)) rfl rfl rfl (op_q (q_bool rfl hc24)) (by dsimp only [aput, List.set]) ?_
      refine w_met rfl rfl ?_
      refine w_op (a := .agg (Enc.cells (m : QSet))) rfl rfl rfl rfl (by dsimp only [aput, List.set]) ?_
      refine w_met rfl rfl ?_
      refine w_mv ?_
      refine w_met rfl rfl ?_
      obtain ⟨x25, hx25, h⟩ := letE_e h
      refine w_callc (args' := [.agg (Enc.cells (m : QSet)), .raw (.int .u8 (((x11).toNat : Nat) : Int))]) (r := .raw (.bool x25)) (by rw [← hx25]; exact (mark_pure x11)) rfl rfl (stripL_cons (strip_c (clo_agg (Enc.clo _))) (stripL_cons rfl rfl)) (okTrimL_cons (okTrim_clo _ _ (clo_agg (Enc.clo _))) (okTrimL_cons rfl rfl)) (by dsimp only [aput, List.set]) ?_
      refine w_op (a := .raw (.bool x25)) rfl rfl rfl rfl (by dsimp only [aput, List.set]) ?_
      refine w_mv ?_
      refine bif_e h (fun hc25 h => ?_) (fun hc25 h => ?_)
      ·
       refine w_condT hc25 rfl ?_
       refine w_seq (w_region ?_)
       refine w_mv ?_
       refine w_mv ?_
       refine w_op (a := .raw (.int .i64 2)) rfl rfl rfl rfl (by dsimp only [aput, List.set]) ?_
       refine w_op (a := .raw (.int .i64 0)) rfl rfl rfl rfl (by dsimp only [aput, List.set]) ?_
       replace h := cut_inr h hr2
       exact end_pureF (fun (r : (Int × Int × Int)) => (.tup [.raw (.int .u8 r.1), .raw (.int .i64 r.2.1), .raw (.int .i64 r.2.2)] : AV)) h (a := .tup [.raw (.int .u8 (((x11).toNat : Nat) : Int)), .raw (.int .i64 2), .raw (.int .i64 0)]) rfl (show okTrimL _ _ = true from (okTrimL_cons rfl (okTrimL_cons rfl (okTrimL_cons rfl rfl)))) (show AV.tup (stripL _) = _ from congrArg AV.tup (stripL_cons rfl (stripL_cons rfl (stripL_cons rfl rfl))))
      ·
       refine w_condF hc25 rfl ?_
       refine w_seq (w_region ?_)
       refine w_mv ?_
       refine w_op (a := .raw (.bool (decide (x12 ≥ 0)))) rfl rfl rfl rfl (by dsimp only [aput, List.set]) ?_
       refine w_mv ?_
       refine bif_e h (fun hc26 h => ?_) (fun hc26 h => ?_)
       ·
        refine w_condT hc26 rfl ?_
        refine w_seq (w_region ?_)
        refine w_mv ?_
        obtain ⟨g17, h⟩ := chk_e h
        obtain ⟨x26, hx26, h⟩ := letE_e h
        refine w_op (a := .raw (.int .u8 (((x26).toNat : Nat) : Int))) rfl rfl rfl (op_q (by rw [← hx26]; exact (q_sidx (l := ([10, 13, 9] : List UInt8)) (n := x12) g17 rfl rfl rfl rfl))) (by dsimp only [aput, List.set]) ?_
        refine w_mv ?_
        refine w_op (a := .raw (.int .i64 2)) rfl rfl rfl rfl (by dsimp only [aput, List.set]) ?_
        refine w_op (a := .raw (.int .i64 0)) rfl rfl rfl rfl (by dsimp only [aput, List.set]) ?_
        replace h := cut_inr h hr2
        exact end_pureF (fun (r : (Int × Int × Int)) => (.tup [.raw (.int .u8 r.1), .raw (.int .i64 r.2.1), .raw (.int .i64 r.2.2)] : AV)) h (a := .tup [.raw (.int .u8 (((x26).toNat : Nat) : Int)), .raw (.int .i64 2), .raw (.int .i64 0)]) rfl (show okTrimL _ _ = true from (okTrimL_cons rfl (okTrimL_cons rfl (okTrimL_cons rfl rfl)))) (show AV.tup (stripL _) = _ from congrArg AV.tup (stripL_cons rfl (stripL_cons rfl (stripL_cons rfl rfl))))
       ·
        refine w_condF hc26 rfl ?_
        refine cut_done (o := or2) () h ?_
        exact wm_of [false, true, true, false, false, false, false, false, false, true, true, true, true, true, true, true, true, true, true, true, true, true, true, true, true, true, true, true, true, true, true, true, true, true, true, true, true, true, true, true, true, true, true, true, false, false, false, false, false, false, false, false, false, false, false, false, false, false, false, false, false, false, false, false, false, false, false, false, false, false, false, false, false, false, false, false, false, false, false, false, false, false, false, false, false, false, false, false, false, false, false] (by kernel_rfl) (by kernel_rfl)
   ·
    refine w_op (a := .raw (.bool false)) rfl rfl rfl (op_q (q_bool rfl hc14)) (by dsimp only [aput, List.set]) ?_
    refine w_pass rfl rfl (by decide) (by dsimp only [aput, List.set]) ?_
    refine w_pass rfl rfl (by decide) (by dsimp only [aput, List.set]) ?_
    refine w_pass rfl rfl (by decide) (by dsimp only [aput, List.set]) ?_
    refine w_op (a := .raw (.bool false)) rfl rfl rfl rfl (by dsimp only [aput, List.set]) ?_
    refine w_mv ?_
    refine w_pass rfl rfl (by decide) (by dsimp only [aput, List.set]) ?_
    refine w_pass rfl rfl (by decide) (by dsimp only [aput, List.set]) ?_
    refine w_pass rfl rfl (by decide) (by dsimp only [aput, List.set]) ?_
    refine w_pass rfl rfl (by decide) (by dsimp only [aput, List.set]) ?_
    refine w_op (a := .raw (.bool false)) rfl rfl rfl rfl (by dsimp only [aput, List.set]) ?_
    refine w_mv ?_
    refine w_pass rfl rfl (by decide) (by dsimp only [aput, List.set]) ?_
    refine w_pass rfl rfl (by decide) (by dsimp only [aput, List.set]) ?_
    refine w_pass rfl rfl (by decide) (by dsimp only [aput, List.set]) ?_
    refine w_pass rfl rfl (by decide) (by dsimp only [aput, List.set]) ?_
    refine w_op (a := .raw (.bool false)) rfl rfl rfl rfl (by dsimp only [aput, List.set]) ?_
    refine w_mv ?_
    refine w_false rfl ?_
    refine w_seq (w_region ?_)
    refine w_mv ?_
    refine w_op (a := .raw (.bool ((((x11).toNat : Nat) : Int) == 92))) rfl rfl rfl rfl (by dsimp only [aput, List.set]) ?_
    refine bif_e h (fun hc27 h => ?_) (fun hc27 h => ?_)
    ·
     refine w_op (a := .raw (.bool true)) rfl rfl rfl (op_q (q_bool rfl hc27)) (by dsimp only [aput, List.set]) ?_
     refine w_pass rfl rfl (by decide) (by dsimp only [aput, List.set]) ?_
     refine w_pass rfl rfl (by decide) (by dsimp only [aput, List.set]) ?_
     refine w_pass rfl rfl (by decide) (by dsimp only [aput, List.set]) ?_
     refine w_op (a := .raw (.bool true)) rfl rfl rfl rfl (by dsimp only [aput, List.set]) ?_
     refine w_mv ?_
     refine w_true rfl ?_
     refine w_seq (w_region ?_)
     refine w_mv ?_
     refine w_mv ?_
     refine w_op (a := .raw (.int .i64 2)) rfl rfl rfl rfl (by dsimp only [aput, List.set]) ?_
     refine w_op (a := .raw (.int .i64 0)) rfl rfl rfl rfl (by dsimp only [aput, List.set]) ?_
     replace h := cut_inr h hr2
     exact end_pureF (fun (r : (Int × Int × Int)) => (.tup [.raw (.int .u8 r.1), .raw (.int .i64 r.2.1), .raw (.int .i64 r.2.2)] : AV)) h (a := .tup [.raw (.int .u8 (((x11).toNat : Nat) : Int)), .raw (.int .i64 2), .raw (.int .i64 0)]) rfl (show okTrimL _ _ = true from (okTrimL_cons rfl (okTrimL_cons rfl (okTrimL_cons rfl rfl)))) (show AV.tup (stripL _) = _ from congrArg AV.tup (stripL_cons rfl (stripL_cons rfl (stripL_cons rfl rfl))))
    ·
     refine w_op (a := .raw (.bool false)) rfl rfl rfl (op_q (q_bool rfl hc27)) (by dsimp only [aput, List.set]) ?_
     refine w_met rfl rfl ?_
     refine w_op (a := .agg (Enc.cells (m : QSet))) rfl rfl rfl rfl (by dsimp only [aput, List.set]) ?_
     refine w_met rfl rfl ?_
     refine w_mv ?_
     refine w_met rfl rfl ?_
     obtain ⟨x27, hx27, h⟩ := letE_e h
     refine w_callc (args' := [.agg (Enc.cells (m : QSet)), .raw (.int .u8 (((x11).toNat : Nat) : Int))]) (r := .raw (.bool x27)) (by rw [← hx27]; exact (mark_pure x11)) rfl rfl (stripL_cons (strip_c (clo_agg (Enc.clo _))) (stripL_cons rfl rfl)) (okTrimL_cons (okTrim_clo _ _ (clo_agg (Enc.clo _))) (okTrimL_cons rfl rfl)) (by dsimp only [aput, List.set]) ?_
     refine w_op (a := .raw (.bool x27)) rfl rfl rfl rfl (by dsimp only [aput, List.set]) ?_
     refine w_mv ?_
     refine bif_e h (fun hc28 h => ?_) (fun hc28 h => ?_)
     ·
      refine w_condT hc28 rfl ?_
      refine w_seq (w_region ?_)
      refine w_mv ?_
      refine w_mv ?_
      refine w_op (a := .raw (.int .i64 2)) rfl rfl rfl rfl (by dsimp only [aput, List.set]) ?_
      refine w_op (a := .raw (.int .i64 0)) rfl rfl rfl rfl (by dsimp only [aput, List.set]) ?_
      replace h := cut_inr h hr2
      exact end_pureF (fun (r : (Int × Int × Int)) => (.tup [.raw (.int .u8 r.1), .raw (.int .i64 r.2.1), .raw (.int .i64 r.2.2)] : AV)) h (a := .tup [.raw (.int .u8 (((x11).toNat : Nat) : Int)), .raw (.int .i64 2), .raw (.int .i64 0)]) rfl (show okTrimL _ _ = true from (okTrimL_cons rfl (okTrimL_cons rfl (okTrimL_cons rfl rfl)))) (show AV.tup (stripL _) = _ from congrArg AV.tup (stripL_cons rfl (stripL_cons rfl (stripL_cons rfl rfl))))
     ·
      refine w_condF hc28 rfl ?_
      refine w_seq (w_region ?_)
      refine w_mv ?_
      refine w_op (a := .raw (.bool (decide (x12 ≥ 0)))) rfl rfl rfl rfl (by dsimp only [aput, List.set]) ?_
      refine w_mv ?_
      refine bif_e h (fun hc29 h => ?_) (fun hc29 h => ?_)
      ·
       refine w_condT hc29 rfl ?_
       refine w_seq (w_region ?_)
       refine w_mv ?_
       obtain ⟨g18, h⟩ := chk_e h
       obtain ⟨x28, hx28, h⟩ := letE_e h
       refine w_op (a := .raw (.int .u8 (((x28).toNat : Nat) : Int))) rfl rfl rfl (op_q (by rw [← hx28]; exact (q_sidx (l := ([10, 13, 9] : List UInt8)) (n := x12) g18 rfl rfl rfl rfl))) (by dsimp only [aput, List.set]) ?_
       refine w_mv ?_
       refine w_op (a := .raw (.int .i64 2)) rfl rfl rfl rfl (by dsimp only [aput, List.set]) ?_
       refine w_op (a := .raw (.int .i64 0)) rfl rfl rfl rfl (by dsimp only [aput, List.set]) ?_
       replace h := cut_inr h hr2
       exact end_pureF (fun (r : (Int × Int × Int)) => (.tup [.raw (.int .u8 r.1), .raw (.int .i64 r.2.1), .raw (.int .i64 r.2.2)] : AV)) h (a := .tup [.raw (.int .u8 (((x28).toNat : Nat) : Int)), .raw (.int .i64 2), .raw (.int .i64 0)]) rfl (show okTrimL _ _ = true from (okTrimL_cons rfl (okTrimL_cons rfl (okTrimL_cons rfl rfl)))) (show AV.tup (stripL _) = _ from congrArg AV.tup (stripL_cons rfl (stripL_cons rfl (stripL_cons rfl rfl))))
      ·
       refine w_condF hc29 rfl ?_
       refine cut_done (o := or2) () h ?_
       exact wm_of [false, true, true, false, false, false, false, false, false, true, true, true, true, true, true, true, true, true, true, true, true, true, true, true, true, true, true, true, true, true, true, true, true, true, true, true, true, true, true, true, true, true, true, true, false, false, false, false, false, false, false, false, false, false, false, false, false, false, false, false, false, false, false, false, false, false, false, false, false, false, false, false, false, false, false, false, false, false, false, false, false, false, false, false, false, false, false, false, false, false, false] (by kernel_rfl) (by kernel_rfl)
  ·
   intro j2 h
   refine w_start (by dsimp only [setAll, topAll, List.foldl, List.set]) rfl ?_
   refine w_seq (w_region ?_)
   refine w_op (a := .raw (.int .u8 0)) rfl rfl rfl rfl (by dsimp only [aput, List.set]) ?_
   refine w_op (a := .raw (.int .i64 0)) rfl rfl rfl rfl (by dsimp only [aput, List.set]) ?_
   refine w_op (a := .raw (.int .i64 20)) rfl rfl rfl rfl (by dsimp only [aput, List.set]) ?_
   exact end_pureF (fun (r : (Int × Int × Int)) => (.tup [.raw (.int .u8 r.1), .raw (.int .i64 r.2.1), .raw (.int .i64 r.2.2)] : AV)) h (a := .tup [.raw (.int .u8 0), .raw (.int .i64 0), .raw (.int .i64 20)]) rfl (show okTrimL _ _ = true from (okTrimL_cons rfl (okTrimL_cons rfl (okTrimL_cons rfl rfl)))) (show AV.tup (stripL _) = _ from congrArg AV.tup (stripL_cons rfl (stripL_cons rfl (stripL_cons rfl rfl))))
def F_unquote (fuel : Nat) (t : (List UInt8)) : Option ((List UInt8) × Int × Int) :=
  (bif (t == ([] : List UInt8)) then (some (([] : List UInt8), 0, 21)) else (chk (0 ≤ (0 : Int) ∧ (0 : Int) < (List.length t : Int)) (letE (ix t (0 : Int)) (fun x1 => (bif ((((x1).toNat : Nat) : Int) != 34) then (some (([] : List UInt8), 0, 21)) else (cutE (τ := (List UInt8)) (loopE (β := (List UInt8) × Int) (fun s1 => (bif (decide (s1.2 < (List.length t : Int))) then (chk (0 ≤ s1.2 ∧ s1.2 < (List.length t : Int)) (letE (ix t s1.2) (fun x2 => (bif ((((x2).toNat : Nat) : Int) == 34) then (chk (-9223372036854775808 ≤ (s1.2 + 1) ∧ (s1.2 + 1) < 9223372036854775808) (some (Sum.inr (Sum.inr (s1.1, (s1.2 + 1), 0))))) else (chk (0 ≤ s1.2 ∧ s1.2 ≤ (List.length t : Int) ∧ (List.length t : Int) ≤ (List.length t : Int)) (letE (sub t s1.2 (List.length t : Int)) (fun x3 => (bindE (F_readbyte x3 QSet.mk) (fun x4 => (bif (x4.2.2 != 0) then (some (Sum.inr (Sum.inr (([] : List UInt8), s1.2, x4.2.2)))) else (chk (0 ≤ x4.1 ∧ x4.1 < 256) (chk ((List.length s1.1 + List.length ([(u8of x4.1)] : List UInt8)) * 1 ≤ 140737488355328) (chk (-9223372036854775808 ≤ (s1.2 + x4.2.1) ∧ (s1.2 + x4.2.1) < 9223372036854775808) (some (Sum.inl ((s1.1 ++ ([(u8of x4.1)] : List UInt8)), (s1.2 + x4.2.1))))))))))))))))) else (some (Sum.inr (Sum.inl (s1.1)))))) fuel (([] : (List UInt8)), 1)) (fun j1 => (some (([] : List UInt8), (List.length t : Int), 21)))))))))
theorem ent45 : Ent Tryd.prog 45 := enters_of Tryd.func45 (by kernel_rfl) rfl
set_option maxRecDepth 100000 in
set_option maxHeartbeats 4000000 in
theorem unquote_sh (fuel : Nat) (t : (List UInt8)) (r : ((List UInt8) × Int × Int)) (h : F_unquote fuel t = some r) : Pure (ITP Tryd.prog) Tryd.prog 45 [.raw (.string (bs t))] (.tup [.raw (.string (bs r.1)), .raw (.int .i64 r.2.1), .raw (.int .i64 r.2.2)]) := by
 obtain ⟨d, hd⟩ : ∃ d, Tryd.f45.body = some d := ⟨_, rfl⟩
 refine pure_of mix Tryd.func45 hd ent45 ?_
 cases hd
 unfold F_unquote at h
 refine w_start (by dsimp only [abeginS, Tryd.f45, List.length_cons, List.length_nil, Nat.zero_add, Nat.reduceAdd, Nat.reduceSub, List.replicate, List.cons_append, List.nil_append]) (by dsimp only [St.empty]) ?_
 refine w_seq (w_region ?_)
 refine w_op (a := .raw (.string (bs ([] : List UInt8)))) rfl rfl rfl rfl (by dsimp only [aput, List.set]) ?_
 refine w_op (a := .raw (.int .i64 0)) rfl rfl rfl rfl (by dsimp only [aput, List.set]) ?_
 refine w_op (a := .raw (.int .i64 0)) rfl rfl rfl rfl (by dsimp only [aput, List.set]) ?_
 refine w_seq ?_
 refine w_seq (w_region ?_)
 refine w_mv ?_
 refine w_op (a := .raw (.bool (t == ([] : List UInt8)))) rfl rfl rfl (op_q (q_streq rfl rfl rfl)) (by dsimp only [aput, List.set]) ?_
 refine bif_e h (fun hc1 h => ?_) (fun hc1 h => ?_)
 ·
  refine w_op (a := .raw (.bool true)) rfl rfl rfl (op_q (q_bool rfl hc1)) (by dsimp only [aput, List.set]) ?_
  refine w_pass rfl rfl (by decide) (by dsimp only [aput, List.set]) ?_
  refine w_pass rfl rfl (by decide) (by dsimp only [aput, List.set]) ?_
  refine w_pass rfl rfl (by decide) (by dsimp only [aput, List.set]) ?_
  refine w_op (a := .raw (.bool true)) rfl rfl rfl rfl (by dsimp only [aput, List.set]) ?_
  refine w_true rfl ?_
  refine w_seq (w_region ?_)
  refine w_op (a := .raw (.string (bs ([] : List UInt8)))) rfl rfl rfl rfl (by dsimp only [aput, List.set]) ?_
  refine w_op (a := .raw (.int .i64 0)) rfl rfl rfl rfl (by dsimp only [aput, List.set]) ?_
  refine w_op (a := .raw (.int .i64 21)) rfl rfl rfl rfl (by dsimp only [aput, List.set]) ?_
  exact end_pureF (fun (r : ((List UInt8) × Int × Int)) => (.tup [.raw (.string (bs r.1)), .raw (.int .i64 r.2.1), .raw (.int .i64 r.2.2)] : AV)) h (a := .tup [.raw (.string (bs ([] : List UInt8))), .raw (.int .i64 0), .raw (.int .i64 21)]) rfl (show okTrimL _ _ = true from (okTrimL_cons rfl (okTrimL_cons rfl (okTrimL_cons rfl rfl)))) (show AV.tup (stripL _) = _ from congrArg AV.tup (stripL_cons rfl (stripL_cons rfl (stripL_cons rfl rfl))))
 ·
  refine w_op (a := .raw (.bool false)) rfl rfl rfl (op_q (q_bool rfl hc1)) (by dsimp only [aput, List.set]) ?_
  refine w_met rfl rfl ?_
  refine w_mv ?_
  refine w_met rfl rfl ?_
  obtain ⟨g1, h⟩ := chk_e h
  obtain ⟨x1, hx1, h⟩ := letE_e h
  refine w_op (a := .raw (.int .u8 (((x1).toNat : Nat) : Int))) rfl rfl rfl (op_q (by rw [← hx1]; exact (q_sidx (l := t) (n := (0 : Int)) g1 rfl rfl rfl rfl))) (by dsimp only [aput, List.set]) ?_
  refine w_met rfl rfl ?_
  refine w_op (a := .raw (.bool ((((x1).toNat : Nat) : Int) != 34))) rfl rfl rfl rfl (by dsimp only [aput, List.set]) ?_
  refine w_op (a := .raw (.bool ((((x1).toNat : Nat) : Int) != 34))) rfl rfl rfl rfl (by dsimp only [aput, List.set]) ?_
  refine bif_e h (fun hc2 h => ?_) (fun hc2 h => ?_)
  ·
   refine w_condT hc2 rfl ?_
   refine w_seq (w_region ?_)
   refine w_op (a := .raw (.string (bs ([] : List UInt8)))) rfl rfl rfl rfl (by dsimp only [aput, List.set]) ?_
   refine w_op (a := .raw (.int .i64 0)) rfl rfl rfl rfl (by dsimp only [aput, List.set]) ?_
   refine w_op (a := .raw (.int .i64 21)) rfl rfl rfl rfl (by dsimp only [aput, List.set]) ?_
   exact end_pureF (fun (r : ((List UInt8) × Int × Int)) => (.tup [.raw (.string (bs r.1)), .raw (.int .i64 r.2.1), .raw (.int .i64 r.2.2)] : AV)) h (a := .tup [.raw (.string (bs ([] : List UInt8))), .raw (.int .i64 0), .raw (.int .i64 21)]) rfl (show okTrimL _ _ = true from (okTrimL_cons rfl (okTrimL_cons rfl (okTrimL_cons rfl rfl)))) (show AV.tup (stripL _) = _ from congrArg AV.tup (stripL_cons rfl (stripL_cons rfl (stripL_cons rfl rfl))))
  ·
   refine w_condF hc2 rfl ?_
   refine w_seq (w_region ?_)
   refine w_op (a := .list 0 [] .full) rfl rfl rfl rfl (by dsimp only [aput, List.set]) ?_
   refine w_cutF h [1, 2, 3, 4, 5, 6, 7, 8, 9, 10, 11, 12, 13, 14, 15, 16, 17, 18, 19, 20, 21, 22, 23, 24, 25, 26, 27, 28, 29, 30, 31, 32, 33, 34, 35, 36, 37, 38, 39, 40, 41, 42, 43, 44, 45, 46, 47, 48, 49, 50, 51] (fun j1 => [(5, (ownAV (List.length (j1 : List UInt8)) (Enc.cellsL (j1 : List UInt8))))]) (fun j1 => (ownSt [] 5 (List.length (j1 : List UInt8)) 1)) ?_ ?_
   ·
    intro or1 h hr1
    refine w_seq (w_region ?_)
    refine w_op (a := .raw (.int .i64 1)) rfl rfl rfl rfl (by dsimp only [aput, List.set]) ?_
    refine w_block ?_
    refine w_loopF h [1, 2, 3, 4, 5, 6, 7, 8, 9, 10, 11, 12, 13, 14, 15, 16, 17, 18, 19, 20, 21, 22, 23, 24, 25, 26, 27, 28, 29, 30, 31, 32, 33, 34, 35, 36, 37, 38, 39, 40, 41, 42, 43, 44, 45, 46, 47, 48, 49, 50, 51] (fun s1 => [(5, (ownAV (List.length (s1.1 : List UInt8)) (Enc.cellsL (s1.1 : List UInt8)))), (6, .raw (.int .i64 s1.2))]) (fun s1 => (ownSt [] 5 (List.length (s1.1 : List UInt8)) 1)) ?_ ?_
    ·
     exact wm_of [true, false, false, false, false, true, true, false, false, false, false, false, false, false, false, false, false, false, false, false, false, false, false, false, false, false, false, false, false, false, false, false, false, false, false, false, false, false, false, false, false, false, false, false, false, false, false, false, false, false, false, false] (by kernel_rfl) (by kernel_rfl)
    ·
     intro s1 p1 h
     refine w_start (by dsimp only [setAll, topAll, List.foldl, List.set]) rfl ?_
     refine w_seq ?_
     refine w_seq (w_region ?_)
     refine w_mv ?_
     refine w_mv ?_
     refine w_op (a := .raw (.int .i64 (List.length t : Int))) rfl rfl rfl (op_q (q_lenS rfl rfl rfl)) (by dsimp only [aput, List.set]) ?_
     refine w_op (a := .raw (.bool (decide (s1.2 < (List.length t : Int))))) rfl rfl rfl rfl (by dsimp only [aput, List.set]) ?_
     refine bif_e h (fun hc3 h => ?_) (fun hc3 h => ?_)
     ·
      refine w_condT hc3 rfl ?_
      refine w_block ?_
      refine w_seq ?_
      refine w_seq (w_region ?_)
      refine w_mv ?_
      refine w_mv ?_
      obtain ⟨g2, h⟩ := chk_e h
      obtain ⟨x2, hx2, h⟩ := letE_e h
      refine w_op (a := .raw (.int .u8 (((x2).toNat : Nat) : Int))) rfl rfl rfl (op_q (by rw [← hx2]; exact (q_sidx (l := t) (n := s1.2) g2 rfl rfl rfl rfl))) (by dsimp only [aput, List.set]) ?_
      refine w_op (a := .raw (.bool ((((x2).toNat : Nat) : Int) == 34))) rfl rfl rfl rfl (by dsimp only [aput, List.set]) ?_
      refine bif_e h (fun hc4 h => ?_) (fun hc4 h => ?_)
      ·
       refine w_condT hc4 rfl ?_
       refine w_seq (w_region ?_)
       refine w_mv ?_
       refine w_op (a := .raw (.string (bs s1.1))) rfl rfl rfl (op_q (q_bstrO (l := s1.1) rfl rfl ⟨rfl, rfl⟩ rfl)) (by dsimp only [aput, List.set]) ?_
       refine w_mv ?_
       obtain ⟨g3, h⟩ := chk_e h
       refine w_op (a := .raw (.int .i64 (s1.2 + 1))) rfl rfl rfl (op_q (q_add rfl rfl rfl rfl g3.1 g3.2)) (by dsimp only [aput, List.set]) ?_
       refine w_mv ?_
       refine w_mv ?_
       refine w_op (a := .raw (.int .i64 0)) rfl rfl rfl rfl (by dsimp only [aput, List.set]) ?_
       refine loop_exit h (fun h => ?_)
       replace h := cut_inr h hr1
       exact end_pureF (fun (r : ((List UInt8) × Int × Int)) => (.tup [.raw (.string (bs r.1)), .raw (.int .i64 r.2.1), .raw (.int .i64 r.2.2)] : AV)) h (a := .tup [.raw (.string (bs s1.1)), .raw (.int .i64 (s1.2 + 1)), .raw (.int .i64 0)]) rfl (show okTrimL _ _ = true from (okTrimL_cons rfl (okTrimL_cons rfl (okTrimL_cons rfl rfl)))) (show AV.tup (stripL _) = _ from congrArg AV.tup (stripL_cons rfl (stripL_cons rfl (stripL_cons rfl rfl))))
      ·
       refine w_condF hc4 rfl ?_
       refine w_seq ?_
       refine w_draw (k0 := 0) (id := 8) 12 (by kernel_rfl) (by kernel_rfl) ?_
       refine h_mv ?_
       refine h_mv ?_
       obtain ⟨g4, h⟩ := chk_e h
       obtain ⟨x3, hx3, h⟩ := letE_e h
       refine h_op (a := .raw (.string (bs x3))) rfl rfl rfl (by rw [← hx3]; exact (q_sslL_ (l := t) g4 rfl rfl rfl rfl)) (by dsimp only [aput, List.set]) ?_
       refine h_op (a := .list (List.length (([34] : List UInt8) : List UInt8)) (Enc.cellsL (([34] : List UInt8) : List UInt8)) .full) rfl rfl rfl (q_lit (α := UInt8) (l := ([34] : List UInt8)) (cs := [.raw (.int .u8 34)]) rfl rfl) (by dsimp only [aput, List.set]) ?_
       refine h_call (args' := [.list (List.length (([34] : List UInt8) : List UInt8)) (Enc.cellsL (([34] : List UInt8) : List UInt8)) .none]) (r := .agg (Enc.cells (QSet.mk : QSet))) of_pure rfl rfl rfl (stripL_cons (strip_l (Enc.cloL _)) rfl) (okTrimL_cons (okTrim_l (Enc.cloL _)) rfl) (by dsimp only [aput, List.set]) ?_
       obtain ⟨x4, hx4, h⟩ := bindE_e h
       refine h_call (args' := [.raw (.string (bs x3)), .agg (Enc.cells (QSet.mk : QSet))]) (r := .tup [.raw (.int .u8 x4.1), .raw (.int .i64 x4.2.1), .raw (.int .i64 x4.2.2)]) (readbyte_sh x3 QSet.mk x4 hx4) rfl rfl rfl (stripL_cons rfl (stripL_cons (strip_c (clo_agg (Enc.clo _))) rfl)) (okTrimL_cons rfl (okTrimL_cons (okTrim_clo _ _ (clo_agg (Enc.clo _))) rfl)) (by dsimp only [aput, List.set]) ?_
       refine h_mv ?_
       refine h_ex ?_
       refine h_ex ?_
       refine h_ex ?_
       refine h_mv ?_
       refine h_mv ?_
       refine h_end ?_
       refine w_mv ?_
       refine w_seq ?_
       refine w_seq (w_region ?_)
       refine w_mv ?_
       refine w_op (a := .raw (.bool (x4.2.2 != 0))) rfl rfl rfl rfl (by dsimp only [aput, List.set]) ?_
       refine bif_e h (fun hc5 h => ?_) (fun hc5 h => ?_)
       ·
        refine w_condT hc5 rfl ?_
        refine w_seq (w_region ?_)
        refine w_mv ?_
        refine w_mv ?_
        refine w_op (a := .raw (.string (bs ([] : List UInt8)))) rfl rfl rfl rfl (by dsimp only [aput, List.set]) ?_
        refine w_mv ?_
        refine w_mv ?_
        refine loop_exit h (fun h => ?_)
        replace h := cut_inr h hr1
        exact end_pureF (fun (r : ((List UInt8) × Int × Int)) => (.tup [.raw (.string (bs r.1)), .raw (.int .i64 r.2.1), .raw (.int .i64 r.2.2)] : AV)) h (a := .tup [.raw (.string (bs ([] : List UInt8))), .raw (.int .i64 s1.2), .raw (.int .i64 x4.2.2)]) rfl (show okTrimL _ _ = true from (okTrimL_cons rfl (okTrimL_cons rfl (okTrimL_cons rfl rfl)))) (show AV.tup (stripL _) = _ from congrArg AV.tup (stripL_cons rfl (stripL_cons rfl (stripL_cons rfl rfl))))
       ·
        refine w_condF hc5 rfl ?_
        refine w_seq (w_region ?_)
        refine w_mv ?_
        refine w_mv ?_
        obtain ⟨g5, h⟩ := chk_e h
        refine w_op (a := .list (List.length (([(u8of x4.1)] : List UInt8) : List UInt8)) (Enc.cellsL (([(u8of x4.1)] : List UInt8) : List UInt8)) .full) rfl rfl rfl (op_q (q_lit (α := UInt8) (l := ([(u8of x4.1)] : List UInt8)) (cs := [.raw (.int .u8 x4.1)]) rfl (by show List.map _ _ = _; simp only [List.map_cons, List.map_nil, u8c g5]))) (by dsimp only [aput, List.set]) ?_
        obtain ⟨g6, h⟩ := chk_e h
        refine w_opm (a := (ownAV (List.length ((s1.1 ++ ([(u8of x4.1)] : List UInt8)) : List UInt8)) (Enc.cellsL ((s1.1 ++ ([(u8of x4.1)] : List UInt8)) : List UInt8)))) (σ'' := (ownSt [] 5 (List.length ((s1.1 ++ ([(u8of x4.1)] : List UInt8)) : List UInt8)) 1)) rfl rfl rfl (op_append rfl rfl rfl rfl (append_ownE (α := UInt8) (bs := []) (a := s1.1) (b := ([(u8of x4.1)] : List UInt8)) g6 rfl rfl rfl rfl rfl ⟨rfl, by decide⟩)) (by dsimp only [aput, List.set]) rfl ?_
        refine w_mv ?_
        refine w_region (k0 := 0) (id := 12) ?_
        refine w_mv ?_
        refine w_mv ?_
        obtain ⟨g7, h⟩ := chk_e h
        refine w_op (a := .raw (.int .i64 (s1.2 + x4.2.1))) rfl rfl rfl (op_q (q_add rfl rfl rfl rfl g7.1 g7.2)) (by dsimp only [aput, List.set]) ?_
        refine w_mv ?_
        refine loop_next (p := p1) ((s1.1 ++ ([(u8of x4.1)] : List UInt8)), (s1.2 + x4.2.1)) h ?_
        exact wm_of [true, false, false, false, false, true, true, false, false, false, false, false, false, false, false, false, false, false, false, false, false, false, false, false, false, false, false, false, false, false, false, false, false, false, false, false, false, false, false, false, false, false, false, false, false, false, false, false, false, false, false, false] (by kernel_rfl) (by kernel_rfl)
     ·
      refine w_condF hc3 rfl ?_
      refine loop_exit h (fun h => ?_)
      refine cut_done (o := or1) (s1.1) h ?_
      exact wm_of [true, false, false, false, false, true, false, false, false, false, false, false, false, false, false, false, false, false, false, false, false, false, false, false, false, false, false, false, false, false, false, false, false, false, false, false, false, false, false, false, false, false, false, false, false, false, false, false, false, false, false, false] (by kernel_rfl) (by kernel_rfl)
   ·
    intro j1 h
    refine w_start (by dsimp only [setAll, topAll, List.foldl, List.set]) rfl ?_
    refine w_seq (w_region ?_)
    refine w_mv ?_
    refine w_op (a := .raw (.int .i64 (List.length t : Int))) rfl rfl rfl (op_q (q_lenS rfl rfl rfl)) (by dsimp only [aput, List.set]) ?_
    refine w_op (a := .raw (.string (bs ([] : List UInt8)))) rfl rfl rfl rfl (by dsimp only [aput, List.set]) ?_
    refine w_mv ?_
    refine w_op (a := .raw (.int .i64 21)) rfl rfl rfl rfl (by dsimp only [aput, List.set]) ?_
    exact end_pureF (fun (r : ((List UInt8) × Int × Int)) => (.tup [.raw (.string (bs r.1)), .raw (.int .i64 r.2.1), .raw (.int .i64 r.2.2)] : AV)) h (a := .tup [.raw (.string (bs ([] : List UInt8))), .raw (.int .i64 (List.length t : Int)), .raw (.int .i64 21)]) rfl (show okTrimL _ _ = true from (okTrimL_cons rfl (okTrimL_cons rfl (okTrimL_cons rfl rfl)))) (show AV.tup (stripL _) = _ from congrArg AV.tup (stripL_cons rfl (stripL_cons rfl (stripL_cons rfl rfl))))
def F_right (e : Ev) (over : Bool) : Option Bool :=
  (bif (e.k == 1) then (some (!over)) else (cutE (τ := Bool) (bif (e.k == 2) then (some (Sum.inl ((e.k == 2)))) else (some (Sum.inl ((e.k == 3))))) (fun j1 => (bif j1 then (bif (decide (e = (Ev.mk e.k 0))) then (bif over then (some (!(e.k == 3))) else (some true)) else (some false)) else (some false)))))
theorem ent28 : Ent Tryd.prog 28 := enters_of Tryd.func28 (by kernel_rfl) rfl
set_option maxRecDepth 100000 in
set_option maxHeartbeats 4000000 in
theorem right_sh (e : Ev) (over : Bool) (r : Bool) (h : F_right e over = some r) : Pure (ITP Tryd.prog) Tryd.prog 28 [.agg (Enc.cells (e : Ev)), .raw (.bool over)] (.raw (.bool r)) := by
 obtain ⟨d, hd⟩ : ∃ d, Tryd.f28.body = some d := ⟨_, rfl⟩
 refine pure_of mix Tryd.func28 hd ent28 ?_
 cases hd
 unfold F_right at h
 refine w_start (by dsimp only [abeginS, Tryd.f28, List.length_cons, List.length_nil, Nat.zero_add, Nat.reduceAdd, Nat.reduceSub, List.replicate, List.cons_append, List.nil_append]) (by dsimp only [St.empty]) ?_
 refine w_seq (w_region ?_)
 refine w_opm (a := .ptr 0 0) (σ'' := ⟨[(32, (Enc.cells (e : Ev)))], [], [], 0, false⟩) rfl rfl rfl rfl (by dsimp only [aput, List.set]) rfl ?_
 refine w_op (a := .raw (.bool false)) rfl rfl rfl rfl (by dsimp only [aput, List.set]) ?_
 refine w_seq ?_
 refine w_seq (w_region ?_)
 refine w_op (a := .ptr 0 0) rfl rfl rfl rfl (by dsimp only [aput, List.set]) ?_
 refine w_op (a := .raw (.int .u8 e.k)) rfl rfl rfl rfl (by dsimp only [aput, List.set]) ?_
 refine w_block ?_
 refine w_seq (w_region ?_)
 refine w_op (a := .raw (.bool (e.k == 1))) rfl rfl rfl rfl (by dsimp only [aput, List.set]) ?_
 refine w_mv ?_
 refine bif_e h (fun hc1 h => ?_) (fun hc1 h => ?_)
 ·
  refine w_condT hc1 rfl ?_
  refine w_seq (w_region ?_)
  refine w_mv ?_
  refine w_op (a := .raw (.bool (!over))) rfl rfl rfl rfl (by dsimp only [aput, List.set]) ?_
  refine w_mv ?_
  exact end_b h
 ·
  refine w_condF hc1 rfl ?_
  refine w_cutF h [0, 3, 4, 5, 6, 7, 8, 9, 10, 11, 12, 13, 14, 15, 16, 17, 18, 19, 20, 21, 22, 23, 24, 25, 26, 27] (fun j1 => [(11, .raw (.bool j1))]) (fun j1 => ⟨[(32, (Enc.cells (e : Ev)))], [], [], 0, false⟩) ?_ ?_
  ·
   intro or1 h hr1
   refine w_seq (w_region ?_)
   refine w_op (a := .raw (.bool (e.k == 2))) rfl rfl rfl rfl (by dsimp only [aput, List.set]) ?_
   refine w_mv ?_
   refine bif_e h (fun hc2 h => ?_) (fun hc2 h => ?_)
   ·
    refine w_condT hc2 rfl ?_
    refine cut_done (o := or1) ((e.k == 2)) h ?_
    exact wm_of [false, true, true, false, false, false, false, false, false, false, false, true, false, false, false, false, false, false, false, false, false, false, false, false, false, false, false, false] (by kernel_rfl) (by kernel_rfl)
   ·
    refine w_condF hc2 rfl ?_
    refine w_region (k0 := 0) (id := 5) ?_
    refine w_op (a := .raw (.bool (e.k == 3))) rfl rfl rfl rfl (by dsimp only [aput, List.set]) ?_
    refine w_mv ?_
    refine cut_done (o := or1) ((e.k == 3)) h ?_
    exact wm_of [false, true, true, false, false, false, false, false, false, false, false, true, false, false, false, false, false, false, false, false, false, false, false, false, false, false, false, false] (by kernel_rfl) (by kernel_rfl)
  ·
   intro j1 h
   refine w_start (by dsimp only [setAll, topAll, List.foldl, List.set]) rfl ?_
   refine bif_e h (fun hc3 h => ?_) (fun hc3 h => ?_)
   ·
    refine w_condT hc3 rfl ?_
    refine w_seq (w_region ?_)
    refine w_op (a := .agg (Enc.cells (e : Ev))) rfl rfl rfl rfl (by dsimp only [aput, List.set]) ?_
    refine w_op (a := .ptr 0 0) rfl rfl rfl rfl (by dsimp only [aput, List.set]) ?_
    refine w_op (a := .raw (.int .u8 e.k)) rfl rfl rfl rfl (by dsimp only [aput, List.set]) ?_
    refine w_op (a := .agg (Enc.cells ((Ev.mk e.k 0) : Ev))) rfl rfl rfl rfl (by dsimp only [aput, List.set]) ?_
    refine w_run (.raw (.bool (decide (e = (Ev.mk e.k 0))))) rfl rfl rfl (rs_eqEv e (Ev.mk e.k 0) rfl rfl rfl) (by dsimp only [aput, List.set]) ?_
    refine bif_e h (fun hc4 h => ?_) (fun hc4 h => ?_)
    ·
     refine w_op (a := .raw (.bool true)) rfl rfl rfl (op_q (q_bool rfl hc4)) (by dsimp only [aput, List.set]) ?_
     refine w_met rfl rfl ?_
     refine w_mv ?_
     refine w_met rfl rfl ?_
     refine bif_e h (fun hc5 h => ?_) (fun hc5 h => ?_)
     ·
      refine w_op (a := .raw (.bool true)) rfl rfl rfl (op_q (q_bool rfl hc5)) (by dsimp only [aput, List.set]) ?_
      refine w_met rfl rfl ?_
      refine w_op (a := .ptr 0 0) rfl rfl rfl rfl (by dsimp only [aput, List.set]) ?_
      refine w_met rfl rfl ?_
      refine w_op (a := .raw (.int .u8 e.k)) rfl rfl rfl rfl (by dsimp only [aput, List.set]) ?_
      refine w_met rfl rfl ?_
      refine w_op (a := .raw (.bool (e.k == 3))) rfl rfl rfl rfl (by dsimp only [aput, List.set]) ?_
      refine w_met rfl rfl ?_
      refine w_op (a := .raw (.bool (e.k == 3))) rfl rfl rfl rfl (by dsimp only [aput, List.set]) ?_
      refine w_met rfl rfl ?_
      refine w_op (a := .raw (.bool (!(e.k == 3)))) rfl rfl rfl rfl (by dsimp only [aput, List.set]) ?_
      refine w_op (a := .raw (.bool (!(e.k == 3)))) rfl rfl rfl rfl (by dsimp only [aput, List.set]) ?_
      refine w_mv ?_
      exact end_b h
     ·
      refine w_op (a := .raw (.bool false)) rfl rfl rfl (op_q (q_bool rfl hc5)) (by dsimp only [aput, List.set]) ?_
      refine w_pass rfl rfl (by decide) (by dsimp only [aput, List.set]) ?_
      refine w_pass rfl rfl (by decide) (by dsimp only [aput, List.set]) ?_
      refine w_pass rfl rfl (by decide) (by dsimp only [aput, List.set]) ?_
      refine w_met rfl rfl ?_
      refine w_op (a := .raw (.bool false)) rfl rfl rfl rfl (by dsimp only [aput, List.set]) ?_
      refine w_met rfl rfl ?_
      refine w_op (a := .raw (.bool true)) rfl rfl rfl rfl (by dsimp only [aput, List.set]) ?_
      refine w_op (a := .raw (.bool true)) rfl rfl rfl rfl (by dsimp only [aput, List.set]) ?_
      refine w_mv ?_
      exact end_b h
    ·
     refine w_op (a := .raw (.bool false)) rfl rfl rfl (op_q (q_bool rfl hc4)) (by dsimp only [aput, List.set]) ?_
     refine w_pass rfl rfl (by decide) (by dsimp only [aput, List.set]) ?_
     refine w_pass rfl rfl (by decide) (by dsimp only [aput, List.set]) ?_
     refine w_pass rfl rfl (by decide) (by dsimp only [aput, List.set]) ?_
     refine w_pass rfl rfl (by decide) (by dsimp only [aput, List.set]) ?_
     refine w_pass rfl rfl (by decide) (by dsimp only [aput, List.set]) ?_
     refine w_pass rfl rfl (by decide) (by dsimp only [aput, List.set]) ?_
     refine w_pass rfl rfl (by decide) (by dsimp only [aput, List.set]) ?_
     refine w_op (a := .raw (.bool false)) rfl rfl rfl rfl (by dsimp only [aput, List.set]) ?_
     refine w_mv ?_
     exact end_b h
   ·
    refine w_condF hc3 rfl ?_
    refine w_seq (w_region ?_)
    refine w_op (a := .raw (.bool false)) rfl rfl rfl rfl (by dsimp only [aput, List.set]) ?_
    exact end_b h
def F_check (fuel : Nat) (l : (List Ev)) : Option (Int × Int) :=
  (bif (decide ((List.length l : Int) > 4096)) then (some ((-1), 5)) else (cutE (τ := Unit) (loopE (β := Bool × Int) (fun s1 => (bif (decide (s1.2 < (List.length l : Int))) then (cutE (τ := Bool) (chk (0 ≤ s1.2 ∧ s1.2 < (List.length l : Int)) (letE (ix l s1.2) (fun x1 => (bindE (F_right x1 s1.1) (fun x2 => (bif (!x2) then (some (Sum.inr (Sum.inr (Sum.inr (s1.2, 320))))) else (bif s1.1 then (some (Sum.inl (true))) else (some (Sum.inl ((x1.k == 3))))))))))) (fun j2 => (chk (-9223372036854775808 ≤ (s1.2 + 1) ∧ (s1.2 + 1) < 9223372036854775808) (some (Sum.inl (j2, (s1.2 + 1))))))) else (some (Sum.inr (Sum.inl ()))))) fuel (false, 0)) (fun j1 => (some ((-1), 0)))))
theorem ent12 : Ent Tryd.prog 12 := enters_of Tryd.func12 (by kernel_rfl) rfl
set_option maxRecDepth 100000 in
set_option maxHeartbeats 4000000 in
theorem check_sh (fuel : Nat) (l : (List Ev)) (r : (Int × Int)) (h : F_check fuel l = some r) : Pure (ITP Tryd.prog) Tryd.prog 12 [.list (List.length (l : List Ev)) (Enc.cellsL (l : List Ev)) .none] (.tup [.raw (.int .i64 r.1), .raw (.int .i64 r.2)]) := by
 obtain ⟨d, hd⟩ : ∃ d, Tryd.f12.body = some d := ⟨_, rfl⟩
 refine pure_of mix Tryd.func12 hd ent12 ?_
 cases hd
 unfold F_check at h
 refine w_start (by dsimp only [abeginS, Tryd.f12, List.length_cons, List.length_nil, Nat.zero_add, Nat.reduceAdd, Nat.reduceSub, List.replicate, List.cons_append, List.nil_append]) (by dsimp only [St.empty]) ?_
 refine w_seq (w_region ?_)
 refine w_op (a := .raw (.int .i64 0)) rfl rfl rfl rfl (by dsimp only [aput, List.set]) ?_
 refine w_op (a := .raw (.int .i64 0)) rfl rfl rfl rfl (by dsimp only [aput, List.set]) ?_
 refine w_seq ?_
 refine w_seq (w_region ?_)
 refine w_mv ?_
 refine w_op (a := .raw (.int .i64 (List.length l : Int))) rfl rfl rfl rfl (by dsimp only [aput, List.set]) ?_
 refine w_op (a := .raw (.bool (decide ((List.length l : Int) > 4096)))) rfl rfl rfl rfl (by dsimp only [aput, List.set]) ?_
 refine bif_e h (fun hc1 h => ?_) (fun hc1 h => ?_)
 ·
  refine w_condT hc1 rfl ?_
  refine w_seq (w_region ?_)
  refine w_op (a := .raw (.int .i64 (-1))) rfl rfl rfl rfl (by dsimp only [aput, List.set]) ?_
  refine w_op (a := .raw (.int .i64 5)) rfl rfl rfl rfl (by dsimp only [aput, List.set]) ?_
  exact end_pureF (fun (r : (Int × Int)) => (.tup [.raw (.int .i64 r.1), .raw (.int .i64 r.2)] : AV)) h (a := .tup [.raw (.int .i64 (-1)), .raw (.int .i64 5)]) rfl (show okTrimL _ _ = true from (okTrimL_cons rfl (okTrimL_cons rfl rfl))) (show AV.tup (stripL _) = _ from congrArg AV.tup (stripL_cons rfl (stripL_cons rfl rfl)))
 ·
  refine w_condF hc1 rfl ?_
  refine w_seq (w_region ?_)
  refine w_op (a := .raw (.bool false)) rfl rfl rfl rfl (by dsimp only [aput, List.set]) ?_
  refine w_cutF h [0, 1, 2, 3, 4, 5, 6, 7, 8, 9, 10, 11, 12, 13, 14, 15, 16, 17, 18, 19, 20, 21, 22, 23, 24, 25, 26, 27, 28] (fun j1 => []) (fun j1 => ⟨[], [], [], 0, false⟩) ?_ ?_
  ·
   intro or1 h hr1
   refine w_seq (w_region ?_)
   refine w_mv ?_
   refine w_op (a := .raw (.int .i64 (List.length l : Int))) rfl rfl rfl rfl (by dsimp only [aput, List.set]) ?_
   refine w_op (a := .raw (.int .i64 0)) rfl rfl rfl rfl (by dsimp only [aput, List.set]) ?_
   refine w_block ?_
   refine w_loopF h [0, 1, 2, 3, 4, 5, 6, 7, 8, 9, 12, 13, 14, 15, 16, 17, 18, 19, 20, 21, 22, 23, 24, 25, 26, 27, 28] (fun s1 => [(4, .raw (.bool s1.1)), (12, .raw (.int .i64 s1.2))]) (fun s1 => ⟨[], [], [], 0, false⟩) ?_ ?_
   ·
    exact wm_of [false, false, false, false, true, false, false, false, false, false, true, true, true, false, false, false, false, false, false, false, false, false, false, false, false, false, false, false, false] (by kernel_rfl) (by kernel_rfl)
   ·
    intro s1 p1 h
    refine w_start (by dsimp only [setAll, topAll, List.foldl, List.set]) rfl ?_
    refine w_seq (w_region ?_)
    refine w_op (a := .raw (.bool (decide (s1.2 < (List.length l : Int))))) rfl rfl rfl rfl (by dsimp only [aput, List.set]) ?_
    refine w_seq ?_
    refine bif_e h (fun hc2 h => ?_) (fun hc2 h => ?_)
    ·
     refine w_condT hc2 rfl ?_
     refine w_cutF h [2, 3, 4, 5, 6, 13, 14, 15, 16, 17, 18, 19, 20, 21, 22, 23, 24, 25, 26, 27] (fun j2 => [(4, .raw (.bool j2))]) (fun j2 => ⟨[], [], [], 0, false⟩) ?_ ?_
     ·
      intro or2 h hr2
      refine w_block ?_
      refine w_seq (w_region ?_)
      refine w_mv ?_
      obtain ⟨g1, h⟩ := chk_e h
      obtain ⟨x1, hx1, h⟩ := letE_e h
      refine w_op (a := .iptr (Enc.cells x1 ++ Enc.cellsL (List.drop (Int.toNat s1.2 + 1) l))) rfl rfl rfl (op_q (by rw [← hx1]; exact (q_idx (α := Ev) (l := l) g1 rfl rfl rfl rfl rfl))) (by dsimp only [aput, List.set]) ?_
      refine w_op (a := .agg (Enc.cells (x1 : Ev))) rfl rfl rfl rfl (by dsimp only [aput, List.set]) ?_
      refine w_opm (a := .ptr 0 0) (σ'' := ⟨[(32, (Enc.cells ((Ev.mk 0 0) : Ev)))], [], [], 0, false⟩) rfl rfl rfl rfl (by dsimp only [aput, List.set]) rfl ?_
      refine w_mv ?_
      refine w_opm (σ'' := ⟨[(32, (Enc.cells (x1 : Ev)))], [], [], 0, false⟩) rfl rfl rfl (op_storeW (n := 2) rfl rfl rfl rfl rfl rfl rfl rfl (by decide)) (by dsimp only [aput, List.set]) rfl ?_
      refine w_seq ?_
      refine w_seq (w_region ?_)
      refine w_op (a := .agg (Enc.cells (x1 : Ev))) rfl rfl rfl rfl (by dsimp only [aput, List.set]) ?_
      refine w_mv ?_
      obtain ⟨x2, hx2, h⟩ := bindE_e h
      refine w_callc (args' := [.agg (Enc.cells (x1 : Ev)), .raw (.bool s1.1)]) (r := .raw (.bool x2)) (right_sh x1 s1.1 x2 hx2) rfl rfl (stripL_cons (strip_c (clo_agg (Enc.clo _))) (stripL_cons rfl rfl)) (okTrimL_cons (okTrim_clo _ _ (clo_agg (Enc.clo _))) (okTrimL_cons rfl rfl)) (by dsimp only [aput, List.set]) ?_
      refine w_op (a := .raw (.bool (!x2))) rfl rfl rfl rfl (by dsimp only [aput, List.set]) ?_
      refine bif_e h (fun hc3 h => ?_) (fun hc3 h => ?_)
      ·
       refine w_condT hc3 rfl ?_
       refine w_seq (w_region ?_)
       refine w_mv ?_
       refine w_mv ?_
       refine w_op (a := .raw (.int .i64 320)) rfl rfl rfl rfl (by dsimp only [aput, List.set]) ?_
       replace h := cut_inr h hr2
       refine loop_exit h (fun h => ?_)
       replace h := cut_inr h hr1
       exact end_pureF (fun (r : (Int × Int)) => (.tup [.raw (.int .i64 r.1), .raw (.int .i64 r.2)] : AV)) h (a := .tup [.raw (.int .i64 s1.2), .raw (.int .i64 320)]) rfl (show okTrimL _ _ = true from (okTrimL_cons rfl (okTrimL_cons rfl rfl))) (show AV.tup (stripL _) = _ from congrArg AV.tup (stripL_cons rfl (stripL_cons rfl rfl)))
      ·
       refine w_condF hc3 rfl ?_
       refine w_region (k0 := 0) (id := 9) ?_
       refine w_mv ?_
       refine bif_e h (fun hc4 h => ?_) (fun hc4 h => ?_)
       ·
        refine w_op (a := .raw (.bool true)) rfl rfl rfl (op_q (q_bool rfl hc4)) (by dsimp only [aput, List.set]) ?_
        refine w_pass rfl rfl (by decide) (by dsimp only [aput, List.set]) ?_
        refine w_pass rfl rfl (by decide) (by dsimp only [aput, List.set]) ?_
        refine w_pass rfl rfl (by decide) (by dsimp only [aput, List.set]) ?_
        refine w_op (a := .raw (.bool true)) rfl rfl rfl rfl (by dsimp only [aput, List.set]) ?_
        refine w_mv ?_
        refine cut_done (o := or2) (true) h ?_
        exact wm_trim [true, true, false, false, true, false, false, true, true, true, true, true, true, false, false, false, false, false, false, false, false, false, false, false, false, false, false, false, true] 0 (by kernel_rfl) (Nat.le_of_ble_eq_true rfl) (okSt_of rfl) (by dsimp only [setAll, topAll, List.foldl, List.set]; exact (okTrimL_cons rfl (okTrimL_cons rfl (okTrimL_cons rfl (okTrimL_cons rfl (okTrimL_cons rfl (okTrimL_cons rfl (okTrimL_cons rfl (okTrimL_cons rfl (okTrimL_cons rfl (okTrimL_cons rfl (okTrimL_cons (okTrim_l (Enc.cloL _)) (okTrimL_cons rfl (okTrimL_cons rfl (okTrimL_cons rfl (okTrimL_cons rfl (okTrimL_cons rfl (okTrimL_cons rfl (okTrimL_cons rfl (okTrimL_cons rfl (okTrimL_cons rfl (okTrimL_cons rfl (okTrimL_cons rfl (okTrimL_cons rfl (okTrimL_cons rfl (okTrimL_cons rfl (okTrimL_cons rfl (okTrimL_cons rfl (okTrimL_cons rfl (okTrimL_cons rfl rfl)))))))))))))))))))))))))))))) (by kernel_rfl)
       ·
        refine w_op (a := .raw (.bool false)) rfl rfl rfl (op_q (q_bool rfl hc4)) (by dsimp only [aput, List.set]) ?_
        refine w_met rfl rfl ?_
        refine w_op (a := .ptr 0 0) rfl rfl rfl rfl (by dsimp only [aput, List.set]) ?_
        refine w_met rfl rfl ?_
        refine w_op (a := .raw (.int .u8 x1.k)) rfl rfl rfl rfl (by dsimp only [aput, List.set]) ?_
        refine w_met rfl rfl ?_
        refine w_op (a := .raw (.bool (x1.k == 3))) rfl rfl rfl rfl (by dsimp only [aput, List.set]) ?_
        refine w_op (a := .raw (.bool (x1.k == 3))) rfl rfl rfl rfl (by dsimp only [aput, List.set]) ?_
        refine w_mv ?_
        refine cut_done (o := or2) ((x1.k == 3)) h ?_
        exact wm_trim [true, true, false, false, true, false, false, true, true, true, true, true, true, false, false, false, false, false, false, false, false, false, false, false, false, false, false, false, true] 0 (by kernel_rfl) (Nat.le_of_ble_eq_true rfl) (okSt_of rfl) (by dsimp only [setAll, topAll, List.foldl, List.set]; exact (okTrimL_cons rfl (okTrimL_cons rfl (okTrimL_cons rfl (okTrimL_cons rfl (okTrimL_cons rfl (okTrimL_cons rfl (okTrimL_cons rfl (okTrimL_cons rfl (okTrimL_cons rfl (okTrimL_cons rfl (okTrimL_cons (okTrim_l (Enc.cloL _)) (okTrimL_cons rfl (okTrimL_cons rfl (okTrimL_cons rfl (okTrimL_cons rfl (okTrimL_cons rfl (okTrimL_cons rfl (okTrimL_cons rfl (okTrimL_cons rfl (okTrimL_cons rfl (okTrimL_cons rfl (okTrimL_cons rfl (okTrimL_cons rfl (okTrimL_cons rfl (okTrimL_cons rfl (okTrimL_cons rfl (okTrimL_cons rfl (okTrimL_cons rfl (okTrimL_cons rfl rfl)))))))))))))))))))))))))))))) (by kernel_rfl)
     ·
      intro j2 h
      refine w_start (by dsimp only [setAll, topAll, List.foldl, List.set]) rfl ?_
      refine w_region (k0 := 0) (id := 10) ?_
      obtain ⟨g2, h⟩ := chk_e h
      refine w_op (a := .raw (.int .i64 (s1.2 + 1))) rfl rfl rfl (op_q (q_add rfl rfl rfl rfl g2.1 g2.2)) (by dsimp only [aput, List.set]) ?_
      refine w_mv ?_
      refine loop_next (p := p1) (j2, (s1.2 + 1)) h ?_
      exact wm_of [false, false, false, false, true, false, false, false, false, false, true, true, true, false, false, false, false, false, false, false, false, false, false, false, false, false, false, false, false] (by kernel_rfl) (by kernel_rfl)
    ·
     refine w_condF hc2 rfl ?_
     refine loop_exit h (fun h => ?_)
     refine cut_done (o := or1) () h ?_
     exact wm_of [false, false, false, false, false, false, false, false, false, false, false, false, false, false, false, false, false, false, false, false, false, false, false, false, false, false, false, false, false] (by kernel_rfl) (by kernel_rfl)
  ·
   intro j1 h
   refine w_start (by dsimp only [setAll, topAll, List.foldl, List.set]) rfl ?_
   refine w_seq (w_region ?_)
   refine w_op (a := .raw (.int .i64 (-1))) rfl rfl rfl rfl (by dsimp only [aput, List.set]) ?_
   refine w_op (a := .raw (.int .i64 0)) rfl rfl rfl rfl (by dsimp only [aput, List.set]) ?_
   exact end_pureF (fun (r : (Int × Int)) => (.tup [.raw (.int .i64 r.1), .raw (.int .i64 r.2)] : AV)) h (a := .tup [.raw (.int .i64 (-1)), .raw (.int .i64 0)]) rfl (show okTrimL _ _ = true from (okTrimL_cons rfl (okTrimL_cons rfl rfl))) (show AV.tup (stripL _) = _ from congrArg AV.tup (stripL_cons rfl (stripL_cons rfl rfl)))
def F_eqevs (fuel : Nat) (a : (List Ev)) (b : (List Ev)) : Option Bool :=
  (bif ((List.length a : Int) != (List.length b : Int)) then (some false) else (cutE (τ := Unit) (loopE (β := Int) (fun s1 => (bif (decide (s1 < (List.length a : Int))) then (chk (0 ≤ s1 ∧ s1 < (List.length a : Int)) (letE (ix a s1) (fun x1 => (chk (0 ≤ s1 ∧ s1 < (List.length b : Int)) (letE (ix b s1) (fun x2 => (bif (decide (x1 ≠ x2)) then (some (Sum.inr (Sum.inr false))) else (chk (-9223372036854775808 ≤ (s1 + 1) ∧ (s1 + 1) < 9223372036854775808) (some (Sum.inl ((s1 + 1)))))))))))) else (some (Sum.inr (Sum.inl ()))))) fuel (0)) (fun j1 => (some true))))
theorem ent10 : Ent Tryd.prog 10 := enters_of Tryd.func10 (by kernel_rfl) rfl
set_option maxRecDepth 100000 in
set_option maxHeartbeats 4000000 in
theorem eqevs_sh (fuel : Nat) (a : (List Ev)) (b : (List Ev)) (r : Bool) (h : F_eqevs fuel a b = some r) : Pure (ITP Tryd.prog) Tryd.prog 10 [.list (List.length (a : List Ev)) (Enc.cellsL (a : List Ev)) .none, .list (List.length (b : List Ev)) (Enc.cellsL (b : List Ev)) .none] (.raw (.bool r)) := by
 obtain ⟨d, hd⟩ : ∃ d, Tryd.f10.body = some d := ⟨_, rfl⟩
 refine pure_of mix Tryd.func10 hd ent10 ?_
 cases hd
 unfold F_eqevs at h
 refine w_start (by dsimp only [abeginS, Tryd.f10, List.length_cons, List.length_nil, Nat.zero_add, Nat.reduceAdd, Nat.reduceSub, List.replicate, List.cons_append, List.nil_append]) (by dsimp only [St.empty]) ?_
 refine w_seq (w_region ?_)
 refine w_op (a := .raw (.bool false)) rfl rfl rfl rfl (by dsimp only [aput, List.set]) ?_
 refine w_seq ?_
 refine w_seq (w_region ?_)
 refine w_mv ?_
 refine w_op (a := .raw (.int .i64 (List.length a : Int))) rfl rfl rfl rfl (by dsimp only [aput, List.set]) ?_
 refine w_mv ?_
 refine w_op (a := .raw (.int .i64 (List.length b : Int))) rfl rfl rfl rfl (by dsimp only [aput, List.set]) ?_
 refine w_op (a := .raw (.bool ((List.length a : Int) != (List.length b : Int)))) rfl rfl rfl rfl (by dsimp only [aput, List.set]) ?_
 refine bif_e h (fun hc1 h => ?_) (fun hc1 h => ?_)
 ·
  refine w_condT hc1 rfl ?_
  refine w_seq (w_region ?_)
  refine w_op (a := .raw (.bool false)) rfl rfl rfl rfl (by dsimp only [aput, List.set]) ?_
  exact end_b h
 ·
  refine w_condF hc1 rfl ?_
  refine w_cutF h [0, 1, 2, 3, 4, 5, 6, 7, 8, 9, 10, 11, 12, 13, 14, 15, 16, 17, 18, 19, 20, 21, 22, 23, 24, 25] (fun j1 => []) (fun j1 => ⟨[], [], [], 0, false⟩) ?_ ?_
  ·
   intro or1 h hr1
   refine w_seq (w_region ?_)
   refine w_mv ?_
   refine w_op (a := .raw (.int .i64 (List.length a : Int))) rfl rfl rfl rfl (by dsimp only [aput, List.set]) ?_
   refine w_op (a := .raw (.int .i64 0)) rfl rfl rfl rfl (by dsimp only [aput, List.set]) ?_
   refine w_block ?_
   refine w_loopF h [2, 3, 4, 5, 6, 7, 8, 9, 10, 11, 13, 14, 15, 16, 17, 18, 19, 20, 21, 22, 23, 24, 25] (fun s1 => [(13, .raw (.int .i64 s1))]) (fun s1 => ⟨[], [], [], 0, false⟩) ?_ ?_
   ·
    exact wm_of [true, true, false, false, false, false, false, false, false, false, false, false, true, true, false, false, false, false, false, false, false, false, false, false, false, false] (by kernel_rfl) (by kernel_rfl)
   ·
    intro s1 p1 h
    refine w_start (by dsimp only [setAll, topAll, List.foldl, List.set]) rfl ?_
    refine w_seq (w_region ?_)
    refine w_op (a := .raw (.bool (decide (s1 < (List.length a : Int))))) rfl rfl rfl rfl (by dsimp only [aput, List.set]) ?_
    refine w_seq ?_
    refine bif_e h (fun hc2 h => ?_) (fun hc2 h => ?_)
    ·
     refine w_condT hc2 rfl ?_
     refine w_seq ?_
     refine w_block ?_
     refine w_seq (w_region ?_)
     refine w_mv ?_
     refine w_mv ?_
     refine w_seq ?_
     refine w_draw (k0 := 0) (id := 6) 8 (by kernel_rfl) (by kernel_rfl) ?_
     refine h_mv ?_
     refine h_mv ?_
     obtain ⟨g1, h⟩ := chk_e h
     obtain ⟨x1, hx1, h⟩ := letE_e h
     refine h_op (a := .iptr (Enc.cells x1 ++ Enc.cellsL (List.drop (Int.toNat s1 + 1) a))) rfl rfl rfl (by rw [← hx1]; exact (q_idx (α := Ev) (l := a) g1 rfl rfl rfl rfl rfl)) (by dsimp only [aput, List.set]) ?_
     refine h_op (a := .agg (Enc.cells (x1 : Ev))) rfl rfl rfl rfl (by dsimp only [aput, List.set]) ?_
     refine h_mv ?_
     refine h_mv ?_
     obtain ⟨g2, h⟩ := chk_e h
     obtain ⟨x2, hx2, h⟩ := letE_e h
     refine h_op (a := .iptr (Enc.cells x2 ++ Enc.cellsL (List.drop (Int.toNat s1 + 1) b))) rfl rfl rfl (by rw [← hx2]; exact (q_idx (α := Ev) (l := b) g2 rfl rfl rfl rfl rfl)) (by dsimp only [aput, List.set]) ?_
     refine h_op (a := .agg (Enc.cells (x2 : Ev))) rfl rfl rfl rfl (by dsimp only [aput, List.set]) ?_
     refine h_end ?_
     refine w_run (.raw (.bool (decide (x1 ≠ x2)))) rfl rfl rfl (rs_neqEv x1 x2 rfl rfl rfl) (by dsimp only [aput, List.set]) ?_
     refine bif_e h (fun hc3 h => ?_) (fun hc3 h => ?_)
     ·
      refine w_condT hc3 rfl ?_
      refine w_seq (w_region ?_)
      refine w_op (a := .raw (.bool false)) rfl rfl rfl rfl (by dsimp only [aput, List.set]) ?_
      refine loop_exit h (fun h => ?_)
      replace h := cut_inr h hr1
      exact end_b h
     ·
      refine w_condF hc3 rfl ?_
      refine w_region (k0 := 0) (id := 8) ?_
      obtain ⟨g3, h⟩ := chk_e h
      refine w_op (a := .raw (.int .i64 (s1 + 1))) rfl rfl rfl (op_q (q_add rfl rfl rfl rfl g3.1 g3.2)) (by dsimp only [aput, List.set]) ?_
      refine w_mv ?_
      refine loop_next (p := p1) ((s1 + 1)) h ?_
      exact wm_of [true, true, false, false, false, false, false, false, false, false, false, false, true, true, false, false, false, false, false, false, false, false, false, false, false, false] (by kernel_rfl) (by kernel_rfl)
    ·
     refine w_condF hc2 rfl ?_
     refine loop_exit h (fun h => ?_)
     refine cut_done (o := or1) () h ?_
     exact wm_of [false, false, false, false, false, false, false, false, false, false, false, false, false, false, false, false, false, false, false, false, false, false, false, false, false, false] (by kernel_rfl) (by kernel_rfl)
  ·
   intro j1 h
   refine w_start (by dsimp only [setAll, topAll, List.foldl, List.set]) rfl ?_
   refine w_seq (w_region ?_)
   refine w_op (a := .raw (.bool true)) rfl rfl rfl rfl (by dsimp only [aput, List.set]) ?_
   exact end_b h
def F_bytes (fuel : Nat) (l : (List Ev)) : Option (List UInt8) :=
  (cutE (τ := (List UInt8)) (loopE (β := (List UInt8) × Int) (fun s1 => (bif (decide (s1.2 < (List.length l : Int))) then (cutE (τ := (List UInt8)) (chk (0 ≤ s1.2 ∧ s1.2 < (List.length l : Int)) (letE (ix l s1.2) (fun x1 => (bif (x1.k == 1) then (chk (0 ≤ x1.b ∧ x1.b < 256) (chk ((List.length s1.1 + List.length ([(u8of x1.b)] : List UInt8)) * 1 ≤ 140737488355328) (some (Sum.inl ((s1.1 ++ ([(u8of x1.b)] : List UInt8))))))) else (some (Sum.inl (s1.1))))))) (fun j2 => (chk (-9223372036854775808 ≤ (s1.2 + 1) ∧ (s1.2 + 1) < 9223372036854775808) (some (Sum.inl (j2, (s1.2 + 1))))))) else (some (Sum.inr (Sum.inl (s1.1)))))) fuel (([] : (List UInt8)), 0)) (fun j1 => (some j1)))
theorem ent20 : Ent Tryd.prog 20 := enters_of Tryd.func20 (by kernel_rfl) rfl
set_option maxRecDepth 100000 in
set_option maxHeartbeats 4000000 in
theorem bytes_sh (fuel : Nat) (l : (List Ev)) (r : (List UInt8)) (h : F_bytes fuel l = some r) : Pure (ITP Tryd.prog) Tryd.prog 20 [.list (List.length (l : List Ev)) (Enc.cellsL (l : List Ev)) .none] (.list (List.length (r : List UInt8)) (Enc.cellsL (r : List UInt8)) .none) := by
 obtain ⟨d, hd⟩ : ∃ d, Tryd.f20.body = some d := ⟨_, rfl⟩
 refine pure_of mix Tryd.func20 hd ent20 ?_
 cases hd
 unfold F_bytes at h
 refine w_start (by dsimp only [abeginS, Tryd.f20, List.length_cons, List.length_nil, Nat.zero_add, Nat.reduceAdd, Nat.reduceSub, List.replicate, List.cons_append, List.nil_append]) (by dsimp only [St.empty]) ?_
 refine w_seq (w_region ?_)
 refine w_op (a := .list 0 [] .full) rfl rfl rfl rfl (by dsimp only [aput, List.set]) ?_
 refine w_seq (w_region ?_)
 refine w_op (a := .list 0 [] .full) rfl rfl rfl rfl (by dsimp only [aput, List.set]) ?_
 refine w_cutF h [0, 1, 2, 3, 4, 5, 6, 7, 8, 9, 10, 11, 12, 13, 14, 15, 16, 17, 18, 19, 20, 21] (fun j1 => [(3, (ownAV (List.length (j1 : List UInt8)) (Enc.cellsL (j1 : List UInt8))))]) (fun j1 => (ownSt [] 5 (List.length (j1 : List UInt8)) 1)) ?_ ?_
 ·
  intro or1 h hr1
  refine w_seq (w_region ?_)
  refine w_mv ?_
  refine w_op (a := .raw (.int .i64 (List.length l : Int))) rfl rfl rfl rfl (by dsimp only [aput, List.set]) ?_
  refine w_op (a := .raw (.int .i64 0)) rfl rfl rfl rfl (by dsimp only [aput, List.set]) ?_
  refine w_block ?_
  refine w_loopF h [0, 1, 2, 3, 4, 5, 8, 9, 10, 11, 12, 13, 14, 15, 16, 17, 18, 19, 20, 21] (fun s1 => [(3, (ownAV (List.length (s1.1 : List UInt8)) (Enc.cellsL (s1.1 : List UInt8)))), (8, .raw (.int .i64 s1.2))]) (fun s1 => (ownSt [] 5 (List.length (s1.1 : List UInt8)) 1)) ?_ ?_
  ·
   exact wm_of [false, false, false, true, false, false, true, true, true, false, false, false, false, false, false, false, false, false, false, false, false, false] (by kernel_rfl) (by kernel_rfl)
  ·
   intro s1 p1 h
   refine w_start (by dsimp only [setAll, topAll, List.foldl, List.set]) rfl ?_
   refine w_seq (w_region ?_)
   refine w_op (a := .raw (.bool (decide (s1.2 < (List.length l : Int))))) rfl rfl rfl rfl (by dsimp only [aput, List.set]) ?_
   refine w_seq ?_
   refine bif_e h (fun hc1 h => ?_) (fun hc1 h => ?_)
   ·
    refine w_condT hc1 rfl ?_
    refine w_cutF h [3, 5, 9, 10, 11, 12, 13, 14, 15, 16, 17, 18, 19] (fun j2 => [(3, (ownAV (List.length (j2 : List UInt8)) (Enc.cellsL (j2 : List UInt8))))]) (fun j2 => (ownSt [] 5 (List.length (j2 : List UInt8)) 1)) ?_ ?_
    ·
     intro or2 h hr2
     refine w_block ?_
     refine w_seq (w_region ?_)
     obtain ⟨g1, h⟩ := chk_e h
     obtain ⟨x1, hx1, h⟩ := letE_e h
     refine w_op (a := .iptr (Enc.cells x1 ++ Enc.cellsL (List.drop (Int.toNat s1.2 + 1) l))) rfl rfl rfl (op_q (by rw [← hx1]; exact (q_idx (α := Ev) (l := l) g1 rfl rfl rfl rfl rfl))) (by dsimp only [aput, List.set]) ?_
     refine w_op (a := .agg (Enc.cells (x1 : Ev))) rfl rfl rfl rfl (by dsimp only [aput, List.set]) ?_
     refine w_opm (a := .ptr 0 0) (σ'' := (ownSt [(32, (Enc.cells ((Ev.mk 0 0) : Ev)))] 5 (List.length (s1.1 : List UInt8)) 1)) rfl rfl rfl rfl (by dsimp only [aput, List.set]) rfl ?_
     refine w_opm (σ'' := (ownSt [(32, (Enc.cells (x1 : Ev)))] 5 (List.length (s1.1 : List UInt8)) 1)) rfl rfl rfl (op_storeW (n := 2) rfl rfl rfl rfl rfl rfl rfl rfl (by decide)) (by dsimp only [aput, List.set]) rfl ?_
     refine w_seq (w_region ?_)
     refine w_op (a := .ptr 0 0) rfl rfl rfl rfl (by dsimp only [aput, List.set]) ?_
     refine w_op (a := .raw (.int .u8 x1.k)) rfl rfl rfl rfl (by dsimp only [aput, List.set]) ?_
     refine w_op (a := .raw (.bool (x1.k == 1))) rfl rfl rfl rfl (by dsimp only [aput, List.set]) ?_
     refine bif_e h (fun hc2 h => ?_) (fun hc2 h => ?_)
     ·
      refine w_condT hc2 rfl ?_
      refine w_region (k0 := 0) (id := 6) ?_
      refine w_mv ?_
      refine w_op (a := .ptr 0 1) rfl rfl rfl rfl (by dsimp only [aput, List.set]) ?_
      refine w_op (a := .raw (.int .u8 x1.b)) rfl rfl rfl rfl (by dsimp only [aput, List.set]) ?_
      obtain ⟨g2, h⟩ := chk_e h
      refine w_op (a := .list (List.length (([(u8of x1.b)] : List UInt8) : List UInt8)) (Enc.cellsL (([(u8of x1.b)] : List UInt8) : List UInt8)) .full) rfl rfl rfl (op_q (q_lit (α := UInt8) (l := ([(u8of x1.b)] : List UInt8)) (cs := [.raw (.int .u8 x1.b)]) rfl (by show List.map _ _ = _; simp only [List.map_cons, List.map_nil, u8c g2]))) (by dsimp only [aput, List.set]) ?_
      obtain ⟨g3, h⟩ := chk_e h
      refine w_opm (a := (ownAV (List.length ((s1.1 ++ ([(u8of x1.b)] : List UInt8)) : List UInt8)) (Enc.cellsL ((s1.1 ++ ([(u8of x1.b)] : List UInt8)) : List UInt8)))) (σ'' := (ownSt [(32, (Enc.cells (x1 : Ev)))] 5 (List.length ((s1.1 ++ ([(u8of x1.b)] : List UInt8)) : List UInt8)) 1)) rfl rfl rfl (op_append rfl rfl rfl rfl (append_ownE (α := UInt8) (bs := [(32, (Enc.cells (x1 : Ev)))]) (a := s1.1) (b := ([(u8of x1.b)] : List UInt8)) g3 rfl rfl rfl rfl rfl ⟨rfl, by decide⟩)) (by dsimp only [aput, List.set]) rfl ?_
      refine w_mv ?_
      refine cut_done (o := or2) ((s1.1 ++ ([(u8of x1.b)] : List UInt8))) h ?_
      exact wm_trim [true, true, true, true, true, false, true, true, true, false, false, false, false, false, false, false, false, false, false, false, true, true] 0 (by kernel_rfl) (Nat.le_of_ble_eq_true rfl) (okSt_of rfl) (by dsimp only [setAll, topAll, List.foldl, List.set]; exact (okTrimL_cons rfl (okTrimL_cons rfl (okTrimL_cons rfl (okTrimL_cons (okTrim_own (Enc.cloL _)) (okTrimL_cons rfl (okTrimL_cons rfl (okTrimL_cons (okTrim_l (Enc.cloL _)) (okTrimL_cons rfl (okTrimL_cons rfl (okTrimL_cons rfl (okTrimL_cons rfl (okTrimL_cons rfl (okTrimL_cons rfl (okTrimL_cons rfl (okTrimL_cons rfl (okTrimL_cons rfl (okTrimL_cons rfl (okTrimL_cons rfl (okTrimL_cons rfl (okTrimL_cons rfl (okTrimL_cons rfl (okTrimL_cons rfl rfl))))))))))))))))))))))) (by kernel_rfl)
     ·
      refine w_condF hc2 rfl ?_
      refine cut_done (o := or2) (s1.1) h ?_
      exact wm_trim [true, true, true, true, true, false, true, true, true, false, false, false, false, false, false, false, false, false, false, false, true, true] 0 (by kernel_rfl) (Nat.le_of_ble_eq_true rfl) (okSt_of rfl) (by dsimp only [setAll, topAll, List.foldl, List.set]; exact (okTrimL_cons rfl (okTrimL_cons rfl (okTrimL_cons rfl (okTrimL_cons (okTrim_own (Enc.cloL _)) (okTrimL_cons rfl (okTrimL_cons rfl (okTrimL_cons (okTrim_l (Enc.cloL _)) (okTrimL_cons rfl (okTrimL_cons rfl (okTrimL_cons rfl (okTrimL_cons rfl (okTrimL_cons rfl (okTrimL_cons rfl (okTrimL_cons rfl (okTrimL_cons rfl (okTrimL_cons rfl (okTrimL_cons rfl (okTrimL_cons rfl (okTrimL_cons rfl (okTrimL_cons rfl (okTrimL_cons rfl (okTrimL_cons rfl rfl))))))))))))))))))))))) (by kernel_rfl)
    ·
     intro j2 h
     refine w_start (by dsimp only [setAll, topAll, List.foldl, List.set]) rfl ?_
     refine w_region (k0 := 0) (id := 7) ?_
     obtain ⟨g4, h⟩ := chk_e h
     refine w_op (a := .raw (.int .i64 (s1.2 + 1))) rfl rfl rfl (op_q (q_add rfl rfl rfl rfl g4.1 g4.2)) (by dsimp only [aput, List.set]) ?_
     refine w_mv ?_
     refine loop_next (p := p1) (j2, (s1.2 + 1)) h ?_
     exact wm_of [false, false, false, true, false, false, true, true, true, false, false, false, false, false, false, false, false, false, false, false, false, false] (by kernel_rfl) (by kernel_rfl)
   ·
    refine w_condF hc1 rfl ?_
    refine loop_exit h (fun h => ?_)
    refine cut_done (o := or1) (s1.1) h ?_
    exact wm_of [false, false, false, true, false, false, false, false, false, false, false, false, false, false, false, false, false, false, false, false, false, false] (by kernel_rfl) (by kernel_rfl)
 ·
  intro j1 h
  refine w_start (by dsimp only [setAll, topAll, List.foldl, List.set]) rfl ?_
  refine w_seq (w_region ?_)
  refine w_mv ?_
  refine w_mv ?_
  exact end_pureF (fun (r : (List UInt8)) => (.list (List.length (r : List UInt8)) (Enc.cellsL (r : List UInt8)) .none : AV)) h (a := (ownAV (List.length (j1 : List UInt8)) (Enc.cellsL (j1 : List UInt8)))) rfl (okTrim_own (Enc.cloL _)) (strip_o (Enc.cloL _) Enc.z)
def F_ticks (fuel : Nat) (l : (List Ev)) : Option Int :=
  (cutE (τ := Int) (loopE (β := Int × Int) (fun s1 => (bif (decide (s1.2 < (List.length l : Int))) then (cutE (τ := Int) (chk (0 ≤ s1.2 ∧ s1.2 < (List.length l : Int)) (letE (ix l s1.2) (fun x1 => (bif (x1.k == 2) then (chk (-9223372036854775808 ≤ (s1.1 + 1) ∧ (s1.1 + 1) < 9223372036854775808) (some (Sum.inl ((s1.1 + 1))))) else (some (Sum.inl (s1.1))))))) (fun j2 => (chk (-9223372036854775808 ≤ (s1.2 + 1) ∧ (s1.2 + 1) < 9223372036854775808) (some (Sum.inl (j2, (s1.2 + 1))))))) else (some (Sum.inr (Sum.inl (s1.1)))))) fuel (0, 0)) (fun j1 => (some j1)))
theorem ent22 : Ent Tryd.prog 22 := enters_of Tryd.func22 (by kernel_rfl) rfl
set_option maxRecDepth 100000 in
set_option maxHeartbeats 4000000 in
theorem ticks_sh (fuel : Nat) (l : (List Ev)) (r : Int) (h : F_ticks fuel l = some r) : Pure (ITP Tryd.prog) Tryd.prog 22 [.list (List.length (l : List Ev)) (Enc.cellsL (l : List Ev)) .none] (.raw (.int .i64 r)) := by
 obtain ⟨d, hd⟩ : ∃ d, Tryd.f22.body = some d := ⟨_, rfl⟩
 refine pure_of mix Tryd.func22 hd ent22 ?_
 cases hd
 unfold F_ticks at h
 refine w_start (by dsimp only [abeginS, Tryd.f22, List.length_cons, List.length_nil, Nat.zero_add, Nat.reduceAdd, Nat.reduceSub, List.replicate, List.cons_append, List.nil_append]) (by dsimp only [St.empty]) ?_
 refine w_seq (w_region ?_)
 refine w_op (a := .raw (.int .i64 0)) rfl rfl rfl rfl (by dsimp only [aput, List.set]) ?_
 refine w_seq (w_region ?_)
 refine w_op (a := .raw (.int .i64 0)) rfl rfl rfl rfl (by dsimp only [aput, List.set]) ?_
 refine w_cutF h [0, 1, 2, 3, 4, 5, 6, 7, 8, 9, 10, 11, 12, 13, 14, 15, 16, 17, 18] (fun j1 => [(3, .raw (.int .i64 j1))]) (fun j1 => ⟨[], [], [], 0, false⟩) ?_ ?_
 ·
  intro or1 h hr1
  refine w_seq (w_region ?_)
  refine w_mv ?_
  refine w_op (a := .raw (.int .i64 (List.length l : Int))) rfl rfl rfl rfl (by dsimp only [aput, List.set]) ?_
  refine w_op (a := .raw (.int .i64 0)) rfl rfl rfl rfl (by dsimp only [aput, List.set]) ?_
  refine w_block ?_
  refine w_loopF h [0, 1, 2, 3, 4, 5, 8, 9, 10, 11, 12, 13, 14, 15, 16, 17, 18] (fun s1 => [(3, .raw (.int .i64 s1.1)), (8, .raw (.int .i64 s1.2))]) (fun s1 => ⟨[], [], [], 0, false⟩) ?_ ?_
  ·
   exact wm_of [false, false, false, true, false, false, true, true, true, false, false, false, false, false, false, false, false, false, false] (by kernel_rfl) (by kernel_rfl)
  ·
   intro s1 p1 h
   refine w_start (by dsimp only [setAll, topAll, List.foldl, List.set]) rfl ?_
   refine w_seq (w_region ?_)
   refine w_op (a := .raw (.bool (decide (s1.2 < (List.length l : Int))))) rfl rfl rfl rfl (by dsimp only [aput, List.set]) ?_
   refine w_seq ?_
   refine bif_e h (fun hc1 h => ?_) (fun hc1 h => ?_)
   ·
    refine w_condT hc1 rfl ?_
    refine w_cutF h [3, 5, 9, 10, 11, 12, 13, 14, 15, 16] (fun j2 => [(3, .raw (.int .i64 j2))]) (fun j2 => ⟨[], [], [], 0, false⟩) ?_ ?_
    ·
     intro or2 h hr2
     refine w_block ?_
     refine w_seq (w_region ?_)
     obtain ⟨g1, h⟩ := chk_e h
     obtain ⟨x1, hx1, h⟩ := letE_e h
     refine w_op (a := .iptr (Enc.cells x1 ++ Enc.cellsL (List.drop (Int.toNat s1.2 + 1) l))) rfl rfl rfl (op_q (by rw [← hx1]; exact (q_idx (α := Ev) (l := l) g1 rfl rfl rfl rfl rfl))) (by dsimp only [aput, List.set]) ?_
     refine w_op (a := .agg (Enc.cells (x1 : Ev))) rfl rfl rfl rfl (by dsimp only [aput, List.set]) ?_
     refine w_opm (a := .ptr 0 0) (σ'' := ⟨[(32, (Enc.cells ((Ev.mk 0 0) : Ev)))], [], [], 0, false⟩) rfl rfl rfl rfl (by dsimp only [aput, List.set]) rfl ?_
     refine w_opm (σ'' := ⟨[(32, (Enc.cells (x1 : Ev)))], [], [], 0, false⟩) rfl rfl rfl (op_storeW (n := 2) rfl rfl rfl rfl rfl rfl rfl rfl (by decide)) (by dsimp only [aput, List.set]) rfl ?_
     refine w_seq (w_region ?_)
     refine w_op (a := .ptr 0 0) rfl rfl rfl rfl (by dsimp only [aput, List.set]) ?_
     refine w_op (a := .raw (.int .u8 x1.k)) rfl rfl rfl rfl (by dsimp only [aput, List.set]) ?_
     refine w_op (a := .raw (.bool (x1.k == 2))) rfl rfl rfl rfl (by dsimp only [aput, List.set]) ?_
     refine bif_e h (fun hc2 h => ?_) (fun hc2 h => ?_)
     ·
      refine w_condT hc2 rfl ?_
      refine w_region (k0 := 0) (id := 6) ?_
      refine w_mv ?_
      obtain ⟨g2, h⟩ := chk_e h
      refine w_op (a := .raw (.int .i64 (s1.1 + 1))) rfl rfl rfl (op_q (q_add rfl rfl rfl rfl g2.1 g2.2)) (by dsimp only [aput, List.set]) ?_
      refine w_mv ?_
      refine cut_done (o := or2) ((s1.1 + 1)) h ?_
      exact wm_trim [true, true, true, true, true, false, true, true, true, false, false, false, false, false, false, false, false, true, true] 0 (by kernel_rfl) (Nat.le_of_ble_eq_true rfl) (okSt_of rfl) (by dsimp only [setAll, topAll, List.foldl, List.set]; exact (okTrimL_cons rfl (okTrimL_cons rfl (okTrimL_cons rfl (okTrimL_cons rfl (okTrimL_cons rfl (okTrimL_cons rfl (okTrimL_cons (okTrim_l (Enc.cloL _)) (okTrimL_cons rfl (okTrimL_cons rfl (okTrimL_cons rfl (okTrimL_cons rfl (okTrimL_cons rfl (okTrimL_cons rfl (okTrimL_cons rfl (okTrimL_cons rfl (okTrimL_cons rfl (okTrimL_cons rfl (okTrimL_cons rfl (okTrimL_cons rfl rfl)))))))))))))))))))) (by kernel_rfl)
     ·
      refine w_condF hc2 rfl ?_
      refine cut_done (o := or2) (s1.1) h ?_
      exact wm_trim [true, true, true, true, true, false, true, true, true, false, false, false, false, false, false, false, false, true, true] 0 (by kernel_rfl) (Nat.le_of_ble_eq_true rfl) (okSt_of rfl) (by dsimp only [setAll, topAll, List.foldl, List.set]; exact (okTrimL_cons rfl (okTrimL_cons rfl (okTrimL_cons rfl (okTrimL_cons rfl (okTrimL_cons rfl (okTrimL_cons rfl (okTrimL_cons (okTrim_l (Enc.cloL _)) (okTrimL_cons rfl (okTrimL_cons rfl (okTrimL_cons rfl (okTrimL_cons rfl (okTrimL_cons rfl (okTrimL_cons rfl (okTrimL_cons rfl (okTrimL_cons rfl (okTrimL_cons rfl (okTrimL_cons rfl (okTrimL_cons rfl (okTrimL_cons rfl rfl)))))))))))))))))))) (by kernel_rfl)
    ·
     intro j2 h
     refine w_start (by dsimp only [setAll, topAll, List.foldl, List.set]) rfl ?_
     refine w_region (k0 := 0) (id := 7) ?_
     obtain ⟨g3, h⟩ := chk_e h
     refine w_op (a := .raw (.int .i64 (s1.2 + 1))) rfl rfl rfl (op_q (q_add rfl rfl rfl rfl g3.1 g3.2)) (by dsimp only [aput, List.set]) ?_
     refine w_mv ?_
     refine loop_next (p := p1) (j2, (s1.2 + 1)) h ?_
     exact wm_of [false, false, false, true, false, false, true, true, true, false, false, false, false, false, false, false, false, false, false] (by kernel_rfl) (by kernel_rfl)
   ·
    refine w_condF hc1 rfl ?_
    refine loop_exit h (fun h => ?_)
    refine cut_done (o := or1) (s1.1) h ?_
    exact wm_of [false, false, false, true, false, false, false, false, false, false, false, false, false, false, false, false, false, false, false] (by kernel_rfl) (by kernel_rfl)
 ·
  intro j1 h
  refine w_start (by dsimp only [setAll, topAll, List.foldl, List.set]) rfl ?_
  refine w_seq (w_region ?_)
  refine w_mv ?_
  refine w_mv ?_
  exact end_i h
end Go.Ab

