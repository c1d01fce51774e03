/-
  trace: package quote, lines.
-/
import Derived.Test.YtcdmdnadilafhaaDoorZtQc
set_option linter.unusedSimpArgs false
set_option linter.unusedVariables false
namespace Go.Ab
open Go Go.RowKit Go.Fwd Go.Proofs
def F_qbytes (fuel : Nat) (b : (List UInt8)) (m : QSet) : Option (List UInt8) :=
  (cutE (τ := (Bool × List UInt8)) (loopE (β := Int × (Bool × List UInt8)) (fun s1 => (bif (decide (s1.1 < (List.length b : Int))) then (chk (0 ≤ s1.1 ∧ s1.1 < (List.length b : Int)) (letE (ix b s1.1) (fun x1 => (letE (byteP x1) (fun x2 => (chk ((List.length s1.2.2 + List.length x2) * 1 ≤ 140737488355328) (chk (-9223372036854775808 ≤ (s1.1 + 1) ∧ (s1.1 + 1) < 9223372036854775808) (some (Sum.inl ((s1.1 + 1), (true, (s1.2.2 ++ x2)))))))))))) else (some (Sum.inr (Sum.inl ((s1.2.1, s1.2.2))))))) fuel (0, (false, ([] : List UInt8)))) (fun j1 => (some j1.2)))
theorem ent67 : Ent Tryd.prog 67 := enters_of Tryd.func67 (by kernel_rfl) rfl
set_option maxRecDepth 100000 in
set_option maxHeartbeats 4000000 in
theorem qbytes_sh (fuel : Nat) (b : (List UInt8)) (m : QSet) (r : (List UInt8)) (h : F_qbytes fuel b m = some r) : Pure (ITP Tryd.prog) Tryd.prog 67 [.raw (.string (bs b)), .agg (Enc.cells (m : QSet))] (.raw (.string (bs r))) := by
 obtain ⟨d, hd⟩ : ∃ d, Tryd.f67.body = some d := ⟨_, rfl⟩
 refine pure_of mix Tryd.func67 hd ent67 ?_
 cases hd
 unfold F_qbytes at h
 refine w_start (by dsimp only [abeginS, Tryd.f67, List.length_cons, List.length_nil, Nat.zero_add, Nat.reduceAdd, Nat.reduceSub, List.replicate, List.cons_append, List.nil_append]) (by dsimp only [St.empty]) ?_
 refine w_seq (w_region ?_)
 refine w_opm (a := .ptr 0 0) (σ'' := ⟨[(109, (Enc.cells (m : QSet)))], [], [], 0, false⟩) rfl rfl rfl rfl (by dsimp only [aput, List.set]) rfl ?_
 refine w_op (a := .raw (.string (bs ([] : List UInt8)))) rfl rfl rfl rfl (by dsimp only [aput, List.set]) ?_
 refine w_seq (w_region ?_)
 refine w_opB (a := .ptr 1 0) (σ'' := (ownSt [(109, (Enc.cells (m : QSet))), (71, (bldC 1 false ([] : List UInt8)))] 5 (List.length (([] : List UInt8) : List UInt8)) 1)) rfl rfl rfl rfl (by dsimp only [aput, List.set]) rfl ?_
 refine w_cutF h [0, 1, 2, 3, 4, 6, 7, 8, 9, 10, 11, 12, 13, 14, 15, 16, 17, 18, 19] (fun j1 => []) (fun j1 => (ownSt [(109, (Enc.cells (m : QSet))), (71, (bldC 1 j1.1 j1.2))] 5 (List.length (j1.2 : List UInt8)) 1)) ?_ ?_
 ·
  intro or1 h hr1
  refine w_seq (w_region ?_)
  refine w_op (a := .raw (.string (bs b))) rfl rfl rfl rfl (by dsimp only [aput, List.set]) ?_
  refine w_op (a := .raw (.int .i64 (List.length b : Int))) rfl rfl rfl (op_q (q_lenS rfl rfl rfl)) (by dsimp only [aput, List.set]) ?_
  refine w_op (a := .raw (.int .i64 0)) rfl rfl rfl rfl (by dsimp only [aput, List.set]) ?_
  refine w_block ?_
  refine w_loopF h [1, 2, 4, 6, 7, 9, 10, 11, 12, 13, 14, 15, 16, 17, 18, 19] (fun s1 => [(9, .raw (.int .i64 s1.1))]) (fun s1 => (ownSt [(109, (Enc.cells (m : QSet))), (71, (bldC 1 s1.2.1 s1.2.2))] 5 (List.length (s1.2.2 : List UInt8)) 1)) ?_ ?_
  ·
   exact wm_of [true, false, false, true, false, true, false, false, true, true, false, false, false, false, false, false, false, false, false, false] (by kernel_rfl) (by kernel_rfl)
  ·
   intro s1 p1 h
   refine w_start (by dsimp only [setAll, topAll, List.foldl, List.set]) rfl ?_
   refine w_seq (w_region ?_)
   refine w_op (a := .raw (.bool (decide (s1.1 < (List.length b : Int))))) rfl rfl rfl rfl (by dsimp only [aput, List.set]) ?_
   refine w_seq ?_
   refine bif_e h (fun hc1 h => ?_) (fun hc1 h => ?_)
   ·
    refine w_condT hc1 rfl ?_
    refine w_seq ?_
    refine w_block ?_
    refine w_seq (w_region ?_)
    refine w_op (a := .raw (.int .i64 s1.1)) rfl rfl rfl rfl (by dsimp only [aput, List.set]) ?_
    refine w_op (a := .raw (.int .i64 s1.1)) rfl rfl rfl rfl (by dsimp only [aput, List.set]) ?_
    refine w_draw (k0 := 0) (id := 5) 4 (by kernel_rfl) (by kernel_rfl) ?_
    refine h_op (a := .raw (.string (bs b))) rfl rfl rfl rfl (by dsimp only [aput, List.set]) ?_
    refine h_op (a := .raw (.int .i64 s1.1)) rfl rfl rfl rfl (by dsimp only [aput, List.set]) ?_
    obtain ⟨g1, h⟩ := chk_e h
    obtain ⟨x1, hx1, h⟩ := letE_e h
    refine h_op (a := .raw (.int .u8 (((x1).toNat : Nat) : Int))) rfl rfl rfl (by rw [← hx1]; exact (q_sidx (l := b) (n := s1.1) g1 rfl rfl rfl rfl)) (by dsimp only [aput, List.set]) ?_
    refine h_op (a := .agg (Enc.cells (m : QSet))) rfl rfl rfl rfl (by dsimp only [aput, List.set]) ?_
    refine h_end ?_
    obtain ⟨x2, hx2, h⟩ := letE_e h
    refine w_callc (args' := [.raw (.int .u8 (((x1).toNat : Nat) : Int)), .agg (Enc.cells (m : QSet))]) (r := .raw (.string (bs x2))) (by rw [← hx2]; exact (byte_pure x1)) rfl rfl (stripL_cons rfl (stripL_cons (strip_c (clo_agg (Enc.clo _))) rfl)) (okTrimL_cons rfl (okTrimL_cons (okTrim_clo _ _ (clo_agg (Enc.clo _))) rfl)) (by dsimp only [aput, List.set]) ?_
    obtain ⟨g2, h⟩ := chk_e h
    refine w_snd (r := .tup [.raw (.int .i64 (List.length x2 : Int)), .raw .nilIface]) (σ' := (ownSt [(109, (Enc.cells (m : QSet))), (71, (bldC 1 true (s1.2.2 ++ x2)))] 5 (List.length ((s1.2.2 ++ x2) : List UInt8)) 1)) (bld_write (u := s1.2.1) (l := s1.2.2) (b := x2) g2 rfl) rfl rfl ⟨rfl, rfl⟩ (by dsimp only [aput, List.set]) ?_
    refine w_region (k0 := 0) (id := 6) ?_
    obtain ⟨g3, h⟩ := chk_e h
    refine w_op (a := .raw (.int .i64 (s1.1 + 1))) rfl rfl rfl (op_q (q_add rfl rfl rfl rfl g3.1 g3.2)) (by dsimp only [aput, List.set]) ?_
    refine w_op (a := .raw (.int .i64 (s1.1 + 1))) rfl rfl rfl rfl (by dsimp only [aput, List.set]) ?_
    refine loop_next (p := p1) ((s1.1 + 1), (true, (s1.2.2 ++ x2))) h ?_
    exact wm_of [true, false, false, true, false, true, false, false, true, true, false, false, false, false, false, false, false, false, false, false] (by kernel_rfl) (by kernel_rfl)
   ·
    refine w_condF hc1 rfl ?_
    refine loop_exit h (fun h => ?_)
    refine cut_done (o := or1) ((s1.2.1, s1.2.2)) h ?_
    exact wm_of [false, false, false, false, false, true, false, false, false, false, false, false, false, false, false, false, false, false, false, false] (by kernel_rfl) (by kernel_rfl)
 ·
  intro j1 h
  refine w_start (by dsimp only [setAll, topAll, List.foldl, List.set]) rfl ?_
  refine w_seq (w_region ?_)
  refine w_snd (r := .raw (.string (bs j1.2))) (σ' := (ownSt [(109, (Enc.cells (m : QSet))), (71, (bldC 1 j1.1 j1.2))] 5 (List.length (j1.2 : List UInt8)) 1)) (bld_string (u := j1.1) (l := j1.2) rfl) rfl rfl ⟨rfl, rfl⟩ (by dsimp only [aput, List.set]) ?_
  refine w_op (a := .raw (.string (bs j1.2))) rfl rfl rfl rfl (by dsimp only [aput, List.set]) ?_
  exact end_pureF (fun (r : (List UInt8)) => (.raw (.string (bs r)) : AV)) h (a := .raw (.string (bs j1.2))) rfl rfl rfl
def F_quote (fuel : Nat) (b : (List UInt8)) : Option (List UInt8) :=
  (bindE (F_qbytes fuel b QSet.mk) (fun x1 => (chk (List.length ([34] : List UInt8) + List.length x1 ≤ 9223372036854775807) (chk (List.length (([34] : List UInt8) ++ x1) + List.length ([34] : List UInt8) ≤ 9223372036854775807) (some ((([34] : List UInt8) ++ x1) ++ ([34] : List UInt8)))))))
theorem ent59 : Ent Tryd.prog 59 := enters_of Tryd.func59 (by kernel_rfl) rfl
set_option maxRecDepth 100000 in
set_option maxHeartbeats 4000000 in
theorem quote_sh (fuel : Nat) (b : (List UInt8)) (r : (List UInt8)) (h : F_quote fuel b = some r) : Pure (ITP Tryd.prog) Tryd.prog 59 [.raw (.string (bs b))] (.raw (.string (bs r))) := by
 obtain ⟨d, hd⟩ : ∃ d, Tryd.f59.body = some d := ⟨_, rfl⟩
 refine pure_of mix Tryd.func59 hd ent59 ?_
 cases hd
 unfold F_quote at h
 refine w_start (by dsimp only [abeginS, Tryd.f59, List.length_cons, List.length_nil, Nat.zero_add, Nat.reduceAdd, Nat.reduceSub, List.replicate, List.cons_append, List.nil_append]) (by dsimp only [St.empty]) ?_
 refine w_seq (w_region ?_)
 refine w_op (a := .raw (.string (bs ([] : List UInt8)))) rfl rfl rfl rfl (by dsimp only [aput, List.set]) ?_
 refine w_seq (w_region ?_)
 refine w_op (a := .raw (.string (bs b))) rfl rfl rfl rfl (by dsimp only [aput, List.set]) ?_
 refine w_op (a := .list (List.length (([34] : List UInt8) : List UInt8)) (Enc.cellsL (([34] : List UInt8) : List UInt8)) .full) rfl rfl rfl (op_q (q_lit (α := UInt8) (l := ([34] : List UInt8)) (cs := [.raw (.int .u8 34)]) rfl rfl)) (by dsimp only [aput, List.set]) ?_
 refine w_callc (args' := [.list (List.length (([34] : List UInt8) : List UInt8)) (Enc.cellsL (([34] : List UInt8) : List UInt8)) .none]) (r := .agg (Enc.cells (QSet.mk : QSet))) of_pure rfl rfl (stripL_cons (strip_l (Enc.cloL _)) rfl) (okTrimL_cons (okTrim_l (Enc.cloL _)) rfl) (by dsimp only [aput, List.set]) ?_
 obtain ⟨x1, hx1, h⟩ := bindE_e h
 refine w_callc (args' := [.raw (.string (bs b)), .agg (Enc.cells (QSet.mk : QSet))]) (r := .raw (.string (bs x1))) (qbytes_sh fuel b QSet.mk x1 hx1) rfl rfl (stripL_cons rfl (stripL_cons (strip_c (clo_agg (Enc.clo _))) rfl)) (okTrimL_cons rfl (okTrimL_cons (okTrim_clo _ _ (clo_agg (Enc.clo _))) rfl)) (by dsimp only [aput, List.set]) ?_
 obtain ⟨g1, h⟩ := chk_e h
 refine w_op (a := .raw (.string (bs (([34] : List UInt8) ++ x1)))) rfl rfl rfl (op_q (q_stradd g1 rfl rfl rfl)) (by dsimp only [aput, List.set]) ?_
 obtain ⟨g2, h⟩ := chk_e h
 refine w_op (a := .raw (.string (bs ((([34] : List UInt8) ++ x1) ++ ([34] : List UInt8))))) rfl rfl rfl (op_q (q_stradd g2 rfl rfl rfl)) (by dsimp only [aput, List.set]) ?_
 refine w_op (a := .raw (.string (bs ((([34] : List UInt8) ++ x1) ++ ([34] : List UInt8))))) rfl rfl rfl rfl (by dsimp only [aput, List.set]) ?_
 exact end_pureF (fun (r : (List UInt8)) => (.raw (.string (bs r)) : AV)) h (a := .raw (.string (bs ((([34] : List UInt8) ++ x1) ++ ([34] : List UInt8))))) rfl rfl rfl
def F_sendw (fuel : Nat) (e : En) : Option (List UInt8) :=
  (bindE (F_quote fuel e.b) (fun x1 => (some x1)))
theorem ent58 : Ent Tryd.prog 58 := enters_of Tryd.func58 (by kernel_rfl) rfl
set_option maxRecDepth 100000 in
set_option maxHeartbeats 4000000 in
theorem sendw_sh (fuel : Nat) (e : En) (r : (List UInt8)) (h : F_sendw fuel e = some r) : Pure (ITP Tryd.prog) Tryd.prog 58 [.agg (Enc.cells (e : En))] (.raw (.string (bs r))) := by
 obtain ⟨d, hd⟩ : ∃ d, Tryd.f58.body = some d := ⟨_, rfl⟩
 refine pure_of mix Tryd.func58 hd ent58 ?_
 cases hd
 unfold F_sendw at h
 refine w_start (by dsimp only [abeginS, Tryd.f58, List.length_cons, List.length_nil, Nat.zero_add, Nat.reduceAdd, Nat.reduceSub, List.replicate, List.cons_append, List.nil_append]) (by dsimp only [St.empty]) ?_
 refine w_seq (w_region ?_)
 refine w_opm (a := .ptr 0 0) (σ'' := ⟨[(43, (Enc.cells (e : En)))], [], [], 0, false⟩) rfl rfl rfl rfl (by dsimp only [aput, List.set]) rfl ?_
 refine w_op (a := .raw (.string (bs ([] : List UInt8)))) rfl rfl rfl rfl (by dsimp only [aput, List.set]) ?_
 refine w_seq (w_region ?_)
 refine w_op (a := .ptr 0 3) rfl rfl rfl rfl (by dsimp only [aput, List.set]) ?_
 refine w_op (a := .raw (.string (bs e.b))) rfl rfl rfl rfl (by dsimp only [aput, List.set]) ?_
 obtain ⟨x1, hx1, h⟩ := bindE_e h
 refine w_callc (args' := [.raw (.string (bs e.b))]) (r := .raw (.string (bs x1))) (quote_sh fuel e.b x1 hx1) rfl rfl (stripL_cons rfl rfl) (okTrimL_cons rfl rfl) (by dsimp only [aput, List.set]) ?_
 refine w_op (a := .raw (.string (bs x1))) rfl rfl rfl rfl (by dsimp only [aput, List.set]) ?_
 exact end_pureF (fun (r : (List UInt8)) => (.raw (.string (bs r)) : AV)) h (a := .raw (.string (bs x1))) rfl rfl rfl
def F_spanw (e : En) : Option (List UInt8) :=
  (chk (-9223372036854775808 ≤ e.fr ∧ e.fr < 9223372036854775808) (letE (Lib.itoa e.fr) (fun x1 => (chk (List.length x1 + List.length ([32] : List UInt8) ≤ 9223372036854775807) (chk (-9223372036854775808 ≤ e.to ∧ e.to < 9223372036854775808) (letE (Lib.itoa e.to) (fun x2 => (chk (List.length (x1 ++ ([32] : List UInt8)) + List.length x2 ≤ 9223372036854775807) (some ((x1 ++ ([32] : List UInt8)) ++ x2))))))))))
theorem ent57 : Ent Tryd.prog 57 := enters_of Tryd.func57 (by kernel_rfl) rfl
set_option maxRecDepth 100000 in
set_option maxHeartbeats 4000000 in
theorem spanw_sh (e : En) (r : (List UInt8)) (h : F_spanw e = some r) : Pure (ITP Tryd.prog) Tryd.prog 57 [.agg (Enc.cells (e : En))] (.raw (.string (bs r))) := by
 obtain ⟨d, hd⟩ : ∃ d, Tryd.f57.body = some d := ⟨_, rfl⟩
 refine pure_of mix Tryd.func57 hd ent57 ?_
 cases hd
 unfold F_spanw at h
 refine w_start (by dsimp only [abeginS, Tryd.f57, List.length_cons, List.length_nil, Nat.zero_add, Nat.reduceAdd, Nat.reduceSub, List.replicate, List.cons_append, List.nil_append]) (by dsimp only [St.empty]) ?_
 refine w_seq (w_region ?_)
 refine w_opm (a := .ptr 0 0) (σ'' := ⟨[(43, (Enc.cells (e : En)))], [], [], 0, false⟩) rfl rfl rfl rfl (by dsimp only [aput, List.set]) rfl ?_
 refine w_op (a := .raw (.string (bs ([] : List UInt8)))) rfl rfl rfl rfl (by dsimp only [aput, List.set]) ?_
 refine w_seq ?_
 refine w_draw (k0 := 0) (id := 1) 7 (by kernel_rfl) (by kernel_rfl) ?_
 refine h_op (a := .ptr 0 1) rfl rfl rfl rfl (by dsimp only [aput, List.set]) ?_
 refine h_op (a := .raw (.int .i64 e.fr)) rfl rfl rfl rfl (by dsimp only [aput, List.set]) ?_
 obtain ⟨g1, h⟩ := chk_e h
 obtain ⟨x1, hx1, h⟩ := letE_e h
 refine h_call (args' := [.raw (.int .i64 e.fr)]) (r := .raw (.string (bs x1))) (by rw [← hx1]; exact (itoa_pure e.fr g1)) rfl rfl rfl (stripL_cons rfl rfl) (okTrimL_cons rfl rfl) (by dsimp only [aput, List.set]) ?_
 obtain ⟨g2, h⟩ := chk_e h
 refine h_op (a := .raw (.string (bs (x1 ++ ([32] : List UInt8))))) rfl rfl rfl (q_stradd g2 rfl rfl rfl) (by dsimp only [aput, List.set]) ?_
 refine h_op (a := .ptr 0 2) rfl rfl rfl rfl (by dsimp only [aput, List.set]) ?_
 refine h_op (a := .raw (.int .i64 e.to)) rfl rfl rfl rfl (by dsimp only [aput, List.set]) ?_
 obtain ⟨g3, h⟩ := chk_e h
 obtain ⟨x2, hx2, h⟩ := letE_e h
 refine h_call (args' := [.raw (.int .i64 e.to)]) (r := .raw (.string (bs x2))) (by rw [← hx2]; exact (itoa_pure e.to g3)) rfl rfl rfl (stripL_cons rfl rfl) (okTrimL_cons rfl rfl) (by dsimp only [aput, List.set]) ?_
 refine h_end ?_
 obtain ⟨g4, h⟩ := chk_e h
 refine w_op (a := .raw (.string (bs ((x1 ++ ([32] : List UInt8)) ++ x2)))) rfl rfl rfl (op_q (q_stradd g4 rfl rfl rfl)) (by dsimp only [aput, List.set]) ?_
 refine w_op (a := .raw (.string (bs ((x1 ++ ([32] : List UInt8)) ++ x2)))) rfl rfl rfl rfl (by dsimp only [aput, List.set]) ?_
 exact end_pureF (fun (r : (List UInt8)) => (.raw (.string (bs r)) : AV)) h (a := .raw (.string (bs ((x1 ++ ([32] : List UInt8)) ++ x2)))) rfl rfl rfl
def F_line (fuel : Nat) (e : En) : Option (List UInt8) :=
  (chk (1 ≤ e.k ∧ e.k ≤ 3) (chk (List.length ((kindAt e.k).w) + List.length ([32] : List UInt8) ≤ 9223372036854775807) (bif (e.k == 1) then (bindE (F_sendw fuel e) (fun x1 => (chk (List.length ((kindAt e.k).w ++ ([32] : List UInt8)) + List.length x1 ≤ 9223372036854775807) (some (((kindAt e.k).w ++ ([32] : List UInt8)) ++ x1))))) else (bindE (F_spanw e) (fun x2 => (chk (List.length ((kindAt e.k).w ++ ([32] : List UInt8)) + List.length x2 ≤ 9223372036854775807) (some (((kindAt e.k).w ++ ([32] : List UInt8)) ++ x2))))))))
theorem ent34 : Ent Tryd.prog 34 := enters_of Tryd.func34 (by kernel_rfl) rfl
set_option maxRecDepth 100000 in
set_option maxHeartbeats 4000000 in
theorem line_sh (fuel : Nat) (e : En) (r : (List UInt8)) (h : F_line fuel e = some r) : Pure (ITP Tryd.prog) Tryd.prog 34 [.agg (Enc.cells (e : En))] (.raw (.string (bs r))) := by
 obtain ⟨d, hd⟩ : ∃ d, Tryd.f34.body = some d := ⟨_, rfl⟩
 refine pure_of mix Tryd.func34 hd ent34 ?_
 cases hd
 unfold F_line at h
 refine w_start (by dsimp only [abeginS, Tryd.f34, List.length_cons, List.length_nil, Nat.zero_add, Nat.reduceAdd, Nat.reduceSub, List.replicate, List.cons_append, List.nil_append]) (by dsimp only [St.empty]) ?_
 refine w_seq (w_region ?_)
 refine w_opm (a := .ptr 0 0) (σ'' := ⟨[(43, (Enc.cells (e : En)))], [], [], 0, false⟩) rfl rfl rfl rfl (by dsimp only [aput, List.set]) rfl ?_
 refine w_op (a := .raw (.string (bs ([] : List UInt8)))) rfl rfl rfl rfl (by dsimp only [aput, List.set]) ?_
 refine w_seq ?_
 refine w_drawB (k0 := 0) (id := 1) 5 (by kernel_rfl) (by kernel_rfl) ?_
 refine hB_call (args' := []) (r := kindsA) kinds_pure rfl rfl rfl rfl rfl rfl (by dsimp only [aput, List.set]) ?_
 refine hB_op (a := .ptr 0 0) rfl rfl rfl rfl rfl (by dsimp only [aput, List.set]) ?_
 refine hB_op (a := .raw (.int .u8 e.k)) rfl rfl rfl rfl rfl (by dsimp only [aput, List.set]) ?_
 obtain ⟨g1, h⟩ := chk_e h
 refine hB_op (a := .agg (Enc.cells ((kindAt e.k) : Kd))) rfl rfl rfl rfl (q_kidx g1 rfl rfl rfl) (by dsimp only [aput, List.set]) ?_
 refine hB_new _ rfl rfl rfl rfl rfl rfl (by dsimp only [List.set]) ?_
 refine hB_doneF (n := 1) rfl (show _ = (⟨[(43, (Enc.cells (e : En))), (93, [.raw (.string (bs [])), .raw .nilFunc])], [], [], 0, false⟩ : St) from rfl) (by dsimp only [List.nil_append, List.cons_append, pendS, List.set, Nat.reduceAdd]) ?_
 refine w_opm (σ'' := ⟨[(43, (Enc.cells (e : En))), (93, (Enc.cells ((kindAt e.k) : Kd)))], [], [], 0, false⟩) rfl rfl rfl (op_storeW (n := 2) rfl rfl rfl rfl rfl rfl rfl rfl (by decide)) (by dsimp only [aput, List.set]) rfl ?_
 refine w_seq ?_
 refine w_draw (k0 := 0) (id := 2) 7 (by kernel_rfl) (by kernel_rfl) ?_
 refine h_op (a := .ptr 1 0) rfl rfl rfl rfl (by dsimp only [aput, List.set]) ?_
 refine h_op (a := .raw (.string (bs ((kindAt e.k).w)))) rfl rfl rfl rfl (by dsimp only [aput, List.set]) ?_
 obtain ⟨g2, h⟩ := chk_e h
 refine h_op (a := .raw (.string (bs ((kindAt e.k).w ++ ([32] : List UInt8))))) rfl rfl rfl (q_stradd g2 rfl rfl rfl) (by dsimp only [aput, List.set]) ?_
 refine h_op (a := .ptr 1 1) rfl rfl rfl rfl (by dsimp only [aput, List.set]) ?_
 refine h_op (a := .clos (kindAt e.k).f []) rfl rfl rfl rfl (by dsimp only [aput, List.set]) ?_
 refine h_op (a := .agg (Enc.cells (e : En))) rfl rfl rfl rfl (by dsimp only [aput, List.set]) ?_
 refine bif_e h (fun hc1 h => ?_) (fun hc1 h => ?_)
 ·
  obtain ⟨x1, hx1, h⟩ := bindE_e h
  refine h_call (args' := [.agg (Enc.cells (e : En))]) (r := .raw (.string (bs x1))) (by rw [kind_f1 hc1]; exact (sendw_sh fuel e x1 hx1)) rfl rfl rfl (stripL_cons (strip_c (clo_agg (Enc.clo _))) rfl) (okTrimL_cons (okTrim_clo _ _ (clo_agg (Enc.clo _))) rfl) (by dsimp only [aput, List.set]) ?_
  refine h_end ?_
  obtain ⟨g3, h⟩ := chk_e h
  refine w_op (a := .raw (.string (bs (((kindAt e.k).w ++ ([32] : List UInt8)) ++ x1)))) rfl rfl rfl (op_q (q_stradd g3 rfl rfl rfl)) (by dsimp only [aput, List.set]) ?_
  refine w_op (a := .raw (.string (bs (((kindAt e.k).w ++ ([32] : List UInt8)) ++ x1)))) rfl rfl rfl rfl (by dsimp only [aput, List.set]) ?_
  exact end_pureF (fun (r : (List UInt8)) => (.raw (.string (bs r)) : AV)) h (a := .raw (.string (bs (((kindAt e.k).w ++ ([32] : List UInt8)) ++ x1)))) rfl rfl rfl
 ·
  obtain ⟨x2, hx2, h⟩ := bindE_e h
  refine h_call (args' := [.agg (Enc.cells (e : En))]) (r := .raw (.string (bs x2))) (by rw [kind_f2 hc1]; exact (spanw_sh e x2 hx2)) rfl rfl rfl (stripL_cons (strip_c (clo_agg (Enc.clo _))) rfl) (okTrimL_cons (okTrim_clo _ _ (clo_agg (Enc.clo _))) rfl) (by dsimp only [aput, List.set]) ?_
  refine h_end ?_
  obtain ⟨g4, h⟩ := chk_e h
  refine w_op (a := .raw (.string (bs (((kindAt e.k).w ++ ([32] : List UInt8)) ++ x2)))) rfl rfl rfl (op_q (q_stradd g4 rfl rfl rfl)) (by dsimp only [aput, List.set]) ?_
  refine w_op (a := .raw (.string (bs (((kindAt e.k).w ++ ([32] : List UInt8)) ++ x2)))) rfl rfl rfl rfl (by dsimp only [aput, List.set]) ?_
  exact end_pureF (fun (r : (List UInt8)) => (.raw (.string (bs r)) : AV)) h (a := .raw (.string (bs (((kindAt e.k).w ++ ([32] : List UInt8)) ++ x2)))) rfl rfl rfl
def F_endw (e : Ed) : Option (List UInt8) :=
  (bif (e.k == 2) then (chk (-9223372036854775808 ≤ e.c ∧ e.c < 9223372036854775808) (letE (Lib.itoa e.c) (fun x1 => (chk (List.length ([101, 120, 105, 116, 32] : List UInt8) + List.length x1 ≤ 9223372036854775807) (some (([101, 120, 105, 116, 32] : List UInt8) ++ x1)))))) else (chk (0 ≤ e.k ∧ e.k < 256) (letE (nameE e.k) (fun x2 => (some x2)))))
theorem ent35 : Ent Tryd.prog 35 := enters_of Tryd.func35 (by kernel_rfl) rfl
set_option maxRecDepth 100000 in
set_option maxHeartbeats 4000000 in
theorem endw_sh (e : Ed) (r : (List UInt8)) (h : F_endw e = some r) : Pure (ITP Tryd.prog) Tryd.prog 35 [.agg (Enc.cells (e : Ed))] (.raw (.string (bs r))) := by
 obtain ⟨d, hd⟩ : ∃ d, Tryd.f35.body = some d := ⟨_, rfl⟩
 refine pure_of mix Tryd.func35 hd ent35 ?_
 cases hd
 unfold F_endw at h
 refine w_start (by dsimp only [abeginS, Tryd.f35, List.length_cons, List.length_nil, Nat.zero_add, Nat.reduceAdd, Nat.reduceSub, List.replicate, List.cons_append, List.nil_append]) (by dsimp only [St.empty]) ?_
 refine w_seq (w_region ?_)
 refine w_opm (a := .ptr 0 0) (σ'' := ⟨[(24, (Enc.cells (e : Ed)))], [], [], 0, false⟩) rfl rfl rfl rfl (by dsimp only [aput, List.set]) rfl ?_
 refine w_op (a := .raw (.string (bs ([] : List UInt8)))) rfl rfl rfl rfl (by dsimp only [aput, List.set]) ?_
 refine w_seq ?_
 refine w_seq (w_region ?_)
 refine w_op (a := .ptr 0 0) rfl rfl rfl rfl (by dsimp only [aput, List.set]) ?_
 refine w_op (a := .raw (.int .u8 e.k)) rfl rfl rfl rfl (by dsimp only [aput, List.set]) ?_
 refine w_op (a := .raw (.bool (e.k == 2))) rfl rfl rfl rfl (by dsimp only [aput, List.set]) ?_
 refine bif_e h (fun hc1 h => ?_) (fun hc1 h => ?_)
 ·
  refine w_condT hc1 rfl ?_
  refine w_seq (w_region ?_)
  refine w_op (a := .ptr 0 1) rfl rfl rfl rfl (by dsimp only [aput, List.set]) ?_
  refine w_op (a := .raw (.int .i64 e.c)) rfl rfl rfl rfl (by dsimp only [aput, List.set]) ?_
  obtain ⟨g1, h⟩ := chk_e h
  obtain ⟨x1, hx1, h⟩ := letE_e h
  refine w_callc (args' := [.raw (.int .i64 e.c)]) (r := .raw (.string (bs x1))) (by rw [← hx1]; exact (itoa_pure e.c g1)) rfl rfl (stripL_cons rfl rfl) (okTrimL_cons rfl rfl) (by dsimp only [aput, List.set]) ?_
  obtain ⟨g2, h⟩ := chk_e h
  refine w_op (a := .raw (.string (bs (([101, 120, 105, 116, 32] : List UInt8) ++ x1)))) rfl rfl rfl (op_q (q_stradd g2 rfl rfl rfl)) (by dsimp only [aput, List.set]) ?_
  refine w_op (a := .raw (.string (bs (([101, 120, 105, 116, 32] : List UInt8) ++ x1)))) rfl rfl rfl rfl (by dsimp only [aput, List.set]) ?_
  exact end_pureF (fun (r : (List UInt8)) => (.raw (.string (bs r)) : AV)) h (a := .raw (.string (bs (([101, 120, 105, 116, 32] : List UInt8) ++ x1)))) rfl rfl rfl
 ·
  refine w_condF hc1 rfl ?_
  refine w_seq (w_region ?_)
  refine w_op (a := .ptr 0 0) rfl rfl rfl rfl (by dsimp only [aput, List.set]) ?_
  refine w_op (a := .raw (.int .u8 e.k)) rfl rfl rfl rfl (by dsimp only [aput, List.set]) ?_
  obtain ⟨g3, h⟩ := chk_e h
  obtain ⟨x2, hx2, h⟩ := letE_e h
  refine w_callc (args' := [.raw (.int .u8 e.k)]) (r := .raw (.string (bs x2))) (by rw [← hx2]; exact (name_pure e.k g3)) rfl rfl (stripL_cons rfl rfl) (okTrimL_cons rfl rfl) (by dsimp only [aput, List.set]) ?_
  refine w_op (a := .raw (.string (bs x2))) rfl rfl rfl rfl (by dsimp only [aput, List.set]) ?_
  exact end_pureF (fun (r : (List UInt8)) => (.raw (.string (bs r)) : AV)) h (a := .raw (.string (bs x2))) rfl rfl rfl
end Go.Ab

