/-
  trace: package quote, lines.
-/
import Derived.Test.YtcdmdnadilafhaaGreatDoorZyQc
set_option linter.unusedSimpArgs false
set_option linter.unusedVariables false
namespace Go.Ab
open Go Go.RowKit Go.Fwd Go.Proofs
def F_qbytes (fuel : Nat) (b : (List UInt8)) (m : QSet) : Option (List UInt8) :=
  (cutE (τ := (Bool × List UInt8)) (loopE (β := Int × (Bool × List UInt8)) (fun s1 => (bif (decide (s1.1 < (List.length b : Int))) then (chk (0 ≤ s1.1 ∧ s1.1 < (List.length b : Int)) (letE (ix b s1.1) (fun x1 => (letE (byteP x1) (fun x2 => (chk ((List.length s1.2.2 + List.length x2) * 1 ≤ 140737488355328) (chk (-9223372036854775808 ≤ (s1.1 + 1) ∧ (s1.1 + 1) < 9223372036854775808) (some (Sum.inl ((s1.1 + 1), (true, (s1.2.2 ++ x2)))))))))))) else (some (Sum.inr (Sum.inl ((s1.2.1, s1.2.2))))))) fuel (0, (false, ([] : List UInt8)))) (fun j1 => (some j1.2)))
theorem ent92 : Ent Tryz.prog 92 := enters_of Tryz.func92 (by kernel_rfl) rfl
set_option maxRecDepth 100000 in
set_option maxHeartbeats 4000000 in
theorem qbytes_sh (fuel : Nat) (b : (List UInt8)) (m : QSet) (r : (List UInt8)) (h : F_qbytes fuel b m = some r) : Pure (ITP Tryz.prog) Tryz.prog 92 [.raw (.string (bs b)), .agg (Enc.cells (m : QSet))] (.raw (.string (bs r))) := by
 obtain ⟨d, hd⟩ : ∃ d, Tryz.f92.body = some d := ⟨_, rfl⟩
 refine pure_of mix Tryz.func92 hd ent92 ?_
 cases hd
 unfold F_qbytes at h
 refine w_start (by dsimp only [abeginS, Tryz.f92, List.length_cons, List.length_nil, Nat.zero_add, Nat.reduceAdd, Nat.reduceSub, List.replicate, List.cons_append, List.nil_append]) (by dsimp only [St.empty]) ?_
 refine w_seq (w_region ?_)
 refine w_opm (a := .ptr 0 0) (σ'' := ⟨[(125, (Enc.cells (m : QSet)))], [], [], 0, false⟩) rfl rfl rfl rfl (by dsimp only [aput, List.set]) rfl ?_
 refine w_op (a := .raw (.string (bs ([] : List UInt8)))) rfl rfl rfl rfl (by dsimp only [aput, List.set]) ?_
 refine w_seq (w_region ?_)
 refine w_opB (a := .ptr 1 0) (σ'' := (ownSt [(125, (Enc.cells (m : QSet))), (87, (bldC 1 false ([] : List UInt8)))] 5 (List.length (([] : List UInt8) : List UInt8)) 1)) rfl rfl rfl rfl (by dsimp only [aput, List.set]) rfl ?_
 refine w_cutF h [0, 1, 2, 3, 4, 6, 7, 8, 9, 10, 11, 12, 13, 14, 15, 16, 17, 18, 19] (fun j1 => []) (fun j1 => (ownSt [(125, (Enc.cells (m : QSet))), (87, (bldC 1 j1.1 j1.2))] 5 (List.length (j1.2 : List UInt8)) 1)) ?_ ?_
 ·
  intro or1 h hr1
  refine w_seq (w_region ?_)
  refine w_op (a := .raw (.string (bs b))) rfl rfl rfl rfl (by dsimp only [aput, List.set]) ?_
  refine w_op (a := .raw (.int .i64 (List.length b : Int))) rfl rfl rfl (op_q (q_lenS rfl rfl rfl)) (by dsimp only [aput, List.set]) ?_
  refine w_op (a := .raw (.int .i64 0)) rfl rfl rfl rfl (by dsimp only [aput, List.set]) ?_
  refine w_block ?_
  refine w_loopF h [1, 2, 4, 6, 7, 9, 10, 11, 12, 13, 14, 15, 16, 17, 18, 19] (fun s1 => [(9, .raw (.int .i64 s1.1))]) (fun s1 => (ownSt [(125, (Enc.cells (m : QSet))), (87, (bldC 1 s1.2.1 s1.2.2))] 5 (List.length (s1.2.2 : List UInt8)) 1)) ?_ ?_
  ·
   exact wm_of [true, false, false, true, false, true, false, false, true, true, false, false, false, false, false, false, false, false, false, false] (by kernel_rfl) (by kernel_rfl)
  ·
   intro s1 p1 h
   refine w_start (by dsimp only [setAll, topAll, List.foldl, List.set]) rfl ?_
   refine w_seq (w_region ?_)
   refine w_op (a := .raw (.bool (decide (s1.1 < (List.length b : Int))))) rfl rfl rfl rfl (by dsimp only [aput, List.set]) ?_
   refine w_seq ?_
   refine bif_e h (fun hc1 h => ?_) (fun hc1 h => ?_)
   ·
    refine w_condT hc1 rfl ?_
    refine w_seq ?_
    refine w_block ?_
    refine w_seq (w_region ?_)
    refine w_op (a := .raw (.int .i64 s1.1)) rfl rfl rfl rfl (by dsimp only [aput, List.set]) ?_
    refine w_op (a := .raw (.int .i64 s1.1)) rfl rfl rfl rfl (by dsimp only [aput, List.set]) ?_
    refine w_draw (k0 := 0) (id := 5) 4 (by kernel_rfl) (by kernel_rfl) ?_
    refine h_op (a := .raw (.string (bs b))) rfl rfl rfl rfl (by dsimp only [aput, List.set]) ?_
    refine h_op (a := .raw (.int .i64 s1.1)) rfl rfl rfl rfl (by dsimp only [aput, List.set]) ?_
    obtain ⟨g1, h⟩ := chk_e h
    obtain ⟨x1, hx1, h⟩ := letE_e h
    refine h_op (a := .raw (.int .u8 (((x1).toNat : Nat) : Int))) rfl rfl rfl (by rw [← hx1]; exact (q_sidx (l := b) (n := s1.1) g1 rfl rfl rfl rfl)) (by dsimp only [aput, List.set]) ?_
    refine h_op (a := .agg (Enc.cells (m : QSet))) rfl rfl rfl rfl (by dsimp only [aput, List.set]) ?_
    refine h_end ?_
    obtain ⟨x2, hx2, h⟩ := letE_e h
    refine w_callc (args' := [.raw (.int .u8 (((x1).toNat : Nat) : Int)), .agg (Enc.cells (m : QSet))]) (r := .raw (.string (bs x2))) (by rw [← hx2]; exact (byte_pure x1)) rfl rfl (stripL_cons rfl (stripL_cons (strip_c (clo_agg (Enc.clo _))) rfl)) (okTrimL_cons rfl (okTrimL_cons (okTrim_clo _ _ (clo_agg (Enc.clo _))) rfl)) (by dsimp only [aput, List.set]) ?_
    obtain ⟨g2, h⟩ := chk_e h
    refine w_snd (r := .tup [.raw (.int .i64 (List.length x2 : Int)), .raw .nilIface]) (σ' := (ownSt [(125, (Enc.cells (m : QSet))), (87, (bldC 1 true (s1.2.2 ++ x2)))] 5 (List.length ((s1.2.2 ++ x2) : List UInt8)) 1)) (bld_write (u := s1.2.1) (l := s1.2.2) (b := x2) g2 rfl) rfl rfl ⟨rfl, rfl⟩ (by dsimp only [aput, List.set]) ?_
    refine w_region (k0 := 0) (id := 6) ?_
    obtain ⟨g3, h⟩ := chk_e h
    refine w_op (a := .raw (.int .i64 (s1.1 + 1))) rfl rfl rfl (op_q (q_add rfl rfl rfl rfl g3.1 g3.2)) (by dsimp only [aput, List.set]) ?_
    refine w_op (a := .raw (.int .i64 (s1.1 + 1))) rfl rfl rfl rfl (by dsimp only [aput, List.set]) ?_
    refine loop_next (p := p1) ((s1.1 + 1), (true, (s1.2.2 ++ x2))) h ?_
    exact wm_of [true, false, false, true, false, true, false, false, true, true, false, false, false, false, false, false, false, false, false, false] (by kernel_rfl) (by kernel_rfl)
   ·
    refine w_condF hc1 rfl ?_
    refine loop_exit h (fun h => ?_)
    refine cut_done (o := or1) ((s1.2.1, s1.2.2)) h ?_
    exact wm_of [false, false, false, false, false, true, false, false, false, false, false, false, false, false, false, false, false, false, false, false] (by kernel_rfl) (by kernel_rfl)
 ·
  intro j1 h
  refine w_start (by dsimp only [setAll, topAll, List.foldl, List.set]) rfl ?_
  refine w_seq (w_region ?_)
  refine w_snd (r := .raw (.string (bs j1.2))) (σ' := (ownSt [(125, (Enc.cells (m : QSet))), (87, (bldC 1 j1.1 j1.2))] 5 (List.length (j1.2 : List UInt8)) 1)) (bld_string (u := j1.1) (l := j1.2) rfl) rfl rfl ⟨rfl, rfl⟩ (by dsimp only [aput, List.set]) ?_
  refine w_op (a := .raw (.string (bs j1.2))) rfl rfl rfl rfl (by dsimp only [aput, List.set]) ?_
  exact end_pureF (fun (r : (List UInt8)) => (.raw (.string (bs r)) : AV)) h (a := .raw (.string (bs j1.2))) rfl rfl rfl
def F_quote (fuel : Nat) (b : (List UInt8)) : Option (List UInt8) :=
  (bindE (F_qbytes fuel b QSet.mk) (fun x1 => (chk (List.length ([34] : List UInt8) + List.length x1 ≤ 9223372036854775807) (chk (List.length (([34] : List UInt8) ++ x1) + List.length ([34] : List UInt8) ≤ 9223372036854775807) (some ((([34] : List UInt8) ++ x1) ++ ([34] : List UInt8)))))))
theorem ent74 : Ent Tryz.prog 74 := enters_of Tryz.func74 (by kernel_rfl) rfl
set_option maxRecDepth 100000 in
set_option maxHeartbeats 4000000 in
theorem quote_sh (fuel : Nat) (b : (List UInt8)) (r : (List UInt8)) (h : F_quote fuel b = some r) : Pure (ITP Tryz.prog) Tryz.prog 74 [.raw (.string (bs b))] (.raw (.string (bs r))) := by
 obtain ⟨d, hd⟩ : ∃ d, Tryz.f74.body = some d := ⟨_, rfl⟩
 refine pure_of mix Tryz.func74 hd ent74 ?_
 cases hd
 unfold F_quote at h
 refine w_start (by dsimp only [abeginS, Tryz.f74, List.length_cons, List.length_nil, Nat.zero_add, Nat.reduceAdd, Nat.reduceSub, List.replicate, List.cons_append, List.nil_append]) (by dsimp only [St.empty]) ?_
 refine w_seq (w_region ?_)
 refine w_op (a := .raw (.string (bs ([] : List UInt8)))) rfl rfl rfl rfl (by dsimp only [aput, List.set]) ?_
 refine w_seq (w_region ?_)
 refine w_op (a := .raw (.string (bs b))) rfl rfl rfl rfl (by dsimp only [aput, List.set]) ?_
 refine w_op (a := .list (List.length (([34] : List UInt8) : List UInt8)) (Enc.cellsL (([34] : List UInt8) : List UInt8)) .full) rfl rfl rfl (op_q (q_lit (α := UInt8) (l := ([34] : List UInt8)) (cs := [.raw (.int .u8 34)]) rfl rfl)) (by dsimp only [aput, List.set]) ?_
 refine w_callc (args' := [.list (List.length (([34] : List UInt8) : List UInt8)) (Enc.cellsL (([34] : List UInt8) : List UInt8)) .none]) (r := .agg (Enc.cells (QSet.mk : QSet))) of_pure rfl rfl (stripL_cons (strip_l (Enc.cloL _)) rfl) (okTrimL_cons (okTrim_l (Enc.cloL _)) rfl) (by dsimp only [aput, List.set]) ?_
 obtain ⟨x1, hx1, h⟩ := bindE_e h
 refine w_callc (args' := [.raw (.string (bs b)), .agg (Enc.cells (QSet.mk : QSet))]) (r := .raw (.string (bs x1))) (qbytes_sh fuel b QSet.mk x1 hx1) rfl rfl (stripL_cons rfl (stripL_cons (strip_c (clo_agg (Enc.clo _))) rfl)) (okTrimL_cons rfl (okTrimL_cons (okTrim_clo _ _ (clo_agg (Enc.clo _))) rfl)) (by dsimp only [aput, List.set]) ?_
 obtain ⟨g1, h⟩ := chk_e h
 refine w_op (a := .raw (.string (bs (([34] : List UInt8) ++ x1)))) rfl rfl rfl (op_q (q_stradd g1 rfl rfl rfl)) (by dsimp only [aput, List.set]) ?_
 obtain ⟨g2, h⟩ := chk_e h
 refine w_op (a := .raw (.string (bs ((([34] : List UInt8) ++ x1) ++ ([34] : List UInt8))))) rfl rfl rfl (op_q (q_stradd g2 rfl rfl rfl)) (by dsimp only [aput, List.set]) ?_
 refine w_op (a := .raw (.string (bs ((([34] : List UInt8) ++ x1) ++ ([34] : List UInt8))))) rfl rfl rfl rfl (by dsimp only [aput, List.set]) ?_
 exact end_pureF (fun (r : (List UInt8)) => (.raw (.string (bs r)) : AV)) h (a := .raw (.string (bs ((([34] : List UInt8) ++ x1) ++ ([34] : List UInt8))))) rfl rfl rfl
def F_readbyte (t : (List UInt8)) (m : QSet) : Option (Int × Int × Int) :=
  (cutE (τ := Unit) (bif (t == ([] : List UInt8)) then (some (Sum.inr (0, 0, 20))) else (chk (0 ≤ (0 : Int) ∧ (0 : Int) < (List.length t : Int)) (letE (ix t (0 : Int)) (fun x1 => (bif ((((x1).toNat : Nat) : Int) != 92) then (chk (0 ≤ (0 : Int) ∧ (0 : Int) < (List.length t : Int)) (letE (ix t (0 : Int)) (fun x2 => (bif (decide ((((x2).toNat : Nat) : Int) ≥ 32)) then (chk (0 ≤ (0 : Int) ∧ (0 : Int) < (List.length t : Int)) (letE (ix t (0 : Int)) (fun x3 => (bif (decide ((((x3).toNat : Nat) : Int) ≤ 126)) then (chk (0 ≤ (0 : Int) ∧ (0 : Int) < (List.length t : Int)) (letE (ix t (0 : Int)) (fun x4 => (letE (isMarkP x4) (fun x5 => (bif (!x5) then (chk (0 ≤ (0 : Int) ∧ (0 : Int) < (List.length t : Int)) (letE (ix t (0 : Int)) (fun x6 => (some (Sum.inr ((((x6).toNat : Nat) : Int), 1, 0)))))) else (chk (0 ≤ (0 : Int) ∧ (0 : Int) < (List.length t : Int)) (letE (ix t (0 : Int)) (fun x7 => (bif ((((x7).toNat : Nat) : Int) != 92) then (some (Sum.inr (0, 0, 20))) else (bif (decide ((List.length t : Int) < 2)) then (some (Sum.inr (0, 0, 20))) else (some (Sum.inl ()))))))))))))) else (chk (0 ≤ (0 : Int) ∧ (0 : Int) < (List.length t : Int)) (letE (ix t (0 : Int)) (fun x8 => (bif ((((x8).toNat : Nat) : Int) != 92) then (some (Sum.inr (0, 0, 20))) else (bif (decide ((List.length t : Int) < 2)) then (some (Sum.inr (0, 0, 20))) else (some (Sum.inl ()))))))))))) else (chk (0 ≤ (0 : Int) ∧ (0 : Int) < (List.length t : Int)) (letE (ix t (0 : Int)) (fun x9 => (bif ((((x9).toNat : Nat) : Int) != 92) then (some (Sum.inr (0, 0, 20))) else (bif (decide ((List.length t : Int) < 2)) then (some (Sum.inr (0, 0, 20))) else (some (Sum.inl ()))))))))))) else (chk (0 ≤ (0 : Int) ∧ (0 : Int) < (List.length t : Int)) (letE (ix t (0 : Int)) (fun x10 => (bif ((((x10).toNat : Nat) : Int) != 92) then (some (Sum.inr (0, 0, 20))) else (bif (decide ((List.length t : Int) < 2)) then (some (Sum.inr (0, 0, 20))) else (some (Sum.inl ())))))))))))) (fun j1 => (chk (0 ≤ (1 : Int) ∧ (1 : Int) < (List.length t : Int)) (letE (ix t (1 : Int)) (fun x11 => (letE (Lib.indexByte ([110, 114, 116] : List UInt8) x11) (fun x12 => (cutE (τ := Unit) (bif ((((x11).toNat : Nat) : Int) == 120) then (bif (decide ((List.length t : Int) > 3)) then (chk (0 ≤ (2 : Int) ∧ (2 : Int) < (List.length t : Int)) (letE (ix t (2 : Int)) (fun x13 => (letE (nibP x13) (fun x14 => (bif (decide (x14 < 16)) then (chk (0 ≤ (3 : Int) ∧ (3 : Int) < (List.length t : Int)) (letE (ix t (3 : Int)) (fun x15 => (letE (nibP x15) (fun x16 => (bif (decide (x16 < 16)) then (chk (0 ≤ (2 : Int) ∧ (2 : Int) < (List.length t : Int)) (letE (ix t (2 : Int)) (fun x17 => (letE (nibP x17) (fun x18 => (chk (0 ≤ (3 : Int) ∧ (3 : Int) < (List.length t : Int)) (letE (ix t (3 : Int)) (fun x19 => (letE (nibP x19) (fun x20 => (some (Sum.inr ((IntKind.u8.wrap (orI .i64 (shlI .i64 x18 4) x20)), 4, 0))))))))))))) else (bif ((((x11).toNat : Nat) : Int) == 92) then (some (Sum.inr ((((x11).toNat : Nat) : Int), 2, 0))) else (letE (isMarkP x11) (fun x21 => (bif x21 then (some (Sum.inr ((((x11).toNat : Nat) : Int), 2, 0))) else (bif (decide (x12 ≥ 0)) then (chk (0 ≤ x12 ∧ x12 < (List.length ([10, 13, 9] : List UInt8) : Int)) (letE (ix ([10, 13, 9] : List UInt8) x12) (fun x22 => (some (Sum.inr ((((x22).toNat : Nat) : Int), 2, 0)))))) else (some (Sum.inl ()))))))))))))) else (bif ((((x11).toNat : Nat) : Int) == 92) then (some (Sum.inr ((((x11).toNat : Nat) : Int), 2, 0))) else (letE (isMarkP x11) (fun x23 => (bif x23 then (some (Sum.inr ((((x11).toNat : Nat) : Int), 2, 0))) else (bif (decide (x12 ≥ 0)) then (chk (0 ≤ x12 ∧ x12 < (List.length ([10, 13, 9] : List UInt8) : Int)) (letE (ix ([10, 13, 9] : List UInt8) x12) (fun x24 => (some (Sum.inr ((((x24).toNat : Nat) : Int), 2, 0)))))) else (some (Sum.inl ()))))))))))))) else (bif ((((x11).toNat : Nat) : Int) == 92) then (some (Sum.inr ((((x11).toNat : Nat) : Int), 2, 0))) else (letE (isMarkP x11) (fun x25 => (bif x25 then (some (Sum.inr ((((x11).toNat : Nat) : Int), 2, 0))) else (bif (decide (x12 ≥ 0)) then (chk (0 ≤ x12 ∧ x12 < (List.length ([10, 13, 9] : List UInt8) : Int)) (letE (ix ([10, 13, 9] : List UInt8) x12) (fun x26 => (some (Sum.inr ((((x26).toNat : Nat) : Int), 2, 0)))))) else (some (Sum.inl ())))))))) else (bif ((((x11).toNat : Nat) : Int) == 92) then (some (Sum.inr ((((x11).toNat : Nat) : Int), 2, 0))) else (letE (isMarkP x11) (fun x27 => (bif x27 then (some (Sum.inr ((((x11).toNat : Nat) : Int), 2, 0))) else (bif (decide (x12 ≥ 0)) then (chk (0 ≤ x12 ∧ x12 < (List.length ([10, 13, 9] : List UInt8) : Int)) (letE (ix ([10, 13, 9] : List UInt8) x12) (fun x28 => (some (Sum.inr ((((x28).toNat : Nat) : Int), 2, 0)))))) else (some (Sum.inl ())))))))) (fun j2 => (some (0, 0, 20)))))))))))
def F_unquote (fuel : Nat) (t : (List UInt8)) : Option ((List UInt8) × Int × Int) :=
  (bif (t == ([] : List UInt8)) then (some (([] : List UInt8), 0, 21)) else (chk (0 ≤ (0 : Int) ∧ (0 : Int) < (List.length t : Int)) (letE (ix t (0 : Int)) (fun x1 => (bif ((((x1).toNat : Nat) : Int) != 34) then (some (([] : List UInt8), 0, 21)) else (cutE (τ := (List UInt8)) (loopE (β := (List UInt8) × Int) (fun s1 => (bif (decide (s1.2 < (List.length t : Int))) then (chk (0 ≤ s1.2 ∧ s1.2 < (List.length t : Int)) (letE (ix t s1.2) (fun x2 => (bif ((((x2).toNat : Nat) : Int) == 34) then (chk (-9223372036854775808 ≤ (s1.2 + 1) ∧ (s1.2 + 1) < 9223372036854775808) (some (Sum.inr (Sum.inr (s1.1, (s1.2 + 1), 0))))) else (chk (0 ≤ s1.2 ∧ s1.2 ≤ (List.length t : Int) ∧ (List.length t : Int) ≤ (List.length t : Int)) (letE (sub t s1.2 (List.length t : Int)) (fun x3 => (bindE (F_readbyte x3 QSet.mk) (fun x4 => (bif (x4.2.2 != 0) then (some (Sum.inr (Sum.inr (([] : List UInt8), s1.2, x4.2.2)))) else (chk (0 ≤ x4.1 ∧ x4.1 < 256) (chk ((List.length s1.1 + List.length ([(u8of x4.1)] : List UInt8)) * 1 ≤ 140737488355328) (chk (-9223372036854775808 ≤ (s1.2 + x4.2.1) ∧ (s1.2 + x4.2.1) < 9223372036854775808) (some (Sum.inl ((s1.1 ++ ([(u8of x4.1)] : List UInt8)), (s1.2 + x4.2.1))))))))))))))))) else (some (Sum.inr (Sum.inl (s1.1)))))) fuel (([] : (List UInt8)), 1)) (fun j1 => (some (([] : List UInt8), (List.length t : Int), 21)))))))))
def F_sendw (fuel : Nat) (e : En) : Option (List UInt8) :=
  (bindE (F_quote fuel e.b) (fun x1 => (some x1)))
theorem ent73 : Ent Tryz.prog 73 := enters_of Tryz.func73 (by kernel_rfl) rfl
set_option maxRecDepth 100000 in
set_option maxHeartbeats 4000000 in
theorem sendw_sh (fuel : Nat) (e : En) (r : (List UInt8)) (h : F_sendw fuel e = some r) : Pure (ITP Tryz.prog) Tryz.prog 73 [.agg (Enc.cells (e : En))] (.raw (.string (bs r))) := by
 obtain ⟨d, hd⟩ : ∃ d, Tryz.f73.body = some d := ⟨_, rfl⟩
 refine pure_of mix Tryz.func73 hd ent73 ?_
 cases hd
 unfold F_sendw at h
 refine w_start (by dsimp only [abeginS, Tryz.f73, List.length_cons, List.length_nil, Nat.zero_add, Nat.reduceAdd, Nat.reduceSub, List.replicate, List.cons_append, List.nil_append]) (by dsimp only [St.empty]) ?_
 refine w_seq (w_region ?_)
 refine w_opm (a := .ptr 0 0) (σ'' := ⟨[(41, (Enc.cells (e : En)))], [], [], 0, false⟩) rfl rfl rfl rfl (by dsimp only [aput, List.set]) rfl ?_
 refine w_op (a := .raw (.string (bs ([] : List UInt8)))) rfl rfl rfl rfl (by dsimp only [aput, List.set]) ?_
 refine w_seq (w_region ?_)
 refine w_op (a := .ptr 0 3) rfl rfl rfl rfl (by dsimp only [aput, List.set]) ?_
 refine w_op (a := .raw (.string (bs e.b))) rfl rfl rfl rfl (by dsimp only [aput, List.set]) ?_
 obtain ⟨x1, hx1, h⟩ := bindE_e h
 refine w_callc (args' := [.raw (.string (bs e.b))]) (r := .raw (.string (bs x1))) (quote_sh fuel e.b x1 hx1) rfl rfl (stripL_cons rfl rfl) (okTrimL_cons rfl rfl) (by dsimp only [aput, List.set]) ?_
 refine w_op (a := .raw (.string (bs x1))) rfl rfl rfl rfl (by dsimp only [aput, List.set]) ?_
 exact end_pureF (fun (r : (List UInt8)) => (.raw (.string (bs r)) : AV)) h (a := .raw (.string (bs x1))) rfl rfl rfl
def F_spanw (e : En) : Option (List UInt8) :=
  (chk (-9223372036854775808 ≤ e.fr ∧ e.fr < 9223372036854775808) (letE (Lib.itoa e.fr) (fun x1 => (chk (List.length x1 + List.length ([32] : List UInt8) ≤ 9223372036854775807) (chk (-9223372036854775808 ≤ e.to ∧ e.to < 9223372036854775808) (letE (Lib.itoa e.to) (fun x2 => (chk (List.length (x1 ++ ([32] : List UInt8)) + List.length x2 ≤ 9223372036854775807) (some ((x1 ++ ([32] : List UInt8)) ++ x2))))))))))
theorem ent72 : Ent Tryz.prog 72 := enters_of Tryz.func72 (by kernel_rfl) rfl
set_option maxRecDepth 100000 in
set_option maxHeartbeats 4000000 in
theorem spanw_sh (e : En) (r : (List UInt8)) (h : F_spanw e = some r) : Pure (ITP Tryz.prog) Tryz.prog 72 [.agg (Enc.cells (e : En))] (.raw (.string (bs r))) := by
 obtain ⟨d, hd⟩ : ∃ d, Tryz.f72.body = some d := ⟨_, rfl⟩
 refine pure_of mix Tryz.func72 hd ent72 ?_
 cases hd
 unfold F_spanw at h
 refine w_start (by dsimp only [abeginS, Tryz.f72, List.length_cons, List.length_nil, Nat.zero_add, Nat.reduceAdd, Nat.reduceSub, List.replicate, List.cons_append, List.nil_append]) (by dsimp only [St.empty]) ?_
 refine w_seq (w_region ?_)
 refine w_opm (a := .ptr 0 0) (σ'' := ⟨[(41, (Enc.cells (e : En)))], [], [], 0, false⟩) rfl rfl rfl rfl (by dsimp only [aput, List.set]) rfl ?_
 refine w_op (a := .raw (.string (bs ([] : List UInt8)))) rfl rfl rfl rfl (by dsimp only [aput, List.set]) ?_
 refine w_seq ?_
 refine w_draw (k0 := 0) (id := 1) 7 (by kernel_rfl) (by kernel_rfl) ?_
 refine h_op (a := .ptr 0 1) rfl rfl rfl rfl (by dsimp only [aput, List.set]) ?_
 refine h_op (a := .raw (.int .i64 e.fr)) rfl rfl rfl rfl (by dsimp only [aput, List.set]) ?_
 obtain ⟨g1, h⟩ := chk_e h
 obtain ⟨x1, hx1, h⟩ := letE_e h
 refine h_call (args' := [.raw (.int .i64 e.fr)]) (r := .raw (.string (bs x1))) (by rw [← hx1]; exact (itoa_pure e.fr g1)) rfl rfl rfl (stripL_cons rfl rfl) (okTrimL_cons rfl rfl) (by dsimp only [aput, List.set]) ?_
 obtain ⟨g2, h⟩ := chk_e h
 refine h_op (a := .raw (.string (bs (x1 ++ ([32] : List UInt8))))) rfl rfl rfl (q_stradd g2 rfl rfl rfl) (by dsimp only [aput, List.set]) ?_
 refine h_op (a := .ptr 0 2) rfl rfl rfl rfl (by dsimp only [aput, List.set]) ?_
 refine h_op (a := .raw (.int .i64 e.to)) rfl rfl rfl rfl (by dsimp only [aput, List.set]) ?_
 obtain ⟨g3, h⟩ := chk_e h
 obtain ⟨x2, hx2, h⟩ := letE_e h
 refine h_call (args' := [.raw (.int .i64 e.to)]) (r := .raw (.string (bs x2))) (by rw [← hx2]; exact (itoa_pure e.to g3)) rfl rfl rfl (stripL_cons rfl rfl) (okTrimL_cons rfl rfl) (by dsimp only [aput, List.set]) ?_
 refine h_end ?_
 obtain ⟨g4, h⟩ := chk_e h
 refine w_op (a := .raw (.string (bs ((x1 ++ ([32] : List UInt8)) ++ x2)))) rfl rfl rfl (op_q (q_stradd g4 rfl rfl rfl)) (by dsimp only [aput, List.set]) ?_
 refine w_op (a := .raw (.string (bs ((x1 ++ ([32] : List UInt8)) ++ x2)))) rfl rfl rfl rfl (by dsimp only [aput, List.set]) ?_
 exact end_pureF (fun (r : (List UInt8)) => (.raw (.string (bs r)) : AV)) h (a := .raw (.string (bs ((x1 ++ ([32] : List UInt8)) ++ x2)))) rfl rfl rfl
def F_line (fuel : Nat) (e : En) : Option (List UInt8) :=
  (chk (1 ≤ e.k ∧ e.k ≤ 3) (chk (List.length ((kindAt e.k).w) + List.length ([32] : List UInt8) ≤ 9223372036854775807) (bif (e.k == 1) then (bindE (F_sendw fuel e) (fun x1 => (chk (List.length ((kindAt e.k).w ++ ([32] : List UInt8)) + List.length x1 ≤ 9223372036854775807) (some (((kindAt e.k).w ++ ([32] : List UInt8)) ++ x1))))) else (bindE (F_spanw e) (fun x2 => (chk (List.length ((kindAt e.k).w ++ ([32] : List UInt8)) + List.length x2 ≤ 9223372036854775807) (some (((kindAt e.k).w ++ ([32] : List UInt8)) ++ x2))))))))
theorem ent47 : Ent Tryz.prog 47 := enters_of Tryz.func47 (by kernel_rfl) rfl
set_option maxRecDepth 100000 in
set_option maxHeartbeats 4000000 in
theorem line_sh (fuel : Nat) (e : En) (r : (List UInt8)) (h : F_line fuel e = some r) : Pure (ITP Tryz.prog) Tryz.prog 47 [.agg (Enc.cells (e : En))] (.raw (.string (bs r))) := by
 obtain ⟨d, hd⟩ : ∃ d, Tryz.f47.body = some d := ⟨_, rfl⟩
 refine pure_of mix Tryz.func47 hd ent47 ?_
 cases hd
 unfold F_line at h
 refine w_start (by dsimp only [abeginS, Tryz.f47, List.length_cons, List.length_nil, Nat.zero_add, Nat.reduceAdd, Nat.reduceSub, List.replicate, List.cons_append, List.nil_append]) (by dsimp only [St.empty]) ?_
 refine w_seq (w_region ?_)
 refine w_opm (a := .ptr 0 0) (σ'' := ⟨[(41, (Enc.cells (e : En)))], [], [], 0, false⟩) rfl rfl rfl rfl (by dsimp only [aput, List.set]) rfl ?_
 refine w_op (a := .raw (.string (bs ([] : List UInt8)))) rfl rfl rfl rfl (by dsimp only [aput, List.set]) ?_
 refine w_seq ?_
 refine w_drawB (k0 := 0) (id := 1) 5 (by kernel_rfl) (by kernel_rfl) ?_
 refine hB_call (args' := []) (r := kindsA) kinds_pure rfl rfl rfl rfl rfl rfl (by dsimp only [aput, List.set]) ?_
 refine hB_op (a := .ptr 0 0) rfl rfl rfl rfl rfl (by dsimp only [aput, List.set]) ?_
 refine hB_op (a := .raw (.int .u8 e.k)) rfl rfl rfl rfl rfl (by dsimp only [aput, List.set]) ?_
 obtain ⟨g1, h⟩ := chk_e h
 refine hB_op (a := .agg (Enc.cells ((kindAt e.k) : Kd))) rfl rfl rfl rfl (q_kidx g1 rfl rfl rfl) (by dsimp only [aput, List.set]) ?_
 refine hB_new _ rfl rfl rfl rfl rfl rfl (by dsimp only [List.set]) ?_
 refine hB_doneF (n := 1) rfl (show _ = (⟨[(41, (Enc.cells (e : En))), (98, [.raw (.string (bs [])), .raw .nilFunc])], [], [], 0, false⟩ : St) from rfl) (by dsimp only [List.nil_append, List.cons_append, pendS, List.set, Nat.reduceAdd]) ?_
 refine w_opm (σ'' := ⟨[(41, (Enc.cells (e : En))), (98, (Enc.cells ((kindAt e.k) : Kd)))], [], [], 0, false⟩) rfl rfl rfl (op_storeW (n := 2) rfl rfl rfl rfl rfl rfl rfl rfl (by decide)) (by dsimp only [aput, List.set]) rfl ?_
 refine w_seq ?_
 refine w_draw (k0 := 0) (id := 2) 7 (by kernel_rfl) (by kernel_rfl) ?_
 refine h_op (a := .ptr 1 0) rfl rfl rfl rfl (by dsimp only [aput, List.set]) ?_
 refine h_op (a := .raw (.string (bs ((kindAt e.k).w)))) rfl rfl rfl rfl (by dsimp only [aput, List.set]) ?_
 obtain ⟨g2, h⟩ := chk_e h
 refine h_op (a := .raw (.string (bs ((kindAt e.k).w ++ ([32] : List UInt8))))) rfl rfl rfl (q_stradd g2 rfl rfl rfl) (by dsimp only [aput, List.set]) ?_
 refine h_op (a := .ptr 1 1) rfl rfl rfl rfl (by dsimp only [aput, List.set]) ?_
 refine h_op (a := .clos (kindAt e.k).f []) rfl rfl rfl rfl (by dsimp only [aput, List.set]) ?_
 refine h_op (a := .agg (Enc.cells (e : En))) rfl rfl rfl rfl (by dsimp only [aput, List.set]) ?_
 refine bif_e h (fun hc1 h => ?_) (fun hc1 h => ?_)
 ·
  obtain ⟨x1, hx1, h⟩ := bindE_e h
  refine h_call (args' := [.agg (Enc.cells (e : En))]) (r := .raw (.string (bs x1))) (by rw [kind_f1 hc1]; exact (sendw_sh fuel e x1 hx1)) rfl rfl rfl (stripL_cons (strip_c (clo_agg (Enc.clo _))) rfl) (okTrimL_cons (okTrim_clo _ _ (clo_agg (Enc.clo _))) rfl) (by dsimp only [aput, List.set]) ?_
  refine h_end ?_
  obtain ⟨g3, h⟩ := chk_e h
  refine w_op (a := .raw (.string (bs (((kindAt e.k).w ++ ([32] : List UInt8)) ++ x1)))) rfl rfl rfl (op_q (q_stradd g3 rfl rfl rfl)) (by dsimp only [aput, List.set]) ?_
  refine w_op (a := .raw (.string (bs (((kindAt e.k).w ++ ([32] : List UInt8)) ++ x1)))) rfl rfl rfl rfl (by dsimp only [aput, List.set]) ?_
  exact end_pureF (fun (r : (List UInt8)) => (.raw (.string (bs r)) : AV)) h (a := .raw (.string (bs (((kindAt e.k).w ++ ([32] : List UInt8)) ++ x1)))) rfl rfl rfl
 ·
  obtain ⟨x2, hx2, h⟩ := bindE_e h
  refine h_call (args' := [.agg (Enc.cells (e : En))]) (r := .raw (.string (bs x2))) (by rw [kind_f2 hc1]; exact (spanw_sh e x2 hx2)) rfl rfl rfl (stripL_cons (strip_c (clo_agg (Enc.clo _))) rfl) (okTrimL_cons (okTrim_clo _ _ (clo_agg (Enc.clo _))) rfl) (by dsimp only [aput, List.set]) ?_
  refine h_end ?_
  obtain ⟨g4, h⟩ := chk_e h
  refine w_op (a := .raw (.string (bs (((kindAt e.k).w ++ ([32] : List UInt8)) ++ x2)))) rfl rfl rfl (op_q (q_stradd g4 rfl rfl rfl)) (by dsimp only [aput, List.set]) ?_
  refine w_op (a := .raw (.string (bs (((kindAt e.k).w ++ ([32] : List UInt8)) ++ x2)))) rfl rfl rfl rfl (by dsimp only [aput, List.set]) ?_
  exact end_pureF (fun (r : (List UInt8)) => (.raw (.string (bs r)) : AV)) h (a := .raw (.string (bs (((kindAt e.k).w ++ ([32] : List UInt8)) ++ x2)))) rfl rfl rfl
def F_endw (e : Ed) : Option (List UInt8) :=
  (bif (e.k == 2) then (chk (-9223372036854775808 ≤ e.c ∧ e.c < 9223372036854775808) (letE (Lib.itoa e.c) (fun x1 => (chk (List.length ([101, 120, 105, 116, 32] : List UInt8) + List.length x1 ≤ 9223372036854775807) (some (([101, 120, 105, 116, 32] : List UInt8) ++ x1)))))) else (chk (0 ≤ e.k ∧ e.k < 256) (letE (nameE e.k) (fun x2 => (some x2)))))
theorem ent48 : Ent Tryz.prog 48 := enters_of Tryz.func48 (by kernel_rfl) rfl
set_option maxRecDepth 100000 in
set_option maxHeartbeats 4000000 in
theorem endw_sh (e : Ed) (r : (List UInt8)) (h : F_endw e = some r) : Pure (ITP Tryz.prog) Tryz.prog 48 [.agg (Enc.cells (e : Ed))] (.raw (.string (bs r))) := by
 obtain ⟨d, hd⟩ : ∃ d, Tryz.f48.body = some d := ⟨_, rfl⟩
 refine pure_of mix Tryz.func48 hd ent48 ?_
 cases hd
 unfold F_endw at h
 refine w_start (by dsimp only [abeginS, Tryz.f48, List.length_cons, List.length_nil, Nat.zero_add, Nat.reduceAdd, Nat.reduceSub, List.replicate, List.cons_append, List.nil_append]) (by dsimp only [St.empty]) ?_
 refine w_seq (w_region ?_)
 refine w_opm (a := .ptr 0 0) (σ'' := ⟨[(25, (Enc.cells (e : Ed)))], [], [], 0, false⟩) rfl rfl rfl rfl (by dsimp only [aput, List.set]) rfl ?_
 refine w_op (a := .raw (.string (bs ([] : List UInt8)))) rfl rfl rfl rfl (by dsimp only [aput, List.set]) ?_
 refine w_seq ?_
 refine w_seq (w_region ?_)
 refine w_op (a := .ptr 0 0) rfl rfl rfl rfl (by dsimp only [aput, List.set]) ?_
 refine w_op (a := .raw (.int .u8 e.k)) rfl rfl rfl rfl (by dsimp only [aput, List.set]) ?_
 refine w_op (a := .raw (.bool (e.k == 2))) rfl rfl rfl rfl (by dsimp only [aput, List.set]) ?_
 refine bif_e h (fun hc1 h => ?_) (fun hc1 h => ?_)
 ·
  refine w_condT hc1 rfl ?_
  refine w_seq (w_region ?_)
  refine w_op (a := .ptr 0 1) rfl rfl rfl rfl (by dsimp only [aput, List.set]) ?_
  refine w_op (a := .raw (.int .i64 e.c)) rfl rfl rfl rfl (by dsimp only [aput, List.set]) ?_
  obtain ⟨g1, h⟩ := chk_e h
  obtain ⟨x1, hx1, h⟩ := letE_e h
  refine w_callc (args' := [.raw (.int .i64 e.c)]) (r := .raw (.string (bs x1))) (by rw [← hx1]; exact (itoa_pure e.c g1)) rfl rfl (stripL_cons rfl rfl) (okTrimL_cons rfl rfl) (by dsimp only [aput, List.set]) ?_
  obtain ⟨g2, h⟩ := chk_e h
  refine w_op (a := .raw (.string (bs (([101, 120, 105, 116, 32] : List UInt8) ++ x1)))) rfl rfl rfl (op_q (q_stradd g2 rfl rfl rfl)) (by dsimp only [aput, List.set]) ?_
  refine w_op (a := .raw (.string (bs (([101, 120, 105, 116, 32] : List UInt8) ++ x1)))) rfl rfl rfl rfl (by dsimp only [aput, List.set]) ?_
  exact end_pureF (fun (r : (List UInt8)) => (.raw (.string (bs r)) : AV)) h (a := .raw (.string (bs (([101, 120, 105, 116, 32] : List UInt8) ++ x1)))) rfl rfl rfl
 ·
  refine w_condF hc1 rfl ?_
  refine w_seq (w_region ?_)
  refine w_op (a := .ptr 0 0) rfl rfl rfl rfl (by dsimp only [aput, List.set]) ?_
  refine w_op (a := .raw (.int .u8 e.k)) rfl rfl rfl rfl (by dsimp only [aput, List.set]) ?_
  obtain ⟨g3, h⟩ := chk_e h
  obtain ⟨x2, hx2, h⟩ := letE_e h
  refine w_callc (args' := [.raw (.int .u8 e.k)]) (r := .raw (.string (bs x2))) (by rw [← hx2]; exact (name_pure e.k g3)) rfl rfl (stripL_cons rfl rfl) (okTrimL_cons rfl rfl) (by dsimp only [aput, List.set]) ?_
  refine w_op (a := .raw (.string (bs x2))) rfl rfl rfl rfl (by dsimp only [aput, List.set]) ?_
  exact end_pureF (fun (r : (List UInt8)) => (.raw (.string (bs r)) : AV)) h (a := .raw (.string (bs x2))) rfl rfl rfl
end Go.Ab

