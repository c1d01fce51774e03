/-
  schedule: ScheduleTexts, ScheduleReadsOnly, ScheduleCuts.
-/
import Derived.Test.YtblibgbakbhlkaaDoorZuW7
set_option linter.unusedSimpArgs false
set_option linter.unusedVariables false
namespace Go.Ab
open Go Go.RowKit Go.Fwd Go.Proofs
def F_cuts (fuel : Nat) (l : (List UInt8)) (en : Int) (j : (List UInt8)) (k : (List UInt8)) : Option Bool :=
  (bindE (F_made fuel l en) (fun x1 => (bindE (F_sizes fuel j) (fun x2 => (bindE (F_sizes fuel k) (fun x3 => (bindE (F_cut fuel x1 x2) (fun x4 => (bindE (F_cut fuel x1 x3) (fun x5 => (bindE (F_join fuel x4.1) (fun x6 => (bindE (F_alike fuel x4.1 x5.1) (fun x7 => (chk (-9223372036854775808 ≤ (x4.2 + x5.2) ∧ (x4.2 + x5.2) < 9223372036854775808) (chk (-9223372036854775808 ≤ ((x4.2 + x5.2) + x6.2.2) ∧ ((x4.2 + x5.2) + x6.2.2) < 9223372036854775808) (chk (-9223372036854775808 ≤ (((x4.2 + x5.2) + x6.2.2) + x7.2) ∧ (((x4.2 + x5.2) + x6.2.2) + x7.2) < 9223372036854775808) (bif ((((x4.2 + x5.2) + x6.2.2) + x7.2) != 0) then (some false) else (bif (x6.2.1 != (-1)) then (some false) else (bif (!x7.1) then (some false) else (bindE (F_eqevs fuel x6.1 x1) (fun x8 => (bif (!x8) then (some false) else (cutE (τ := Unit) (loopE (β := Int × Int) (fun s1 => (bif (decide (s1.2 < (List.length x4.1 : Int))) then (cutE (τ := Int) (chk (0 ≤ s1.2 ∧ s1.2 < (List.length x4.1 : Int)) (letE (ix x4.1 s1.2) (fun x9 => (bif (x9.k != 1) then (bif ((List.length x9.l : Int) != 0) then (some (Sum.inr (Sum.inr (Sum.inr false)))) else (some (Sum.inl (s1.1)))) else (cutE (τ := Unit) (bif (decide (s1.1 < (List.length x2 : Int))) then (chk (0 ≤ s1.1 ∧ s1.1 < (List.length x2 : Int)) (bif (decide ((List.length x9.l : Int) > (ix x2 s1.1))) then (some (Sum.inr (Sum.inr (Sum.inr (Sum.inr false))))) else (bif ((List.length x9.l : Int) == 0) then (bif (decide (s1.1 ≥ (List.length x2 : Int))) then (some (Sum.inr (Sum.inr (Sum.inr (Sum.inr false))))) else (chk (0 ≤ s1.1 ∧ s1.1 < (List.length x2 : Int)) (bif ((ix x2 s1.1) != 0) then (some (Sum.inr (Sum.inr (Sum.inr (Sum.inr false))))) else (some (Sum.inl ()))))) else (some (Sum.inl ()))))) else (bif ((List.length x9.l : Int) == 0) then (bif (decide (s1.1 ≥ (List.length x2 : Int))) then (some (Sum.inr (Sum.inr (Sum.inr (Sum.inr false))))) else (chk (0 ≤ s1.1 ∧ s1.1 < (List.length x2 : Int)) (bif ((ix x2 s1.1) != 0) then (some (Sum.inr (Sum.inr (Sum.inr (Sum.inr false))))) else (some (Sum.inl ()))))) else (some (Sum.inl ())))) (fun j3 => (chk (-9223372036854775808 ≤ (s1.1 + 1) ∧ (s1.1 + 1) < 9223372036854775808) (some (Sum.inl ((s1.1 + 1))))))))))) (fun j2 => (chk (-9223372036854775808 ≤ (s1.2 + 1) ∧ (s1.2 + 1) < 9223372036854775808) (some (Sum.inl (j2, (s1.2 + 1))))))) else (some (Sum.inr (Sum.inl ()))))) fuel (0, 0)) (fun j1 => (bindE (F_awake fuel) (fun x10 => (some x10))))))))))))))))))))))))))))
theorem ent5 : Ent Tryd.prog 5 := enters_of Tryd.func5 (by kernel_rfl) rfl
set_option maxRecDepth 100000 in
set_option maxHeartbeats 4000000 in
theorem cuts_sh (fuel : Nat) (l : (List UInt8)) (en : Int) (j : (List UInt8)) (k : (List UInt8)) (r : Bool) (h : F_cuts fuel l en j k = some r) : Pure (ITP Tryd.prog) Tryd.prog 5 [.list (List.length (l : List UInt8)) (Enc.cellsL (l : List UInt8)) .none, .raw (.int .u8 en), .list (List.length (j : List UInt8)) (Enc.cellsL (j : List UInt8)) .none, .list (List.length (k : List UInt8)) (Enc.cellsL (k : List UInt8)) .none] (.raw (.bool r)) := by
 obtain ⟨d, hd⟩ : ∃ d, Tryd.f5.body = some d := ⟨_, rfl⟩
 refine pure_of mix Tryd.func5 hd ent5 ?_
 cases hd
 unfold F_cuts at h
 refine w_start (by dsimp only [abeginS, Tryd.f5, List.length_cons, List.length_nil, Nat.zero_add, Nat.reduceAdd, Nat.reduceSub, List.replicate, List.cons_append, List.nil_append]) (by dsimp only [St.empty]) ?_
 refine w_seq (w_region ?_)
 refine w_op (a := .raw (.bool false)) rfl rfl rfl rfl (by dsimp only [aput, List.set]) ?_
 refine w_seq (w_region ?_)
 refine w_mv ?_
 refine w_mv ?_
 obtain ⟨x1, hx1, h⟩ := bindE_e h
 refine w_callc (args' := [.list (List.length (l : List UInt8)) (Enc.cellsL (l : List UInt8)) .none, .raw (.int .u8 en)]) (r := .list (List.length (x1 : List Ev)) (Enc.cellsL (x1 : List Ev)) .none) (made_sh fuel l en x1 hx1) rfl rfl (stripL_cons (strip_l (Enc.cloL _)) (stripL_cons rfl rfl)) (okTrimL_cons (okTrim_l (Enc.cloL _)) (okTrimL_cons rfl rfl)) (by dsimp only [aput, List.set]) ?_
 refine w_mv ?_
 refine w_seq (w_region ?_)
 refine w_mv ?_
 obtain ⟨x2, hx2, h⟩ := bindE_e h
 refine w_callc (args' := [.list (List.length (j : List UInt8)) (Enc.cellsL (j : List UInt8)) .none]) (r := .list (List.length (x2 : List Int)) (Enc.cellsL (x2 : List Int)) .none) (sizes_sh fuel j x2 hx2) rfl rfl (stripL_cons (strip_l (Enc.cloL _)) rfl) (okTrimL_cons (okTrim_l (Enc.cloL _)) rfl) (by dsimp only [aput, List.set]) ?_
 refine w_mv ?_
 obtain ⟨x3, hx3, h⟩ := bindE_e h
 refine w_callc (args' := [.list (List.length (k : List UInt8)) (Enc.cellsL (k : List UInt8)) .none]) (r := .list (List.length (x3 : List Int)) (Enc.cellsL (x3 : List Int)) .none) (sizes_sh fuel k x3 hx3) rfl rfl (stripL_cons (strip_l (Enc.cloL _)) rfl) (okTrimL_cons (okTrim_l (Enc.cloL _)) rfl) (by dsimp only [aput, List.set]) ?_
 refine w_mv ?_
 refine w_mv ?_
 refine w_seq (w_region ?_)
 refine w_mv ?_
 refine w_mv ?_
 obtain ⟨x4, hx4, h⟩ := bindE_e h
 refine w_callc (args' := [.list (List.length (x1 : List Ev)) (Enc.cellsL (x1 : List Ev)) .none, .list (List.length (x2 : List Int)) (Enc.cellsL (x2 : List Int)) .none]) (r := .tup [.list (List.length (x4.1 : List Ck)) (Enc.cellsL (x4.1 : List Ck)) .none, .raw (.int .i64 x4.2)]) (cut_sh fuel x1 x2 x4 hx4) rfl rfl (stripL_cons (strip_l (Enc.cloL _)) (stripL_cons (strip_l (Enc.cloL _)) rfl)) (okTrimL_cons (okTrim_l (Enc.cloL _)) (okTrimL_cons (okTrim_l (Enc.cloL _)) rfl)) (by dsimp only [aput, List.set]) ?_
 refine w_mv ?_
 refine w_ex ?_
 refine w_ex ?_
 refine w_mv ?_
 refine w_mv ?_
 refine w_seq (w_region ?_)
 refine w_mv ?_
 refine w_mv ?_
 obtain ⟨x5, hx5, h⟩ := bindE_e h
 refine w_callc (args' := [.list (List.length (x1 : List Ev)) (Enc.cellsL (x1 : List Ev)) .none, .list (List.length (x3 : List Int)) (Enc.cellsL (x3 : List Int)) .none]) (r := .tup [.list (List.length (x5.1 : List Ck)) (Enc.cellsL (x5.1 : List Ck)) .none, .raw (.int .i64 x5.2)]) (cut_sh fuel x1 x3 x5 hx5) rfl rfl (stripL_cons (strip_l (Enc.cloL _)) (stripL_cons (strip_l (Enc.cloL _)) rfl)) (okTrimL_cons (okTrim_l (Enc.cloL _)) (okTrimL_cons (okTrim_l (Enc.cloL _)) rfl)) (by dsimp only [aput, List.set]) ?_
 refine w_mv ?_
 refine w_ex ?_
 refine w_ex ?_
 refine w_mv ?_
 refine w_mv ?_
 refine w_seq (w_region ?_)
 refine w_mv ?_
 obtain ⟨x6, hx6, h⟩ := bindE_e h
 refine w_callc (args' := [.list (List.length (x4.1 : List Ck)) (Enc.cellsL (x4.1 : List Ck)) .none]) (r := .tup [.list (List.length (x6.1 : List Ev)) (Enc.cellsL (x6.1 : List Ev)) .none, .raw (.int .i64 x6.2.1), .raw (.int .i64 x6.2.2)]) (join_sh fuel x4.1 x6 hx6) rfl rfl (stripL_cons (strip_l (Enc.cloL _)) rfl) (okTrimL_cons (okTrim_l (Enc.cloL _)) rfl) (by dsimp only [aput, List.set]) ?_
 refine w_mv ?_
 refine w_ex ?_
 refine w_ex ?_
 refine w_ex ?_
 refine w_mv ?_
 refine w_mv ?_
 refine w_mv ?_
 refine w_seq (w_region ?_)
 refine w_mv ?_
 refine w_mv ?_
 obtain ⟨x7, hx7, h⟩ := bindE_e h
 refine w_callc (args' := [.list (List.length (x4.1 : List Ck)) (Enc.cellsL (x4.1 : List Ck)) .none, .list (List.length (x5.1 : List Ck)) (Enc.cellsL (x5.1 : List Ck)) .none]) (r := .tup [.raw (.bool x7.1), .raw (.int .i64 x7.2)]) (alike_sh fuel x4.1 x5.1 x7 hx7) rfl rfl (stripL_cons (strip_l (Enc.cloL _)) (stripL_cons (strip_l (Enc.cloL _)) rfl)) (okTrimL_cons (okTrim_l (Enc.cloL _)) (okTrimL_cons (okTrim_l (Enc.cloL _)) rfl)) (by dsimp only [aput, List.set]) ?_
 refine w_mv ?_
 refine w_ex ?_
 refine w_ex ?_
 refine w_mv ?_
 refine w_mv ?_
 refine w_seq ?_
 refine w_seq (w_region ?_)
 refine w_mv ?_
 refine w_mv ?_
 obtain ⟨g1, h⟩ := chk_e h
 refine w_op (a := .raw (.int .i64 (x4.2 + x5.2))) rfl rfl rfl (op_q (q_add rfl rfl rfl rfl g1.1 g1.2)) (by dsimp only [aput, List.set]) ?_
 refine w_mv ?_
 obtain ⟨g2, h⟩ := chk_e h
 refine w_op (a := .raw (.int .i64 ((x4.2 + x5.2) + x6.2.2))) rfl rfl rfl (op_q (q_add rfl rfl rfl rfl g2.1 g2.2)) (by dsimp only [aput, List.set]) ?_
 refine w_mv ?_
 obtain ⟨g3, h⟩ := chk_e h
 refine w_op (a := .raw (.int .i64 (((x4.2 + x5.2) + x6.2.2) + x7.2))) rfl rfl rfl (op_q (q_add rfl rfl rfl rfl g3.1 g3.2)) (by dsimp only [aput, List.set]) ?_
 refine w_op (a := .raw (.bool ((((x4.2 + x5.2) + x6.2.2) + x7.2) != 0))) rfl rfl rfl rfl (by dsimp only [aput, List.set]) ?_
 refine bif_e h (fun hc1 h => ?_) (fun hc1 h => ?_)
 ·
  refine w_op (a := .raw (.bool true)) rfl rfl rfl (op_q (q_bool rfl hc1)) (by dsimp only [aput, List.set]) ?_
  refine w_pass rfl rfl (by decide) (by dsimp only [aput, List.set]) ?_
  refine w_pass rfl rfl (by decide) (by dsimp only [aput, List.set]) ?_
  refine w_op (a := .raw (.bool true)) rfl rfl rfl rfl (by dsimp only [aput, List.set]) ?_
  refine w_mv ?_
  refine w_pass rfl rfl (by decide) (by dsimp only [aput, List.set]) ?_
  refine w_pass rfl rfl (by decide) (by dsimp only [aput, List.set]) ?_
  refine w_op (a := .raw (.bool true)) rfl rfl rfl rfl (by dsimp only [aput, List.set]) ?_
  refine w_mv ?_
  refine w_pass rfl rfl (by decide) (by dsimp only [aput, List.set]) ?_
  refine w_pass rfl rfl (by decide) (by dsimp only [aput, List.set]) ?_
  refine w_pass rfl rfl (by decide) (by dsimp only [aput, List.set]) ?_
  refine w_pass rfl rfl (by decide) (by dsimp only [aput, List.set]) ?_
  refine w_op (a := .raw (.bool true)) rfl rfl rfl rfl (by dsimp only [aput, List.set]) ?_
  refine w_true rfl ?_
  refine w_seq (w_region ?_)
  refine w_op (a := .raw (.bool false)) rfl rfl rfl rfl (by dsimp only [aput, List.set]) ?_
  exact end_b h
 ·
  refine w_op (a := .raw (.bool false)) rfl rfl rfl (op_q (q_bool rfl hc1)) (by dsimp only [aput, List.set]) ?_
  refine w_met rfl rfl ?_
  refine w_mv ?_
  refine w_met rfl rfl ?_
  refine w_op (a := .raw (.bool (x6.2.1 != (-1)))) rfl rfl rfl rfl (by dsimp only [aput, List.set]) ?_
  refine w_op (a := .raw (.bool (x6.2.1 != (-1)))) rfl rfl rfl rfl (by dsimp only [aput, List.set]) ?_
  refine bif_e h (fun hc2 h => ?_) (fun hc2 h => ?_)
  ·
   refine w_op (a := .raw (.bool true)) rfl rfl rfl (op_q (q_bool rfl hc2)) (by dsimp only [aput, List.set]) ?_
   refine w_pass rfl rfl (by decide) (by dsimp only [aput, List.set]) ?_
   refine w_pass rfl rfl (by decide) (by dsimp only [aput, List.set]) ?_
   refine w_op (a := .raw (.bool true)) rfl rfl rfl rfl (by dsimp only [aput, List.set]) ?_
   refine w_mv ?_
   refine w_pass rfl rfl (by decide) (by dsimp only [aput, List.set]) ?_
   refine w_pass rfl rfl (by decide) (by dsimp only [aput, List.set]) ?_
   refine w_pass rfl rfl (by decide) (by dsimp only [aput, List.set]) ?_
   refine w_pass rfl rfl (by decide) (by dsimp only [aput, List.set]) ?_
   refine w_op (a := .raw (.bool true)) rfl rfl rfl rfl (by dsimp only [aput, List.set]) ?_
   refine w_true rfl ?_
   refine w_seq (w_region ?_)
   refine w_op (a := .raw (.bool false)) rfl rfl rfl rfl (by dsimp only [aput, List.set]) ?_
   exact end_b h
  ·
   refine w_op (a := .raw (.bool false)) rfl rfl rfl (op_q (q_bool rfl hc2)) (by dsimp only [aput, List.set]) ?_
   refine w_met rfl rfl ?_
   refine w_mv ?_
   refine w_met rfl rfl ?_
   refine w_op (a := .raw (.bool (!x7.1))) rfl rfl rfl rfl (by dsimp only [aput, List.set]) ?_
   refine w_op (a := .raw (.bool (!x7.1))) rfl rfl rfl rfl (by dsimp only [aput, List.set]) ?_
   refine bif_e h (fun hc3 h => ?_) (fun hc3 h => ?_)
   ·
    refine w_op (a := .raw (.bool true)) rfl rfl rfl (op_q (q_bool rfl hc3)) (by dsimp only [aput, List.set]) ?_
    refine w_pass rfl rfl (by decide) (by dsimp only [aput, List.set]) ?_
    refine w_pass rfl rfl (by decide) (by dsimp only [aput, List.set]) ?_
    refine w_pass rfl rfl (by decide) (by dsimp only [aput, List.set]) ?_
    refine w_pass rfl rfl (by decide) (by dsimp only [aput, List.set]) ?_
    refine w_op (a := .raw (.bool true)) rfl rfl rfl rfl (by dsimp only [aput, List.set]) ?_
    refine w_true rfl ?_
    refine w_seq (w_region ?_)
    refine w_op (a := .raw (.bool false)) rfl rfl rfl rfl (by dsimp only [aput, List.set]) ?_
    exact end_b h
   ·
    refine w_op (a := .raw (.bool false)) rfl rfl rfl (op_q (q_bool rfl hc3)) (by dsimp only [aput, List.set]) ?_
    refine w_met rfl rfl ?_
    refine w_mv ?_
    refine w_met rfl rfl ?_
    refine w_mv ?_
    refine w_met rfl rfl ?_
    obtain ⟨x8, hx8, h⟩ := bindE_e h
    refine w_callc (args' := [.list (List.length (x6.1 : List Ev)) (Enc.cellsL (x6.1 : List Ev)) .none, .list (List.length (x1 : List Ev)) (Enc.cellsL (x1 : List Ev)) .none]) (r := .raw (.bool x8)) (eqevs_sh fuel x6.1 x1 x8 hx8) rfl rfl (stripL_cons (strip_l (Enc.cloL _)) (stripL_cons (strip_l (Enc.cloL _)) rfl)) (okTrimL_cons (okTrim_l (Enc.cloL _)) (okTrimL_cons (okTrim_l (Enc.cloL _)) rfl)) (by dsimp only [aput, List.set]) ?_
    refine w_met rfl rfl ?_
    refine w_op (a := .raw (.bool (!x8))) rfl rfl rfl rfl (by dsimp only [aput, List.set]) ?_
    refine w_op (a := .raw (.bool (!x8))) rfl rfl rfl rfl (by dsimp only [aput, List.set]) ?_
    refine bif_e h (fun hc4 h => ?_) (fun hc4 h => ?_)
    ·
     refine w_condT hc4 rfl ?_
     refine w_seq (w_region ?_)
     refine w_op (a := .raw (.bool false)) rfl rfl rfl rfl (by dsimp only [aput, List.set]) ?_
     exact end_b h
    ·
     refine w_condF hc4 rfl ?_
     refine w_seq (w_region ?_)
     refine w_op (a := .raw (.int .i64 0)) rfl rfl rfl rfl (by dsimp only [aput, List.set]) ?_
     refine w_cutF h [0, 1, 2, 3, 4, 5, 6, 7, 8, 9, 10, 11, 12, 13, 14, 15, 16, 17, 18, 19, 20, 21, 22, 23, 24, 25, 26, 27, 28, 29, 30, 31, 32, 33, 34, 35, 36, 37, 38, 39, 40, 41, 42, 43, 44, 45, 46, 47, 48, 49, 50, 51, 52, 53, 54, 55, 56, 57, 58, 59, 60, 61, 62, 63, 64, 65, 66, 67, 68, 69, 70, 71, 72, 73, 74, 75, 76, 77, 78, 79, 80, 81, 82, 83, 84, 85, 86, 87, 88, 89, 90, 91, 92, 93, 94, 95, 96, 97, 98, 99, 100, 101, 102, 103, 104, 105, 106, 107, 108, 109, 110, 111, 112, 113, 114, 115, 116, 117, 118, 119, 120, 121, 122, 123, 124, 125, 126] (fun j1 => []) (fun j1 => ⟨[], [], [], 0, false⟩) ?_ ?_
     ·
      intro or1 h hr1
      refine w_seq (w_region ?_)
      refine w_mv ?_
      refine w_op (a := .raw (.int .i64 (List.length x4.1 : Int))) rfl rfl rfl rfl (by dsimp only [aput, List.set]) ?_
      refine w_op (a := .raw (.int .i64 0)) rfl rfl rfl rfl (by dsimp only [aput, List.set]) ?_
      refine w_block ?_
      refine w_loopF h [0, 1, 2, 3, 4, 5, 6, 7, 8, 9, 11, 12, 13, 14, 15, 16, 17, 18, 19, 20, 21, 22, 23, 24, 25, 26, 27, 28, 29, 30, 31, 32, 33, 34, 35, 36, 37, 38, 39, 40, 41, 42, 43, 44, 45, 46, 47, 48, 49, 50, 51, 52, 53, 54, 55, 56, 57, 58, 59, 60, 61, 62, 63, 64, 65, 66, 67, 68, 69, 70, 71, 72, 73, 74, 75, 76, 79, 80, 81, 82, 83, 84, 85, 86, 87, 88, 89, 90, 91, 92, 93, 94, 95, 96, 97, 98, 99, 100, 101, 102, 103, 104, 105, 106, 107, 108, 109, 110, 111, 112, 113, 114, 115, 116, 117, 118, 119, 120, 121, 122, 123, 124, 125, 126] (fun s1 => [(21, .raw (.int .i64 s1.1)), (79, .raw (.int .i64 s1.2))]) (fun s1 => ⟨[], [], [], 0, false⟩) ?_ ?_
      ·
       exact wm_of [false, false, false, false, false, false, false, false, false, false, true, false, false, false, false, false, false, false, false, false, false, true, false, false, false, false, false, false, false, false, false, false, false, false, false, false, false, false, false, false, false, false, false, false, false, false, false, false, false, false, false, false, false, false, false, false, false, false, false, false, false, false, false, false, false, false, false, false, false, false, false, false, false, false, false, false, false, true, true, true, false, false, false, false, false, false, false, false, false, false, false, false, false, false, false, false, false, false, false, false, false, false, false, false, false, false, false, false, false, false, false, false, false, false, false, false, false, false, false, false, false, false, false, false, false, false, false] (by kernel_rfl) (by kernel_rfl)
      ·
       intro s1 p1 h
       refine w_start (by dsimp only [setAll, topAll, List.foldl, List.set]) rfl ?_
       refine w_seq (w_region ?_)
       refine w_op (a := .raw (.bool (decide (s1.2 < (List.length x4.1 : Int))))) rfl rfl rfl rfl (by dsimp only [aput, List.set]) ?_
       refine w_seq ?_
       refine bif_e h (fun hc5 h => ?_) (fun hc5 h => ?_)
       ·
        refine w_condT hc5 rfl ?_
        refine w_cutF h [8, 21, 23, 80, 81, 82, 83, 84, 85, 86, 87, 88, 89, 90, 91, 92, 93, 94, 95, 96, 97, 98, 99, 100, 101, 102, 103, 104, 105, 106, 107, 108, 109, 110, 111, 112, 113, 114, 115, 116, 117, 118, 119, 120, 121, 122, 123, 124] (fun j2 => [(21, .raw (.int .i64 j2))]) (fun j2 => ⟨[], [], [], 0, false⟩) ?_ ?_
        ·
         intro or2 h hr2
         refine w_block ?_
         refine w_seq (w_region ?_)
         obtain ⟨g4, h⟩ := chk_e h
         obtain ⟨x9, hx9, h⟩ := letE_e h
         refine w_op (a := .iptr (Enc.cells x9 ++ Enc.cellsL (List.drop (Int.toNat s1.2 + 1) x4.1))) rfl rfl rfl (op_q (by rw [← hx9]; exact (q_idx (α := Ck) (l := x4.1) g4 rfl rfl rfl rfl rfl))) (by dsimp only [aput, List.set]) ?_
         refine w_op (a := .agg (Enc.cells (x9 : Ck))) rfl rfl rfl rfl (by dsimp only [aput, List.set]) ?_
         refine w_opm (a := .ptr 0 0) (σ'' := ⟨[(47, [.raw (.int .u8 0), .list 0 [] .full])], [], [], 0, false⟩) rfl rfl rfl rfl (by dsimp only [aput, List.set]) rfl ?_
         refine w_opm (σ'' := ⟨[(47, (Enc.cells (x9 : Ck)))], [], [], 0, false⟩) rfl rfl rfl (op_storeW (n := 2) rfl rfl rfl rfl rfl rfl rfl rfl (by decide)) (by dsimp only [aput, List.set]) rfl ?_
         refine w_seq ?_
         refine w_seq (w_region ?_)
         refine w_op (a := .ptr 0 0) rfl rfl rfl rfl (by dsimp only [aput, List.set]) ?_
         refine w_op (a := .raw (.int .u8 x9.k)) rfl rfl rfl rfl (by dsimp only [aput, List.set]) ?_
         refine w_op (a := .raw (.bool (x9.k != 1))) rfl rfl rfl rfl (by dsimp only [aput, List.set]) ?_
         refine bif_e h (fun hc6 h => ?_) (fun hc6 h => ?_)
         ·
          refine w_condT hc6 rfl ?_
          refine w_seq ?_
          refine w_seq (w_region ?_)
          refine w_op (a := .ptr 0 1) rfl rfl rfl rfl (by dsimp only [aput, List.set]) ?_
          refine w_op (a := .list (List.length (x9.l : List UInt8)) (Enc.cellsL (x9.l : List UInt8)) .none) rfl rfl rfl rfl (by dsimp only [aput, List.set]) ?_
          refine w_op (a := .raw (.int .i64 (List.length x9.l : Int))) rfl rfl rfl rfl (by dsimp only [aput, List.set]) ?_
          refine w_op (a := .raw (.bool ((List.length x9.l : Int) != 0))) rfl rfl rfl rfl (by dsimp only [aput, List.set]) ?_
          refine bif_e h (fun hc7 h => ?_) (fun hc7 h => ?_)
          ·
           refine w_condT hc7 rfl ?_
           refine w_seq (w_region ?_)
           refine w_op (a := .raw (.bool false)) rfl rfl rfl rfl (by dsimp only [aput, List.set]) ?_
           replace h := cut_inr h hr2
           refine loop_exit h (fun h => ?_)
           replace h := cut_inr h hr1
           exact end_b h
          ·
           refine w_condF hc7 rfl ?_
           refine cut_done (o := or2) (s1.1) h ?_
           exact wm_trim [true, true, true, true, true, true, true, true, false, true, true, true, true, true, true, true, true, true, true, true, true, true, true, false, true, true, true, true, true, true, true, true, true, true, true, true, true, true, true, true, true, true, true, true, true, true, true, true, true, true, true, true, true, true, true, true, true, true, true, true, true, true, true, true, true, true, true, true, true, true, true, true, true, true, true, true, true, true, true, true, false, false, false, false, false, false, false, false, false, false, false, false, false, false, false, false, false, false, false, false, false, false, false, false, false, false, false, false, false, false, false, false, false, false, false, false, false, false, false, false, false, false, false, false, false, true, true] 0 (by kernel_rfl) (Nat.le_of_ble_eq_true rfl) (okSt_of rfl) (by dsimp only [setAll, topAll, List.foldl, List.set]; exact (okTrimL_cons rfl (okTrimL_cons rfl (okTrimL_cons rfl (okTrimL_cons rfl (okTrimL_cons rfl (okTrimL_cons rfl (okTrimL_cons rfl (okTrimL_cons rfl (okTrimL_cons rfl (okTrimL_cons rfl (okTrimL_cons (okTrim_l (Enc.cloL _)) (okTrimL_cons rfl (okTrimL_cons rfl (okTrimL_cons rfl (okTrimL_cons rfl (okTrimL_cons rfl (okTrimL_cons rfl (okTrimL_cons rfl (okTrimL_cons rfl (okTrimL_cons rfl (okTrimL_cons rfl (okTrimL_cons rfl (okTrimL_cons rfl (okTrimL_cons rfl (okTrimL_cons rfl (okTrimL_cons rfl (okTrimL_cons rfl (okTrimL_cons rfl (okTrimL_cons rfl (okTrimL_cons rfl (okTrimL_cons rfl (okTrimL_cons rfl (okTrimL_cons rfl (okTrimL_cons rfl (okTrimL_cons rfl (okTrimL_cons rfl (okTrimL_cons rfl (okTrimL_cons rfl (okTrimL_cons rfl (okTrimL_cons rfl (okTrimL_cons rfl (okTrimL_cons rfl (okTrimL_cons rfl (okTrimL_cons rfl (okTrimL_cons rfl (okTrimL_cons rfl (okTrimL_cons rfl (okTrimL_cons rfl (okTrimL_cons rfl (okTrimL_cons rfl (okTrimL_cons rfl (okTrimL_cons rfl (okTrimL_cons rfl (okTrimL_cons rfl (okTrimL_cons rfl (okTrimL_cons rfl (okTrimL_cons rfl (okTrimL_cons rfl (okTrimL_cons rfl (okTrimL_cons rfl (okTrimL_cons rfl (okTrimL_cons rfl (okTrimL_cons rfl (okTrimL_cons rfl (okTrimL_cons rfl (okTrimL_cons rfl (okTrimL_cons rfl (okTrimL_cons rfl (okTrimL_cons rfl (okTrimL_cons rfl (okTrimL_cons rfl (okTrimL_cons rfl (okTrimL_cons rfl (okTrimL_cons rfl (okTrimL_cons rfl (okTrimL_cons rfl (okTrimL_cons rfl (okTrimL_cons (okTrim_l (Enc.cloL _)) (okTrimL_cons rfl (okTrimL_cons rfl (okTrimL_cons rfl (okTrimL_cons rfl (okTrimL_cons rfl (okTrimL_cons rfl (okTrimL_cons rfl (okTrimL_cons rfl (okTrimL_cons rfl (okTrimL_cons rfl (okTrimL_cons rfl (okTrimL_cons rfl (okTrimL_cons rfl (okTrimL_cons rfl (okTrimL_cons rfl (okTrimL_cons rfl (okTrimL_cons rfl (okTrimL_cons rfl (okTrimL_cons rfl (okTrimL_cons rfl (okTrimL_cons rfl (okTrimL_cons rfl (okTrimL_cons rfl (okTrimL_cons rfl (okTrimL_cons rfl (okTrimL_cons rfl (okTrimL_cons rfl (okTrimL_cons rfl (okTrimL_cons rfl (okTrimL_cons rfl (okTrimL_cons rfl (okTrimL_cons rfl (okTrimL_cons rfl (okTrimL_cons rfl (okTrimL_cons rfl (okTrimL_cons rfl (okTrimL_cons rfl (okTrimL_cons rfl (okTrimL_cons rfl (okTrimL_cons rfl (okTrimL_cons rfl (okTrimL_cons rfl (okTrimL_cons rfl (okTrimL_cons rfl (okTrimL_cons rfl (okTrimL_cons rfl (okTrimL_cons rfl (okTrimL_cons rfl (okTrimL_cons rfl rfl)))))))))))))))))))))))))))))))))))))))))))))))))))))))))))))))))))))))))))))))))))))))))))))))))))))))))))))))))))))))))))))))) (by kernel_rfl)
         ·
          refine w_condF hc6 rfl ?_
          refine w_cutF h [8, 23, 80, 81, 82, 83, 84, 85, 90, 91, 92, 93, 94, 95, 96, 97, 98, 99, 100, 101, 102, 103, 104, 105, 106, 107, 108, 109, 110, 111, 112, 113, 114, 115, 116, 117, 118, 119, 120, 121, 122] (fun j3 => []) (fun j3 => ⟨[(47, (Enc.cells (x9 : Ck)))], [], [], 0, false⟩) ?_ ?_
          ·
           intro or3 h hr3
           refine w_seq ?_
           refine w_draw (k0 := 0) (id := 16) 27 (by kernel_rfl) (by kernel_rfl) ?_
           refine h_mv ?_
           refine h_mv ?_
           refine h_op (a := .raw (.int .i64 (List.length x2 : Int))) rfl rfl rfl rfl (by dsimp only [aput, List.set]) ?_
           refine h_op (a := .raw (.bool (decide (s1.1 < (List.length x2 : Int))))) rfl rfl rfl rfl (by dsimp only [aput, List.set]) ?_
           refine bif_e h (fun hc8 h => ?_) (fun hc8 h => ?_)
           ·
            refine h_op (a := .raw (.bool true)) rfl rfl rfl (q_bool rfl hc8) (by dsimp only [aput, List.set]) ?_
            refine h_met rfl rfl ?_
            refine h_op (a := .ptr 0 1) rfl rfl rfl rfl (by dsimp only [aput, List.set]) ?_
            refine h_met rfl rfl ?_
            refine h_op (a := .list (List.length (x9.l : List UInt8)) (Enc.cellsL (x9.l : List UInt8)) .none) rfl rfl rfl rfl (by dsimp only [aput, List.set]) ?_
            refine h_met rfl rfl ?_
            refine h_op (a := .raw (.int .i64 (List.length x9.l : Int))) rfl rfl rfl rfl (by dsimp only [aput, List.set]) ?_
            refine h_met rfl rfl ?_
            refine h_mv ?_
            refine h_met rfl rfl ?_
            refine h_mv ?_
            refine h_met rfl rfl ?_
            obtain ⟨g5, h⟩ := chk_e h
            refine h_op (a := .iptr (Enc.cells (ix x2 s1.1) ++ Enc.cellsL (List.drop (Int.toNat s1.1 + 1) x2))) rfl rfl rfl (q_idx (α := Int) (l := x2) g5 rfl rfl rfl rfl rfl) (by dsimp only [aput, List.set]) ?_
            refine h_met rfl rfl ?_
            refine h_op (a := .raw (.int .i64 (ix x2 s1.1))) rfl rfl rfl rfl (by dsimp only [aput, List.set]) ?_
            refine h_met rfl rfl ?_
            refine h_op (a := .raw (.bool (decide ((List.length x9.l : Int) > (ix x2 s1.1))))) rfl rfl rfl rfl (by dsimp only [aput, List.set]) ?_
            refine h_op (a := .raw (.bool (decide ((List.length x9.l : Int) > (ix x2 s1.1))))) rfl rfl rfl rfl (by dsimp only [aput, List.set]) ?_
            refine bif_e h (fun hc9 h => ?_) (fun hc9 h => ?_)
            ·
             refine h_op (a := .raw (.bool true)) rfl rfl rfl (q_bool rfl hc9) (by dsimp only [aput, List.set]) ?_
             refine h_pass rfl rfl rfl (by decide) (by dsimp only [aput, List.set]) ?_
             refine h_pass rfl rfl rfl (by decide) (by dsimp only [aput, List.set]) ?_
             refine h_pass rfl rfl rfl (by decide) (by dsimp only [aput, List.set]) ?_
             refine h_pass rfl rfl rfl (by decide) (by dsimp only [aput, List.set]) ?_
             refine h_pass rfl rfl rfl (by decide) (by dsimp only [aput, List.set]) ?_
             refine h_pass rfl rfl rfl (by decide) (by dsimp only [aput, List.set]) ?_
             refine h_pass rfl rfl rfl (by decide) (by dsimp only [aput, List.set]) ?_
             refine h_pass rfl rfl rfl (by decide) (by dsimp only [aput, List.set]) ?_
             refine h_pass rfl rfl rfl (by decide) (by dsimp only [aput, List.set]) ?_
             refine h_pass rfl rfl rfl (by decide) (by dsimp only [aput, List.set]) ?_
             refine h_pass rfl rfl rfl (by decide) (by dsimp only [aput, List.set]) ?_
             refine h_pass rfl rfl rfl (by decide) (by dsimp only [aput, List.set]) ?_
             refine h_end ?_
             refine w_pass rfl rfl (by decide) (by dsimp only [aput, List.set]) ?_
             refine w_pass rfl rfl (by decide) (by dsimp only [aput, List.set]) ?_
             refine w_pass rfl rfl (by decide) (by dsimp only [aput, List.set]) ?_
             refine w_pass rfl rfl (by decide) (by dsimp only [aput, List.set]) ?_
             refine w_pass rfl rfl (by decide) (by dsimp only [aput, List.set]) ?_
             refine w_op (a := .raw (.bool true)) rfl rfl rfl rfl (by dsimp only [aput, List.set]) ?_
             refine w_true rfl ?_
             refine w_seq (w_region ?_)
             refine w_op (a := .raw (.bool false)) rfl rfl rfl rfl (by dsimp only [aput, List.set]) ?_
             replace h := cut_inr h hr3
             replace h := cut_inr h hr2
             refine loop_exit h (fun h => ?_)
             replace h := cut_inr h hr1
             exact end_b h
            ·
             refine h_op (a := .raw (.bool false)) rfl rfl rfl (q_bool rfl hc9) (by dsimp only [aput, List.set]) ?_
             refine h_met rfl rfl ?_
             refine h_op (a := .ptr 0 1) rfl rfl rfl rfl (by dsimp only [aput, List.set]) ?_
             refine h_met rfl rfl ?_
             refine h_op (a := .list (List.length (x9.l : List UInt8)) (Enc.cellsL (x9.l : List UInt8)) .none) rfl rfl rfl rfl (by dsimp only [aput, List.set]) ?_
             refine h_met rfl rfl ?_
             refine h_op (a := .raw (.int .i64 (List.length x9.l : Int))) rfl rfl rfl rfl (by dsimp only [aput, List.set]) ?_
             refine h_met rfl rfl ?_
             refine h_op (a := .raw (.bool ((List.length x9.l : Int) == 0))) rfl rfl rfl rfl (by dsimp only [aput, List.set]) ?_
             refine h_met rfl rfl ?_
             refine bif_e h (fun hc10 h => ?_) (fun hc10 h => ?_)
             ·
              refine h_op (a := .raw (.bool true)) rfl rfl rfl (q_bool rfl hc10) (by dsimp only [aput, List.set]) ?_
              refine h_met rfl rfl ?_
              refine h_mv ?_
              refine h_met rfl rfl ?_
              refine h_mv ?_
              refine h_met rfl rfl ?_
              refine h_op (a := .raw (.int .i64 (List.length x2 : Int))) rfl rfl rfl rfl (by dsimp only [aput, List.set]) ?_
              refine h_met rfl rfl ?_
              refine h_op (a := .raw (.bool (decide (s1.1 ≥ (List.length x2 : Int))))) rfl rfl rfl rfl (by dsimp only [aput, List.set]) ?_
              refine h_met rfl rfl ?_
              refine bif_e h (fun hc11 h => ?_) (fun hc11 h => ?_)
              ·
               refine h_op (a := .raw (.bool true)) rfl rfl rfl (q_bool rfl hc11) (by dsimp only [aput, List.set]) ?_
               refine h_pass rfl rfl rfl (by decide) (by dsimp only [aput, List.set]) ?_
               refine h_pass rfl rfl rfl (by decide) (by dsimp only [aput, List.set]) ?_
               refine h_end ?_
               refine w_pass rfl rfl (by decide) (by dsimp only [aput, List.set]) ?_
               refine w_pass rfl rfl (by decide) (by dsimp only [aput, List.set]) ?_
               refine w_pass rfl rfl (by decide) (by dsimp only [aput, List.set]) ?_
               refine w_met rfl rfl ?_
               refine w_op (a := .raw (.bool true)) rfl rfl rfl rfl (by dsimp only [aput, List.set]) ?_
               refine w_met rfl rfl ?_
               refine w_op (a := .raw (.bool true)) rfl rfl rfl rfl (by dsimp only [aput, List.set]) ?_
               refine w_op (a := .raw (.bool true)) rfl rfl rfl rfl (by dsimp only [aput, List.set]) ?_
               refine w_true rfl ?_
               refine w_seq (w_region ?_)
               refine w_op (a := .raw (.bool false)) rfl rfl rfl rfl (by dsimp only [aput, List.set]) ?_
               replace h := cut_inr h hr3
               replace h := cut_inr h hr2
               refine loop_exit h (fun h => ?_)
               replace h := cut_inr h hr1
               exact end_b h
              ·
               refine h_op (a := .raw (.bool false)) rfl rfl rfl (q_bool rfl hc11) (by dsimp only [aput, List.set]) ?_
               refine h_met rfl rfl ?_
               refine h_mv ?_
               refine h_met rfl rfl ?_
               refine h_mv ?_
               refine h_end ?_
               refine w_met rfl rfl ?_
               obtain ⟨g6, h⟩ := chk_e h
               refine w_op (a := .iptr (Enc.cells (ix x2 s1.1) ++ Enc.cellsL (List.drop (Int.toNat s1.1 + 1) x2))) rfl rfl rfl (op_q (q_idx (α := Int) (l := x2) g6 rfl rfl rfl rfl rfl)) (by dsimp only [aput, List.set]) ?_
               refine w_met rfl rfl ?_
               refine w_op (a := .raw (.int .i64 (ix x2 s1.1))) rfl rfl rfl rfl (by dsimp only [aput, List.set]) ?_
               refine w_met rfl rfl ?_
               refine w_op (a := .raw (.bool ((ix x2 s1.1) != 0))) rfl rfl rfl rfl (by dsimp only [aput, List.set]) ?_
               refine w_met rfl rfl ?_
               refine w_op (a := .raw (.bool ((ix x2 s1.1) != 0))) rfl rfl rfl rfl (by dsimp only [aput, List.set]) ?_
               refine w_met rfl rfl ?_
               refine w_op (a := .raw (.bool ((ix x2 s1.1) != 0))) rfl rfl rfl rfl (by dsimp only [aput, List.set]) ?_
               refine w_op (a := .raw (.bool ((ix x2 s1.1) != 0))) rfl rfl rfl rfl (by dsimp only [aput, List.set]) ?_
               refine bif_e h (fun hc12 h => ?_) (fun hc12 h => ?_)
               ·
                refine w_condT hc12 rfl ?_
                refine w_seq (w_region ?_)
                refine w_op (a := .raw (.bool false)) rfl rfl rfl rfl (by dsimp only [aput, List.set]) ?_
                replace h := cut_inr h hr3
                replace h := cut_inr h hr2
                refine loop_exit h (fun h => ?_)
                replace h := cut_inr h hr1
                exact end_b h
               ·
                refine w_condF hc12 rfl ?_
                refine cut_done (o := or3) () h ?_
                exact wm_of [true, true, true, true, true, true, true, true, false, true, true, true, true, true, true, true, true, true, true, true, true, true, true, false, true, true, true, true, true, true, true, true, true, true, true, true, true, true, true, true, true, true, true, true, true, true, true, true, true, true, true, true, true, true, true, true, true, true, true, true, true, true, true, true, true, true, true, true, true, true, true, true, true, true, true, true, true, true, true, true, false, false, false, false, false, false, true, true, true, true, false, false, false, false, false, false, false, false, false, false, false, false, false, false, false, false, false, false, false, false, false, false, false, false, false, false, false, false, false, false, false, false, false, true, true, true, true] (by kernel_rfl) (by kernel_rfl)
             ·
              refine h_op (a := .raw (.bool false)) rfl rfl rfl (q_bool rfl hc10) (by dsimp only [aput, List.set]) ?_
              refine h_pass rfl rfl rfl (by decide) (by dsimp only [aput, List.set]) ?_
              refine h_pass rfl rfl rfl (by decide) (by dsimp only [aput, List.set]) ?_
              refine h_pass rfl rfl rfl (by decide) (by dsimp only [aput, List.set]) ?_
              refine h_pass rfl rfl rfl (by decide) (by dsimp only [aput, List.set]) ?_
              refine h_pass rfl rfl rfl (by decide) (by dsimp only [aput, List.set]) ?_
              refine h_pass rfl rfl rfl (by decide) (by dsimp only [aput, List.set]) ?_
              refine h_pass rfl rfl rfl (by decide) (by dsimp only [aput, List.set]) ?_
              refine h_end ?_
              refine w_pass rfl rfl (by decide) (by dsimp only [aput, List.set]) ?_
              refine w_pass rfl rfl (by decide) (by dsimp only [aput, List.set]) ?_
              refine w_pass rfl rfl (by decide) (by dsimp only [aput, List.set]) ?_
              refine w_pass rfl rfl (by decide) (by dsimp only [aput, List.set]) ?_
              refine w_met rfl rfl ?_
              refine w_op (a := .raw (.bool false)) rfl rfl rfl rfl (by dsimp only [aput, List.set]) ?_
              refine w_op (a := .raw (.bool false)) rfl rfl rfl rfl (by dsimp only [aput, List.set]) ?_
              refine w_false rfl ?_
              refine cut_done (o := or3) () h ?_
              exact wm_of [true, true, true, true, true, true, true, true, false, true, true, true, true, true, true, true, true, true, true, true, true, true, true, false, true, true, true, true, true, true, true, true, true, true, true, true, true, true, true, true, true, true, true, true, true, true, true, true, true, true, true, true, true, true, true, true, true, true, true, true, true, true, true, true, true, true, true, true, true, true, true, true, true, true, true, true, true, true, true, true, false, false, false, false, false, false, true, true, true, true, false, false, false, false, false, false, false, false, false, false, false, false, false, false, false, false, false, false, false, false, false, false, false, false, false, false, false, false, false, false, false, false, false, true, true, true, true] (by kernel_rfl) (by kernel_rfl)
           ·
            refine h_op (a := .raw (.bool false)) rfl rfl rfl (q_bool rfl hc8) (by dsimp only [aput, List.set]) ?_
            refine h_pass rfl rfl rfl (by decide) (by dsimp only [aput, List.set]) ?_
            refine h_pass rfl rfl rfl (by decide) (by dsimp only [aput, List.set]) ?_
            refine h_pass rfl rfl rfl (by decide) (by dsimp only [aput, List.set]) ?_
            refine h_pass rfl rfl rfl (by decide) (by dsimp only [aput, List.set]) ?_
            refine h_pass rfl rfl rfl (by decide) (by dsimp only [aput, List.set]) ?_
            refine h_pass rfl rfl rfl (by decide) (by dsimp only [aput, List.set]) ?_
            refine h_pass rfl rfl rfl (by decide) (by dsimp only [aput, List.set]) ?_
            refine h_pass rfl rfl rfl (by decide) (by dsimp only [aput, List.set]) ?_
            refine h_op (a := .raw (.bool false)) rfl rfl rfl rfl (by dsimp only [aput, List.set]) ?_
            refine h_mv ?_
            refine h_met rfl rfl ?_
            refine h_op (a := .ptr 0 1) rfl rfl rfl rfl (by dsimp only [aput, List.set]) ?_
            refine h_met rfl rfl ?_
            refine h_op (a := .list (List.length (x9.l : List UInt8)) (Enc.cellsL (x9.l : List UInt8)) .none) rfl rfl rfl rfl (by dsimp only [aput, List.set]) ?_
            refine h_met rfl rfl ?_
            refine h_op (a := .raw (.int .i64 (List.length x9.l : Int))) rfl rfl rfl rfl (by dsimp only [aput, List.set]) ?_
            refine h_met rfl rfl ?_
            refine h_op (a := .raw (.bool ((List.length x9.l : Int) == 0))) rfl rfl rfl rfl (by dsimp only [aput, List.set]) ?_
            refine h_met rfl rfl ?_
            refine bif_e h (fun hc13 h => ?_) (fun hc13 h => ?_)
            ·
             refine h_op (a := .raw (.bool true)) rfl rfl rfl (q_bool rfl hc13) (by dsimp only [aput, List.set]) ?_
             refine h_met rfl rfl ?_
             refine h_mv ?_
             refine h_met rfl rfl ?_
             refine h_mv ?_
             refine h_met rfl rfl ?_
             refine h_op (a := .raw (.int .i64 (List.length x2 : Int))) rfl rfl rfl rfl (by dsimp only [aput, List.set]) ?_
             refine h_met rfl rfl ?_
             refine h_op (a := .raw (.bool (decide (s1.1 ≥ (List.length x2 : Int))))) rfl rfl rfl rfl (by dsimp only [aput, List.set]) ?_
             refine h_met rfl rfl ?_
             refine bif_e h (fun hc14 h => ?_) (fun hc14 h => ?_)
             ·
              refine h_op (a := .raw (.bool true)) rfl rfl rfl (q_bool rfl hc14) (by dsimp only [aput, List.set]) ?_
              refine h_pass rfl rfl rfl (by decide) (by dsimp only [aput, List.set]) ?_
              refine h_pass rfl rfl rfl (by decide) (by dsimp only [aput, List.set]) ?_
              refine h_end ?_
              refine w_pass rfl rfl (by decide) (by dsimp only [aput, List.set]) ?_
              refine w_pass rfl rfl (by decide) (by dsimp only [aput, List.set]) ?_
              refine w_pass rfl rfl (by decide) (by dsimp only [aput, List.set]) ?_
              refine w_met rfl rfl ?_
              refine w_op (a := .raw (.bool true)) rfl rfl rfl rfl (by dsimp only [aput, List.set]) ?_
              refine w_met rfl rfl ?_
              refine w_op (a := .raw (.bool true)) rfl rfl rfl rfl (by dsimp only [aput, List.set]) ?_
              refine w_op (a := .raw (.bool true)) rfl rfl rfl rfl (by dsimp only [aput, List.set]) ?_
              refine w_true rfl ?_
              refine w_seq (w_region ?_)
              refine w_op (a := .raw (.bool false)) rfl rfl rfl rfl (by dsimp only [aput, List.set]) ?_
              replace h := cut_inr h hr3
              replace h := cut_inr h hr2
              refine loop_exit h (fun h => ?_)
              replace h := cut_inr h hr1
              exact end_b h
             ·
              refine h_op (a := .raw (.bool false)) rfl rfl rfl (q_bool rfl hc14) (by dsimp only [aput, List.set]) ?_
              refine h_met rfl rfl ?_
              refine h_mv ?_
              refine h_met rfl rfl ?_
              refine h_mv ?_
              refine h_end ?_
              refine w_met rfl rfl ?_
              obtain ⟨g7, h⟩ := chk_e h
              refine w_op (a := .iptr (Enc.cells (ix x2 s1.1) ++ Enc.cellsL (List.drop (Int.toNat s1.1 + 1) x2))) rfl rfl rfl (op_q (q_idx (α := Int) (l := x2) g7 rfl rfl rfl rfl rfl)) (by dsimp only [aput, List.set]) ?_
              refine w_met rfl rfl ?_
              refine w_op (a := .raw (.int .i64 (ix x2 s1.1))) rfl rfl rfl rfl (by dsimp only [aput, List.set]) ?_
              refine w_met rfl rfl ?_
              refine w_op (a := .raw (.bool ((ix x2 s1.1) != 0))) rfl rfl rfl rfl (by dsimp only [aput, List.set]) ?_
              refine w_met rfl rfl ?_
              refine w_op (a := .raw (.bool ((ix x2 s1.1) != 0))) rfl rfl rfl rfl (by dsimp only [aput, List.set]) ?_
              refine w_met rfl rfl ?_
              refine w_op (a := .raw (.bool ((ix x2 s1.1) != 0))) rfl rfl rfl rfl (by dsimp only [aput, List.set]) ?_
              refine w_op (a := .raw (.bool ((ix x2 s1.1) != 0))) rfl rfl rfl rfl (by dsimp only [aput, List.set]) ?_
              refine bif_e h (fun hc15 h => ?_) (fun hc15 h => ?_)
              ·
               refine w_condT hc15 rfl ?_
               refine w_seq (w_region ?_)
               refine w_op (a := .raw (.bool false)) rfl rfl rfl rfl (by dsimp only [aput, List.set]) ?_
               replace h := cut_inr h hr3
               replace h := cut_inr h hr2
               refine loop_exit h (fun h => ?_)
               replace h := cut_inr h hr1
               exact end_b h
              ·
               refine w_condF hc15 rfl ?_
               refine cut_done (o := or3) () h ?_
               exact wm_of [true, true, true, true, true, true, true, true, false, true, true, true, true, true, true, true, true, true, true, true, true, true, true, false, true, true, true, true, true, true, true, true, true, true, true, true, true, true, true, true, true, true, true, true, true, true, true, true, true, true, true, true, true, true, true, true, true, true, true, true, true, true, true, true, true, true, true, true, true, true, true, true, true, true, true, true, true, true, true, true, false, false, false, false, false, false, true, true, true, true, false, false, false, false, false, false, false, false, false, false, false, false, false, false, false, false, false, false, false, false, false, false, false, false, false, false, false, false, false, false, false, false, false, true, true, true, true] (by kernel_rfl) (by kernel_rfl)
            ·
             refine h_op (a := .raw (.bool false)) rfl rfl rfl (q_bool rfl hc13) (by dsimp only [aput, List.set]) ?_
             refine h_pass rfl rfl rfl (by decide) (by dsimp only [aput, List.set]) ?_
             refine h_pass rfl rfl rfl (by decide) (by dsimp only [aput, List.set]) ?_
             refine h_pass rfl rfl rfl (by decide) (by dsimp only [aput, List.set]) ?_
             refine h_pass rfl rfl rfl (by decide) (by dsimp only [aput, List.set]) ?_
             refine h_pass rfl rfl rfl (by decide) (by dsimp only [aput, List.set]) ?_
             refine h_pass rfl rfl rfl (by decide) (by dsimp only [aput, List.set]) ?_
             refine h_pass rfl rfl rfl (by decide) (by dsimp only [aput, List.set]) ?_
             refine h_end ?_
             refine w_pass rfl rfl (by decide) (by dsimp only [aput, List.set]) ?_
             refine w_pass rfl rfl (by decide) (by dsimp only [aput, List.set]) ?_
             refine w_pass rfl rfl (by decide) (by dsimp only [aput, List.set]) ?_
             refine w_pass rfl rfl (by decide) (by dsimp only [aput, List.set]) ?_
             refine w_met rfl rfl ?_
             refine w_op (a := .raw (.bool false)) rfl rfl rfl rfl (by dsimp only [aput, List.set]) ?_
             refine w_op (a := .raw (.bool false)) rfl rfl rfl rfl (by dsimp only [aput, List.set]) ?_
             refine w_false rfl ?_
             refine cut_done (o := or3) () h ?_
             exact wm_of [true, true, true, true, true, true, true, true, false, true, true, true, true, true, true, true, true, true, true, true, true, true, true, false, true, true, true, true, true, true, true, true, true, true, true, true, true, true, true, true, true, true, true, true, true, true, true, true, true, true, true, true, true, true, true, true, true, true, true, true, true, true, true, true, true, true, true, true, true, true, true, true, true, true, true, true, true, true, true, true, false, false, false, false, false, false, true, true, true, true, false, false, false, false, false, false, false, false, false, false, false, false, false, false, false, false, false, false, false, false, false, false, false, false, false, false, false, false, false, false, false, false, false, true, true, true, true] (by kernel_rfl) (by kernel_rfl)
          ·
           intro j3 h
           refine w_start (by dsimp only [setAll, topAll, List.foldl, List.set]) rfl ?_
           refine w_region (k0 := 0) (id := 18) ?_
           refine w_mv ?_
           obtain ⟨g8, h⟩ := chk_e h
           refine w_op (a := .raw (.int .i64 (s1.1 + 1))) rfl rfl rfl (op_q (q_add rfl rfl rfl rfl g8.1 g8.2)) (by dsimp only [aput, List.set]) ?_
           refine w_mv ?_
           refine cut_done (o := or2) ((s1.1 + 1)) h ?_
           exact wm_trim [true, true, true, true, true, true, true, true, false, true, true, true, true, true, true, true, true, true, true, true, true, true, true, false, true, true, true, true, true, true, true, true, true, true, true, true, true, true, true, true, true, true, true, true, true, true, true, true, true, true, true, true, true, true, true, true, true, true, true, true, true, true, true, true, true, true, true, true, true, true, true, true, true, true, true, true, true, true, true, true, false, false, false, false, false, false, false, false, false, false, false, false, false, false, false, false, false, false, false, false, false, false, false, false, false, false, false, false, false, false, false, false, false, false, false, false, false, false, false, false, false, false, false, false, false, true, true] 0 (by kernel_rfl) (Nat.le_of_ble_eq_true rfl) (okSt_of rfl) (by dsimp only [setAll, topAll, List.foldl, List.set]; exact (okTrimL_cons rfl (okTrimL_cons rfl (okTrimL_cons rfl (okTrimL_cons rfl (okTrimL_cons rfl (okTrimL_cons rfl (okTrimL_cons rfl (okTrimL_cons rfl (okTrimL_cons rfl (okTrimL_cons rfl (okTrimL_cons (okTrim_l (Enc.cloL _)) (okTrimL_cons rfl (okTrimL_cons rfl (okTrimL_cons rfl (okTrimL_cons rfl (okTrimL_cons rfl (okTrimL_cons rfl (okTrimL_cons rfl (okTrimL_cons rfl (okTrimL_cons rfl (okTrimL_cons rfl (okTrimL_cons rfl (okTrimL_cons rfl (okTrimL_cons rfl (okTrimL_cons rfl (okTrimL_cons rfl (okTrimL_cons rfl (okTrimL_cons rfl (okTrimL_cons rfl (okTrimL_cons rfl (okTrimL_cons rfl (okTrimL_cons rfl (okTrimL_cons rfl (okTrimL_cons rfl (okTrimL_cons rfl (okTrimL_cons rfl (okTrimL_cons rfl (okTrimL_cons rfl (okTrimL_cons rfl (okTrimL_cons rfl (okTrimL_cons rfl (okTrimL_cons rfl (okTrimL_cons rfl (okTrimL_cons rfl (okTrimL_cons rfl (okTrimL_cons rfl (okTrimL_cons rfl (okTrimL_cons rfl (okTrimL_cons rfl (okTrimL_cons rfl (okTrimL_cons rfl (okTrimL_cons rfl (okTrimL_cons rfl (okTrimL_cons rfl (okTrimL_cons rfl (okTrimL_cons rfl (okTrimL_cons rfl (okTrimL_cons rfl (okTrimL_cons rfl (okTrimL_cons rfl (okTrimL_cons rfl (okTrimL_cons rfl (okTrimL_cons rfl (okTrimL_cons rfl (okTrimL_cons rfl (okTrimL_cons rfl (okTrimL_cons rfl (okTrimL_cons rfl (okTrimL_cons rfl (okTrimL_cons rfl (okTrimL_cons rfl (okTrimL_cons rfl (okTrimL_cons rfl (okTrimL_cons rfl (okTrimL_cons rfl (okTrimL_cons rfl (okTrimL_cons rfl (okTrimL_cons (okTrim_l (Enc.cloL _)) (okTrimL_cons rfl (okTrimL_cons rfl (okTrimL_cons rfl (okTrimL_cons rfl (okTrimL_cons rfl (okTrimL_cons rfl (okTrimL_cons rfl (okTrimL_cons rfl (okTrimL_cons rfl (okTrimL_cons rfl (okTrimL_cons rfl (okTrimL_cons rfl (okTrimL_cons rfl (okTrimL_cons rfl (okTrimL_cons rfl (okTrimL_cons rfl (okTrimL_cons rfl (okTrimL_cons rfl (okTrimL_cons rfl (okTrimL_cons rfl (okTrimL_cons rfl (okTrimL_cons rfl (okTrimL_cons rfl (okTrimL_cons rfl (okTrimL_cons rfl (okTrimL_cons rfl (okTrimL_cons rfl (okTrimL_cons rfl (okTrimL_cons rfl (okTrimL_cons rfl (okTrimL_cons rfl (okTrimL_cons rfl (okTrimL_cons rfl (okTrimL_cons rfl (okTrimL_cons rfl (okTrimL_cons rfl (okTrimL_cons rfl (okTrimL_cons rfl (okTrimL_cons rfl (okTrimL_cons rfl (okTrimL_cons rfl (okTrimL_cons rfl (okTrimL_cons rfl (okTrimL_cons rfl (okTrimL_cons rfl (okTrimL_cons rfl (okTrimL_cons rfl (okTrimL_cons rfl (okTrimL_cons rfl rfl)))))))))))))))))))))))))))))))))))))))))))))))))))))))))))))))))))))))))))))))))))))))))))))))))))))))))))))))))))))))))))))))) (by kernel_rfl)
        ·
         intro j2 h
         refine w_start (by dsimp only [setAll, topAll, List.foldl, List.set]) rfl ?_
         refine w_region (k0 := 0) (id := 19) ?_
         obtain ⟨g9, h⟩ := chk_e h
         refine w_op (a := .raw (.int .i64 (s1.2 + 1))) rfl rfl rfl (op_q (q_add rfl rfl rfl rfl g9.1 g9.2)) (by dsimp only [aput, List.set]) ?_
         refine w_mv ?_
         refine loop_next (p := p1) (j2, (s1.2 + 1)) h ?_
         exact wm_of [false, false, false, false, false, false, false, false, false, false, true, false, false, false, false, false, false, false, false, false, false, true, false, false, false, false, false, false, false, false, false, false, false, false, false, false, false, false, false, false, false, false, false, false, false, false, false, false, false, false, false, false, false, false, false, false, false, false, false, false, false, false, false, false, false, false, false, false, false, false, false, false, false, false, false, false, false, true, true, true, false, false, false, false, false, false, false, false, false, false, false, false, false, false, false, false, false, false, false, false, false, false, false, false, false, false, false, false, false, false, false, false, false, false, false, false, false, false, false, false, false, false, false, false, false, false, false] (by kernel_rfl) (by kernel_rfl)
       ·
        refine w_condF hc5 rfl ?_
        refine loop_exit h (fun h => ?_)
        refine cut_done (o := or1) () h ?_
        exact wm_of [false, false, false, false, false, false, false, false, false, false, false, false, false, false, false, false, false, false, false, false, false, false, false, false, false, false, false, false, false, false, false, false, false, false, false, false, false, false, false, false, false, false, false, false, false, false, false, false, false, false, false, false, false, false, false, false, false, false, false, false, false, false, false, false, false, false, false, false, false, false, false, false, false, false, false, false, false, false, false, false, false, false, false, false, false, false, false, false, false, false, false, false, false, false, false, false, false, false, false, false, false, false, false, false, false, false, false, false, false, false, false, false, false, false, false, false, false, false, false, false, false, false, false, false, false, false, false] (by kernel_rfl) (by kernel_rfl)
     ·
      intro j1 h
      refine w_start (by dsimp only [setAll, topAll, List.foldl, List.set]) rfl ?_
      refine w_seq (w_region ?_)
      obtain ⟨x10, hx10, h⟩ := bindE_e h
      refine w_callc (args' := []) (r := .raw (.bool x10)) (awake_sh fuel x10 hx10) rfl rfl rfl rfl (by dsimp only [aput, List.set]) ?_
      refine w_mv ?_
      exact end_b h
end Go.Ab

