/-
  schedule: ScheduleTexts, ScheduleReadsOnly, ScheduleCuts.
-/
import Derived.Test.YtblibgbakbhlkaaDoorZuW7
set_option linter.unusedSimpArgs false
set_option linter.unusedVariables false
namespace Go.Ab
open Go Go.RowKit Go.Fwd Go.Proofs
def F_texts (fuel : Nat) (k : (List UInt8)) (l : (List UInt8)) (a : Int) (b : Int) : Option Bool :=
  (bindE (F_made fuel k a) (fun x1 => (bindE (F_made fuel l b) (fun x2 => (bindE (F_write fuel x1) (fun x3 => (bindE (F_write fuel x2) (fun x4 => (bindE (F_read fuel x3.1) (fun x5 => (chk (-9223372036854775808 ≤ (x3.2 + x4.2) ∧ (x3.2 + x4.2) < 9223372036854775808) (chk (-9223372036854775808 ≤ ((x3.2 + x4.2) + x5.2.2) ∧ ((x3.2 + x4.2) + x5.2.2) < 9223372036854775808) (bif (((x3.2 + x4.2) + x5.2.2) == 0) then (bif (x5.2.1 == (-1)) then (bindE (F_eqevs fuel x5.1 x1) (fun x6 => (bif x6 then (bindE (F_eqevs fuel x1 x2) (fun x7 => (bif ((x3.1 == x4.1) == x7) then (bindE (F_awake fuel) (fun x8 => (some x8))) else (some false)))) else (some false)))) else (some false)) else (some false))))))))))))))
theorem ent3 : Ent Tryd.prog 3 := enters_of Tryd.func3 (by kernel_rfl) rfl
set_option maxRecDepth 100000 in
set_option maxHeartbeats 4000000 in
theorem texts_sh (fuel : Nat) (k : (List UInt8)) (l : (List UInt8)) (a : Int) (b : Int) (r : Bool) (h : F_texts fuel k l a b = some r) : Pure (ITP Tryd.prog) Tryd.prog 3 [.list (List.length (k : List UInt8)) (Enc.cellsL (k : List UInt8)) .none, .list (List.length (l : List UInt8)) (Enc.cellsL (l : List UInt8)) .none, .raw (.int .u8 a), .raw (.int .u8 b)] (.raw (.bool r)) := by
 obtain ⟨d, hd⟩ : ∃ d, Tryd.f3.body = some d := ⟨_, rfl⟩
 refine pure_of mix Tryd.func3 hd ent3 ?_
 cases hd
 unfold F_texts at h
 refine w_start (by dsimp only [abeginS, Tryd.f3, List.length_cons, List.length_nil, Nat.zero_add, Nat.reduceAdd, Nat.reduceSub, List.replicate, List.cons_append, List.nil_append]) (by dsimp only [St.empty]) ?_
 refine w_seq (w_region ?_)
 refine w_op (a := .raw (.bool false)) rfl rfl rfl rfl (by dsimp only [aput, List.set]) ?_
 refine w_seq (w_region ?_)
 refine w_mv ?_
 refine w_mv ?_
 obtain ⟨x1, hx1, h⟩ := bindE_e h
 refine w_callc (args' := [.list (List.length (k : List UInt8)) (Enc.cellsL (k : List UInt8)) .none, .raw (.int .u8 a)]) (r := .list (List.length (x1 : List Ev)) (Enc.cellsL (x1 : List Ev)) .none) (made_sh fuel k a x1 hx1) rfl rfl (stripL_cons (strip_l (Enc.cloL _)) (stripL_cons rfl rfl)) (okTrimL_cons (okTrim_l (Enc.cloL _)) (okTrimL_cons rfl rfl)) (by dsimp only [aput, List.set]) ?_
 refine w_mv ?_
 refine w_mv ?_
 obtain ⟨x2, hx2, h⟩ := bindE_e h
 refine w_callc (args' := [.list (List.length (l : List UInt8)) (Enc.cellsL (l : List UInt8)) .none, .raw (.int .u8 b)]) (r := .list (List.length (x2 : List Ev)) (Enc.cellsL (x2 : List Ev)) .none) (made_sh fuel l b x2 hx2) rfl rfl (stripL_cons (strip_l (Enc.cloL _)) (stripL_cons rfl rfl)) (okTrimL_cons (okTrim_l (Enc.cloL _)) (okTrimL_cons rfl rfl)) (by dsimp only [aput, List.set]) ?_
 refine w_mv ?_
 refine w_mv ?_
 refine w_seq (w_region ?_)
 refine w_mv ?_
 obtain ⟨x3, hx3, h⟩ := bindE_e h
 refine w_callc (args' := [.list (List.length (x1 : List Ev)) (Enc.cellsL (x1 : List Ev)) .none]) (r := .tup [.raw (.string (bs x3.1)), .raw (.int .i64 x3.2)]) (write_sh fuel x1 x3 hx3) rfl rfl (stripL_cons (strip_l (Enc.cloL _)) rfl) (okTrimL_cons (okTrim_l (Enc.cloL _)) rfl) (by dsimp only [aput, List.set]) ?_
 refine w_mv ?_
 refine w_ex ?_
 refine w_ex ?_
 refine w_mv ?_
 refine w_mv ?_
 refine w_seq (w_region ?_)
 refine w_mv ?_
 obtain ⟨x4, hx4, h⟩ := bindE_e h
 refine w_callc (args' := [.list (List.length (x2 : List Ev)) (Enc.cellsL (x2 : List Ev)) .none]) (r := .tup [.raw (.string (bs x4.1)), .raw (.int .i64 x4.2)]) (write_sh fuel x2 x4 hx4) rfl rfl (stripL_cons (strip_l (Enc.cloL _)) rfl) (okTrimL_cons (okTrim_l (Enc.cloL _)) rfl) (by dsimp only [aput, List.set]) ?_
 refine w_mv ?_
 refine w_ex ?_
 refine w_ex ?_
 refine w_mv ?_
 refine w_mv ?_
 refine w_seq (w_region ?_)
 refine w_mv ?_
 obtain ⟨x5, hx5, h⟩ := bindE_e h
 refine w_callc (args' := [.raw (.string (bs x3.1))]) (r := .tup [.list (List.length (x5.1 : List Ev)) (Enc.cellsL (x5.1 : List Ev)) .none, .raw (.int .i64 x5.2.1), .raw (.int .i64 x5.2.2)]) (read_sh fuel x3.1 x5 hx5) rfl rfl (stripL_cons rfl rfl) (okTrimL_cons rfl rfl) (by dsimp only [aput, List.set]) ?_
 refine w_mv ?_
 refine w_ex ?_
 refine w_ex ?_
 refine w_ex ?_
 refine w_mv ?_
 refine w_mv ?_
 refine w_mv ?_
 refine w_seq (w_region ?_)
 refine w_mv ?_
 refine w_mv ?_
 obtain ⟨g1, h⟩ := chk_e h
 refine w_op (a := .raw (.int .i64 (x3.2 + x4.2))) rfl rfl rfl (op_q (q_add rfl rfl rfl rfl g1.1 g1.2)) (by dsimp only [aput, List.set]) ?_
 refine w_mv ?_
 obtain ⟨g2, h⟩ := chk_e h
 refine w_op (a := .raw (.int .i64 ((x3.2 + x4.2) + x5.2.2))) rfl rfl rfl (op_q (q_add rfl rfl rfl rfl g2.1 g2.2)) (by dsimp only [aput, List.set]) ?_
 refine w_op (a := .raw (.bool (((x3.2 + x4.2) + x5.2.2) == 0))) rfl rfl rfl rfl (by dsimp only [aput, List.set]) ?_
 refine bif_e h (fun hc1 h => ?_) (fun hc1 h => ?_)
 ·
  refine w_op (a := .raw (.bool true)) rfl rfl rfl (op_q (q_bool rfl hc1)) (by dsimp only [aput, List.set]) ?_
  refine w_met rfl rfl ?_
  refine w_mv ?_
  refine w_met rfl rfl ?_
  refine w_op (a := .raw (.bool (x5.2.1 == (-1)))) rfl rfl rfl rfl (by dsimp only [aput, List.set]) ?_
  refine w_op (a := .raw (.bool (x5.2.1 == (-1)))) rfl rfl rfl rfl (by dsimp only [aput, List.set]) ?_
  refine bif_e h (fun hc2 h => ?_) (fun hc2 h => ?_)
  ·
   refine w_op (a := .raw (.bool true)) rfl rfl rfl (op_q (q_bool rfl hc2)) (by dsimp only [aput, List.set]) ?_
   refine w_met rfl rfl ?_
   refine w_mv ?_
   refine w_met rfl rfl ?_
   refine w_mv ?_
   refine w_met rfl rfl ?_
   obtain ⟨x6, hx6, h⟩ := bindE_e h
   refine w_callc (args' := [.list (List.length (x5.1 : List Ev)) (Enc.cellsL (x5.1 : List Ev)) .none, .list (List.length (x1 : List Ev)) (Enc.cellsL (x1 : List Ev)) .none]) (r := .raw (.bool x6)) (eqevs_sh fuel x5.1 x1 x6 hx6) rfl rfl (stripL_cons (strip_l (Enc.cloL _)) (stripL_cons (strip_l (Enc.cloL _)) rfl)) (okTrimL_cons (okTrim_l (Enc.cloL _)) (okTrimL_cons (okTrim_l (Enc.cloL _)) rfl)) (by dsimp only [aput, List.set]) ?_
   refine w_op (a := .raw (.bool x6)) rfl rfl rfl rfl (by dsimp only [aput, List.set]) ?_
   refine bif_e h (fun hc3 h => ?_) (fun hc3 h => ?_)
   ·
    refine w_op (a := .raw (.bool true)) rfl rfl rfl (op_q (q_bool rfl hc3)) (by dsimp only [aput, List.set]) ?_
    refine w_met rfl rfl ?_
    refine w_mv ?_
    refine w_met rfl rfl ?_
    refine w_mv ?_
    refine w_met rfl rfl ?_
    refine w_op (a := .raw (.bool (x3.1 == x4.1))) rfl rfl rfl (op_q (q_streq rfl rfl rfl)) (by dsimp only [aput, List.set]) ?_
    refine w_met rfl rfl ?_
    refine w_mv ?_
    refine w_met rfl rfl ?_
    refine w_mv ?_
    refine w_met rfl rfl ?_
    obtain ⟨x7, hx7, h⟩ := bindE_e h
    refine w_callc (args' := [.list (List.length (x1 : List Ev)) (Enc.cellsL (x1 : List Ev)) .none, .list (List.length (x2 : List Ev)) (Enc.cellsL (x2 : List Ev)) .none]) (r := .raw (.bool x7)) (eqevs_sh fuel x1 x2 x7 hx7) rfl rfl (stripL_cons (strip_l (Enc.cloL _)) (stripL_cons (strip_l (Enc.cloL _)) rfl)) (okTrimL_cons (okTrim_l (Enc.cloL _)) (okTrimL_cons (okTrim_l (Enc.cloL _)) rfl)) (by dsimp only [aput, List.set]) ?_
    refine w_met rfl rfl ?_
    refine w_op (a := .raw (.bool ((x3.1 == x4.1) == x7))) rfl rfl rfl (op_q (by kernel_rfl)) (by dsimp only [aput, List.set]) ?_
    refine w_op (a := .raw (.bool ((x3.1 == x4.1) == x7))) rfl rfl rfl rfl (by dsimp only [aput, List.set]) ?_
    refine bif_e h (fun hc4 h => ?_) (fun hc4 h => ?_)
    ·
     refine w_op (a := .raw (.bool true)) rfl rfl rfl (op_q (q_bool rfl hc4)) (by dsimp only [aput, List.set]) ?_
     refine w_met rfl rfl ?_
     obtain ⟨x8, hx8, h⟩ := bindE_e h
     refine w_callc (args' := []) (r := .raw (.bool x8)) (awake_sh fuel x8 hx8) rfl rfl rfl rfl (by dsimp only [aput, List.set]) ?_
     refine w_op (a := .raw (.bool x8)) rfl rfl rfl rfl (by dsimp only [aput, List.set]) ?_
     refine w_mv ?_
     exact end_b h
    ·
     refine w_op (a := .raw (.bool false)) rfl rfl rfl (op_q (q_bool rfl hc4)) (by dsimp only [aput, List.set]) ?_
     refine w_pass rfl rfl (by decide) (by dsimp only [aput, List.set]) ?_
     refine w_op (a := .raw (.bool false)) rfl rfl rfl rfl (by dsimp only [aput, List.set]) ?_
     refine w_mv ?_
     exact end_b h
   ·
    refine w_op (a := .raw (.bool false)) rfl rfl rfl (op_q (q_bool rfl hc3)) (by dsimp only [aput, List.set]) ?_
    refine w_pass rfl rfl (by decide) (by dsimp only [aput, List.set]) ?_
    refine w_pass rfl rfl (by decide) (by dsimp only [aput, List.set]) ?_
    refine w_pass rfl rfl (by decide) (by dsimp only [aput, List.set]) ?_
    refine w_pass rfl rfl (by decide) (by dsimp only [aput, List.set]) ?_
    refine w_pass rfl rfl (by decide) (by dsimp only [aput, List.set]) ?_
    refine w_pass rfl rfl (by decide) (by dsimp only [aput, List.set]) ?_
    refine w_pass rfl rfl (by decide) (by dsimp only [aput, List.set]) ?_
    refine w_op (a := .raw (.bool false)) rfl rfl rfl rfl (by dsimp only [aput, List.set]) ?_
    refine w_mv ?_
    refine w_pass rfl rfl (by decide) (by dsimp only [aput, List.set]) ?_
    refine w_op (a := .raw (.bool false)) rfl rfl rfl rfl (by dsimp only [aput, List.set]) ?_
    refine w_mv ?_
    exact end_b h
  ·
   refine w_op (a := .raw (.bool false)) rfl rfl rfl (op_q (q_bool rfl hc2)) (by dsimp only [aput, List.set]) ?_
   refine w_pass rfl rfl (by decide) (by dsimp only [aput, List.set]) ?_
   refine w_pass rfl rfl (by decide) (by dsimp only [aput, List.set]) ?_
   refine w_pass rfl rfl (by decide) (by dsimp only [aput, List.set]) ?_
   refine w_op (a := .raw (.bool false)) rfl rfl rfl rfl (by dsimp only [aput, List.set]) ?_
   refine w_mv ?_
   refine w_pass rfl rfl (by decide) (by dsimp only [aput, List.set]) ?_
   refine w_pass rfl rfl (by decide) (by dsimp only [aput, List.set]) ?_
   refine w_pass rfl rfl (by decide) (by dsimp only [aput, List.set]) ?_
   refine w_pass rfl rfl (by decide) (by dsimp only [aput, List.set]) ?_
   refine w_pass rfl rfl (by decide) (by dsimp only [aput, List.set]) ?_
   refine w_pass rfl rfl (by decide) (by dsimp only [aput, List.set]) ?_
   refine w_pass rfl rfl (by decide) (by dsimp only [aput, List.set]) ?_
   refine w_op (a := .raw (.bool false)) rfl rfl rfl rfl (by dsimp only [aput, List.set]) ?_
   refine w_mv ?_
   refine w_pass rfl rfl (by decide) (by dsimp only [aput, List.set]) ?_
   refine w_op (a := .raw (.bool false)) rfl rfl rfl rfl (by dsimp only [aput, List.set]) ?_
   refine w_mv ?_
   exact end_b h
 ·
  refine w_op (a := .raw (.bool false)) rfl rfl rfl (op_q (q_bool rfl hc1)) (by dsimp only [aput, List.set]) ?_
  refine w_pass rfl rfl (by decide) (by dsimp only [aput, List.set]) ?_
  refine w_pass rfl rfl (by decide) (by dsimp only [aput, List.set]) ?_
  refine w_op (a := .raw (.bool false)) rfl rfl rfl rfl (by dsimp only [aput, List.set]) ?_
  refine w_mv ?_
  refine w_pass rfl rfl (by decide) (by dsimp only [aput, List.set]) ?_
  refine w_pass rfl rfl (by decide) (by dsimp only [aput, List.set]) ?_
  refine w_pass rfl rfl (by decide) (by dsimp only [aput, List.set]) ?_
  refine w_op (a := .raw (.bool false)) rfl rfl rfl rfl (by dsimp only [aput, List.set]) ?_
  refine w_mv ?_
  refine w_pass rfl rfl (by decide) (by dsimp only [aput, List.set]) ?_
  refine w_pass rfl rfl (by decide) (by dsimp only [aput, List.set]) ?_
  refine w_pass rfl rfl (by decide) (by dsimp only [aput, List.set]) ?_
  refine w_pass rfl rfl (by decide) (by dsimp only [aput, List.set]) ?_
  refine w_pass rfl rfl (by decide) (by dsimp only [aput, List.set]) ?_
  refine w_pass rfl rfl (by decide) (by dsimp only [aput, List.set]) ?_
  refine w_pass rfl rfl (by decide) (by dsimp only [aput, List.set]) ?_
  refine w_op (a := .raw (.bool false)) rfl rfl rfl rfl (by dsimp only [aput, List.set]) ?_
  refine w_mv ?_
  refine w_pass rfl rfl (by decide) (by dsimp only [aput, List.set]) ?_
  refine w_op (a := .raw (.bool false)) rfl rfl rfl rfl (by dsimp only [aput, List.set]) ?_
  refine w_mv ?_
  exact end_b h
end Go.Ab

