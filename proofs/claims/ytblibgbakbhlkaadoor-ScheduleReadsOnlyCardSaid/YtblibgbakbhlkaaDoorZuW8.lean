/-
  schedule: ScheduleTexts, ScheduleReadsOnly, ScheduleCuts.
-/
import Derived.Test.YtblibgbakbhlkaaDoorZuW7
set_option linter.unusedSimpArgs false
set_option linter.unusedVariables false
namespace Go.Ab
open Go Go.RowKit Go.Fwd Go.Proofs
def F_readsonly (fuel : Nat) (s : (List UInt8)) : Option Bool :=
  (bif (decide ((List.length s : Int) > 600)) then (bindE (F_awake fuel) (fun x1 => (some x1))) else (bindE (F_read fuel s) (fun x2 => (bif (x2.2.2 != 0) then (bif ((List.length x2.1 : Int) == 0) then (bif (x2.2.2 == 321) then (bif (decide (x2.2.1 ≥ 0)) then (bindE (F_awake fuel) (fun x3 => (some x3))) else (bif (x2.2.2 == 5) then (bif (x2.2.1 == (-1)) then (bindE (F_awake fuel) (fun x4 => (some x4))) else (some false)) else (some false))) else (bif (x2.2.2 == 5) then (bif (x2.2.1 == (-1)) then (bindE (F_awake fuel) (fun x5 => (some x5))) else (some false)) else (some false))) else (some false)) else (bindE (F_check fuel x2.1) (fun x6 => (bindE (F_write fuel x2.1) (fun x7 => (chk (-9223372036854775808 ≤ (x6.2 + x7.2) ∧ (x6.2 + x7.2) < 9223372036854775808) (bif ((x6.2 + x7.2) == 0) then (bif (x6.1 == (-1)) then (bif (x2.2.1 == (-1)) then (bif (x7.1 == s) then (bindE (F_awake fuel) (fun x8 => (some x8))) else (some false)) else (some false)) else (some false)) else (some false)))))))))))
theorem ent4 : Ent Tryd.prog 4 := enters_of Tryd.func4 (by kernel_rfl) rfl
set_option maxRecDepth 100000 in
set_option maxHeartbeats 4000000 in
theorem readsonly_sh (fuel : Nat) (s : (List UInt8)) (r : Bool) (h : F_readsonly fuel s = some r) : Pure (ITP Tryd.prog) Tryd.prog 4 [.raw (.string (bs s))] (.raw (.bool r)) := by
 obtain ⟨d, hd⟩ : ∃ d, Tryd.f4.body = some d := ⟨_, rfl⟩
 refine pure_of mix Tryd.func4 hd ent4 ?_
 cases hd
 unfold F_readsonly at h
 refine w_start (by dsimp only [abeginS, Tryd.f4, List.length_cons, List.length_nil, Nat.zero_add, Nat.reduceAdd, Nat.reduceSub, List.replicate, List.cons_append, List.nil_append]) (by dsimp only [St.empty]) ?_
 refine w_seq (w_region ?_)
 refine w_op (a := .raw (.bool false)) rfl rfl rfl rfl (by dsimp only [aput, List.set]) ?_
 refine w_seq ?_
 refine w_seq (w_region ?_)
 refine w_mv ?_
 refine w_op (a := .raw (.int .i64 (List.length s : Int))) rfl rfl rfl (op_q (q_lenS rfl rfl rfl)) (by dsimp only [aput, List.set]) ?_
 refine w_op (a := .raw (.bool (decide ((List.length s : Int) > 600)))) rfl rfl rfl rfl (by dsimp only [aput, List.set]) ?_
 refine bif_e h (fun hc1 h => ?_) (fun hc1 h => ?_)
 ·
  refine w_condT hc1 rfl ?_
  refine w_seq (w_region ?_)
  obtain ⟨x1, hx1, h⟩ := bindE_e h
  refine w_callc (args' := []) (r := .raw (.bool x1)) (awake_sh fuel x1 hx1) rfl rfl rfl rfl (by dsimp only [aput, List.set]) ?_
  refine w_mv ?_
  exact end_b h
 ·
  refine w_condF hc1 rfl ?_
  refine w_seq (w_region ?_)
  refine w_mv ?_
  obtain ⟨x2, hx2, h⟩ := bindE_e h
  refine w_callc (args' := [.raw (.string (bs s))]) (r := .tup [.list (List.length (x2.1 : List Ev)) (Enc.cellsL (x2.1 : List Ev)) .none, .raw (.int .i64 x2.2.1), .raw (.int .i64 x2.2.2)]) (read_sh fuel s x2 hx2) rfl rfl (stripL_cons rfl rfl) (okTrimL_cons rfl rfl) (by dsimp only [aput, List.set]) ?_
  refine w_mv ?_
  refine w_ex ?_
  refine w_ex ?_
  refine w_ex ?_
  refine w_mv ?_
  refine w_mv ?_
  refine w_mv ?_
  refine w_seq ?_
  refine w_seq (w_region ?_)
  refine w_mv ?_
  refine w_op (a := .raw (.bool (x2.2.2 != 0))) rfl rfl rfl rfl (by dsimp only [aput, List.set]) ?_
  refine bif_e h (fun hc2 h => ?_) (fun hc2 h => ?_)
  ·
   refine w_condT hc2 rfl ?_
   refine w_seq (w_region ?_)
   refine w_mv ?_
   refine w_op (a := .raw (.int .i64 (List.length x2.1 : Int))) rfl rfl rfl rfl (by dsimp only [aput, List.set]) ?_
   refine w_op (a := .raw (.bool ((List.length x2.1 : Int) == 0))) rfl rfl rfl rfl (by dsimp only [aput, List.set]) ?_
   refine bif_e h (fun hc3 h => ?_) (fun hc3 h => ?_)
   ·
    refine w_op (a := .raw (.bool true)) rfl rfl rfl (op_q (q_bool rfl hc3)) (by dsimp only [aput, List.set]) ?_
    refine w_met rfl rfl ?_
    refine w_mv ?_
    refine w_met rfl rfl ?_
    refine w_op (a := .raw (.bool (x2.2.2 == 321))) rfl rfl rfl rfl (by dsimp only [aput, List.set]) ?_
    refine w_met rfl rfl ?_
    refine bif_e h (fun hc4 h => ?_) (fun hc4 h => ?_)
    ·
     refine w_op (a := .raw (.bool true)) rfl rfl rfl (op_q (q_bool rfl hc4)) (by dsimp only [aput, List.set]) ?_
     refine w_met rfl rfl ?_
     refine w_mv ?_
     refine w_met rfl rfl ?_
     refine w_op (a := .raw (.bool (decide (x2.2.1 ≥ 0)))) rfl rfl rfl rfl (by dsimp only [aput, List.set]) ?_
     refine w_met rfl rfl ?_
     refine w_op (a := .raw (.bool (decide (x2.2.1 ≥ 0)))) rfl rfl rfl rfl (by dsimp only [aput, List.set]) ?_
     refine w_met rfl rfl ?_
     refine bif_e h (fun hc5 h => ?_) (fun hc5 h => ?_)
     ·
      refine w_op (a := .raw (.bool true)) rfl rfl rfl (op_q (q_bool rfl hc5)) (by dsimp only [aput, List.set]) ?_
      refine w_pass rfl rfl (by decide) (by dsimp only [aput, List.set]) ?_
      refine w_pass rfl rfl (by decide) (by dsimp only [aput, List.set]) ?_
      refine w_pass rfl rfl (by decide) (by dsimp only [aput, List.set]) ?_
      refine w_pass rfl rfl (by decide) (by dsimp only [aput, List.set]) ?_
      refine w_pass rfl rfl (by decide) (by dsimp only [aput, List.set]) ?_
      refine w_pass rfl rfl (by decide) (by dsimp only [aput, List.set]) ?_
      refine w_met rfl rfl ?_
      refine w_op (a := .raw (.bool true)) rfl rfl rfl rfl (by dsimp only [aput, List.set]) ?_
      refine w_op (a := .raw (.bool true)) rfl rfl rfl rfl (by dsimp only [aput, List.set]) ?_
      refine w_mv ?_
      refine w_met rfl rfl ?_
      obtain ⟨x3, hx3, h⟩ := bindE_e h
      refine w_callc (args' := []) (r := .raw (.bool x3)) (awake_sh fuel x3 hx3) rfl rfl rfl rfl (by dsimp only [aput, List.set]) ?_
      refine w_op (a := .raw (.bool x3)) rfl rfl rfl rfl (by dsimp only [aput, List.set]) ?_
      refine w_mv ?_
      exact end_b h
     ·
      refine w_op (a := .raw (.bool false)) rfl rfl rfl (op_q (q_bool rfl hc5)) (by dsimp only [aput, List.set]) ?_
      refine w_met rfl rfl ?_
      refine w_mv ?_
      refine w_met rfl rfl ?_
      refine w_op (a := .raw (.bool (x2.2.2 == 5))) rfl rfl rfl rfl (by dsimp only [aput, List.set]) ?_
      refine w_met rfl rfl ?_
      refine bif_e h (fun hc6 h => ?_) (fun hc6 h => ?_)
      ·
       refine w_op (a := .raw (.bool true)) rfl rfl rfl (op_q (q_bool rfl hc6)) (by dsimp only [aput, List.set]) ?_
       refine w_met rfl rfl ?_
       refine w_mv ?_
       refine w_met rfl rfl ?_
       refine w_op (a := .raw (.bool (x2.2.1 == (-1)))) rfl rfl rfl rfl (by dsimp only [aput, List.set]) ?_
       refine w_met rfl rfl ?_
       refine w_op (a := .raw (.bool (x2.2.1 == (-1)))) rfl rfl rfl rfl (by dsimp only [aput, List.set]) ?_
       refine w_met rfl rfl ?_
       refine w_op (a := .raw (.bool (x2.2.1 == (-1)))) rfl rfl rfl rfl (by dsimp only [aput, List.set]) ?_
       refine w_op (a := .raw (.bool (x2.2.1 == (-1)))) rfl rfl rfl rfl (by dsimp only [aput, List.set]) ?_
       refine bif_e h (fun hc7 h => ?_) (fun hc7 h => ?_)
       ·
        refine w_op (a := .raw (.bool true)) rfl rfl rfl (op_q (q_bool rfl hc7)) (by dsimp only [aput, List.set]) ?_
        refine w_met rfl rfl ?_
        obtain ⟨x4, hx4, h⟩ := bindE_e h
        refine w_callc (args' := []) (r := .raw (.bool x4)) (awake_sh fuel x4 hx4) rfl rfl rfl rfl (by dsimp only [aput, List.set]) ?_
        refine w_op (a := .raw (.bool x4)) rfl rfl rfl rfl (by dsimp only [aput, List.set]) ?_
        refine w_mv ?_
        exact end_b h
       ·
        refine w_op (a := .raw (.bool false)) rfl rfl rfl (op_q (q_bool rfl hc7)) (by dsimp only [aput, List.set]) ?_
        refine w_pass rfl rfl (by decide) (by dsimp only [aput, List.set]) ?_
        refine w_op (a := .raw (.bool false)) rfl rfl rfl rfl (by dsimp only [aput, List.set]) ?_
        refine w_mv ?_
        exact end_b h
      ·
       refine w_op (a := .raw (.bool false)) rfl rfl rfl (op_q (q_bool rfl hc6)) (by dsimp only [aput, List.set]) ?_
       refine w_pass rfl rfl (by decide) (by dsimp only [aput, List.set]) ?_
       refine w_pass rfl rfl (by decide) (by dsimp only [aput, List.set]) ?_
       refine w_met rfl rfl ?_
       refine w_op (a := .raw (.bool false)) rfl rfl rfl rfl (by dsimp only [aput, List.set]) ?_
       refine w_met rfl rfl ?_
       refine w_op (a := .raw (.bool false)) rfl rfl rfl rfl (by dsimp only [aput, List.set]) ?_
       refine w_op (a := .raw (.bool false)) rfl rfl rfl rfl (by dsimp only [aput, List.set]) ?_
       refine w_mv ?_
       refine w_pass rfl rfl (by decide) (by dsimp only [aput, List.set]) ?_
       refine w_op (a := .raw (.bool false)) rfl rfl rfl rfl (by dsimp only [aput, List.set]) ?_
       refine w_mv ?_
       exact end_b h
    ·
     refine w_op (a := .raw (.bool false)) rfl rfl rfl (op_q (q_bool rfl hc4)) (by dsimp only [aput, List.set]) ?_
     refine w_pass rfl rfl (by decide) (by dsimp only [aput, List.set]) ?_
     refine w_pass rfl rfl (by decide) (by dsimp only [aput, List.set]) ?_
     refine w_met rfl rfl ?_
     refine w_op (a := .raw (.bool false)) rfl rfl rfl rfl (by dsimp only [aput, List.set]) ?_
     refine w_met rfl rfl ?_
     refine w_mv ?_
     refine w_met rfl rfl ?_
     refine w_mv ?_
     refine w_met rfl rfl ?_
     refine w_op (a := .raw (.bool (x2.2.2 == 5))) rfl rfl rfl rfl (by dsimp only [aput, List.set]) ?_
     refine w_met rfl rfl ?_
     refine bif_e h (fun hc8 h => ?_) (fun hc8 h => ?_)
     ·
      refine w_op (a := .raw (.bool true)) rfl rfl rfl (op_q (q_bool rfl hc8)) (by dsimp only [aput, List.set]) ?_
      refine w_met rfl rfl ?_
      refine w_mv ?_
      refine w_met rfl rfl ?_
      refine w_op (a := .raw (.bool (x2.2.1 == (-1)))) rfl rfl rfl rfl (by dsimp only [aput, List.set]) ?_
      refine w_met rfl rfl ?_
      refine w_op (a := .raw (.bool (x2.2.1 == (-1)))) rfl rfl rfl rfl (by dsimp only [aput, List.set]) ?_
      refine w_met rfl rfl ?_
      refine w_op (a := .raw (.bool (x2.2.1 == (-1)))) rfl rfl rfl rfl (by dsimp only [aput, List.set]) ?_
      refine w_op (a := .raw (.bool (x2.2.1 == (-1)))) rfl rfl rfl rfl (by dsimp only [aput, List.set]) ?_
      refine bif_e h (fun hc9 h => ?_) (fun hc9 h => ?_)
      ·
       refine w_op (a := .raw (.bool true)) rfl rfl rfl (op_q (q_bool rfl hc9)) (by dsimp only [aput, List.set]) ?_
       refine w_met rfl rfl ?_
       obtain ⟨x5, hx5, h⟩ := bindE_e h
       refine w_callc (args' := []) (r := .raw (.bool x5)) (awake_sh fuel x5 hx5) rfl rfl rfl rfl (by dsimp only [aput, List.set]) ?_
       refine w_op (a := .raw (.bool x5)) rfl rfl rfl rfl (by dsimp only [aput, List.set]) ?_
       refine w_mv ?_
       exact end_b h
      ·
       refine w_op (a := .raw (.bool false)) rfl rfl rfl (op_q (q_bool rfl hc9)) (by dsimp only [aput, List.set]) ?_
       refine w_pass rfl rfl (by decide) (by dsimp only [aput, List.set]) ?_
       refine w_op (a := .raw (.bool false)) rfl rfl rfl rfl (by dsimp only [aput, List.set]) ?_
       refine w_mv ?_
       exact end_b h
     ·
      refine w_op (a := .raw (.bool false)) rfl rfl rfl (op_q (q_bool rfl hc8)) (by dsimp only [aput, List.set]) ?_
      refine w_pass rfl rfl (by decide) (by dsimp only [aput, List.set]) ?_
      refine w_pass rfl rfl (by decide) (by dsimp only [aput, List.set]) ?_
      refine w_met rfl rfl ?_
      refine w_op (a := .raw (.bool false)) rfl rfl rfl rfl (by dsimp only [aput, List.set]) ?_
      refine w_met rfl rfl ?_
      refine w_op (a := .raw (.bool false)) rfl rfl rfl rfl (by dsimp only [aput, List.set]) ?_
      refine w_op (a := .raw (.bool false)) rfl rfl rfl rfl (by dsimp only [aput, List.set]) ?_
      refine w_mv ?_
      refine w_pass rfl rfl (by decide) (by dsimp only [aput, List.set]) ?_
      refine w_op (a := .raw (.bool false)) rfl rfl rfl rfl (by dsimp only [aput, List.set]) ?_
      refine w_mv ?_
      exact end_b h
   ·
    refine w_op (a := .raw (.bool false)) rfl rfl rfl (op_q (q_bool rfl hc3)) (by dsimp only [aput, List.set]) ?_
    refine w_pass rfl rfl (by decide) (by dsimp only [aput, List.set]) ?_
    refine w_pass rfl rfl (by decide) (by dsimp only [aput, List.set]) ?_
    refine w_pass rfl rfl (by decide) (by dsimp only [aput, List.set]) ?_
    refine w_pass rfl rfl (by decide) (by dsimp only [aput, List.set]) ?_
    refine w_pass rfl rfl (by decide) (by dsimp only [aput, List.set]) ?_
    refine w_pass rfl rfl (by decide) (by dsimp only [aput, List.set]) ?_
    refine w_pass rfl rfl (by decide) (by dsimp only [aput, List.set]) ?_
    refine w_pass rfl rfl (by decide) (by dsimp only [aput, List.set]) ?_
    refine w_pass rfl rfl (by decide) (by dsimp only [aput, List.set]) ?_
    refine w_pass rfl rfl (by decide) (by dsimp only [aput, List.set]) ?_
    refine w_pass rfl rfl (by decide) (by dsimp only [aput, List.set]) ?_
    refine w_pass rfl rfl (by decide) (by dsimp only [aput, List.set]) ?_
    refine w_pass rfl rfl (by decide) (by dsimp only [aput, List.set]) ?_
    refine w_pass rfl rfl (by decide) (by dsimp only [aput, List.set]) ?_
    refine w_op (a := .raw (.bool false)) rfl rfl rfl rfl (by dsimp only [aput, List.set]) ?_
    refine w_mv ?_
    refine w_pass rfl rfl (by decide) (by dsimp only [aput, List.set]) ?_
    refine w_op (a := .raw (.bool false)) rfl rfl rfl rfl (by dsimp only [aput, List.set]) ?_
    refine w_mv ?_
    exact end_b h
  ·
   refine w_condF hc2 rfl ?_
   refine w_seq (w_region ?_)
   refine w_mv ?_
   obtain ⟨x6, hx6, h⟩ := bindE_e h
   refine w_callc (args' := [.list (List.length (x2.1 : List Ev)) (Enc.cellsL (x2.1 : List Ev)) .none]) (r := .tup [.raw (.int .i64 x6.1), .raw (.int .i64 x6.2)]) (check_sh fuel x2.1 x6 hx6) rfl rfl (stripL_cons (strip_l (Enc.cloL _)) rfl) (okTrimL_cons (okTrim_l (Enc.cloL _)) rfl) (by dsimp only [aput, List.set]) ?_
   refine w_mv ?_
   refine w_ex ?_
   refine w_ex ?_
   refine w_mv ?_
   refine w_mv ?_
   refine w_seq (w_region ?_)
   refine w_mv ?_
   obtain ⟨x7, hx7, h⟩ := bindE_e h
   refine w_callc (args' := [.list (List.length (x2.1 : List Ev)) (Enc.cellsL (x2.1 : List Ev)) .none]) (r := .tup [.raw (.string (bs x7.1)), .raw (.int .i64 x7.2)]) (write_sh fuel x2.1 x7 hx7) rfl rfl (stripL_cons (strip_l (Enc.cloL _)) rfl) (okTrimL_cons (okTrim_l (Enc.cloL _)) rfl) (by dsimp only [aput, List.set]) ?_
   refine w_mv ?_
   refine w_ex ?_
   refine w_ex ?_
   refine w_mv ?_
   refine w_mv ?_
   refine w_seq (w_region ?_)
   refine w_mv ?_
   refine w_mv ?_
   obtain ⟨g1, h⟩ := chk_e h
   refine w_op (a := .raw (.int .i64 (x6.2 + x7.2))) rfl rfl rfl (op_q (q_add rfl rfl rfl rfl g1.1 g1.2)) (by dsimp only [aput, List.set]) ?_
   refine w_op (a := .raw (.bool ((x6.2 + x7.2) == 0))) rfl rfl rfl rfl (by dsimp only [aput, List.set]) ?_
   refine bif_e h (fun hc10 h => ?_) (fun hc10 h => ?_)
   ·
    refine w_op (a := .raw (.bool true)) rfl rfl rfl (op_q (q_bool rfl hc10)) (by dsimp only [aput, List.set]) ?_
    refine w_met rfl rfl ?_
    refine w_mv ?_
    refine w_met rfl rfl ?_
    refine w_op (a := .raw (.bool (x6.1 == (-1)))) rfl rfl rfl rfl (by dsimp only [aput, List.set]) ?_
    refine w_op (a := .raw (.bool (x6.1 == (-1)))) rfl rfl rfl rfl (by dsimp only [aput, List.set]) ?_
    refine bif_e h (fun hc11 h => ?_) (fun hc11 h => ?_)
    ·
     refine w_op (a := .raw (.bool true)) rfl rfl rfl (op_q (q_bool rfl hc11)) (by dsimp only [aput, List.set]) ?_
     refine w_met rfl rfl ?_
     refine w_mv ?_
     refine w_met rfl rfl ?_
     refine w_op (a := .raw (.bool (x2.2.1 == (-1)))) rfl rfl rfl rfl (by dsimp only [aput, List.set]) ?_
     refine w_op (a := .raw (.bool (x2.2.1 == (-1)))) rfl rfl rfl rfl (by dsimp only [aput, List.set]) ?_
     refine bif_e h (fun hc12 h => ?_) (fun hc12 h => ?_)
     ·
      refine w_op (a := .raw (.bool true)) rfl rfl rfl (op_q (q_bool rfl hc12)) (by dsimp only [aput, List.set]) ?_
      refine w_met rfl rfl ?_
      refine w_mv ?_
      refine w_met rfl rfl ?_
      refine w_mv ?_
      refine w_met rfl rfl ?_
      refine w_op (a := .raw (.bool (x7.1 == s))) rfl rfl rfl (op_q (q_streq rfl rfl rfl)) (by dsimp only [aput, List.set]) ?_
      refine w_op (a := .raw (.bool (x7.1 == s))) rfl rfl rfl rfl (by dsimp only [aput, List.set]) ?_
      refine bif_e h (fun hc13 h => ?_) (fun hc13 h => ?_)
      ·
       refine w_op (a := .raw (.bool true)) rfl rfl rfl (op_q (q_bool rfl hc13)) (by dsimp only [aput, List.set]) ?_
       refine w_met rfl rfl ?_
       obtain ⟨x8, hx8, h⟩ := bindE_e h
       refine w_callc (args' := []) (r := .raw (.bool x8)) (awake_sh fuel x8 hx8) rfl rfl rfl rfl (by dsimp only [aput, List.set]) ?_
       refine w_op (a := .raw (.bool x8)) rfl rfl rfl rfl (by dsimp only [aput, List.set]) ?_
       refine w_mv ?_
       exact end_b h
      ·
       refine w_op (a := .raw (.bool false)) rfl rfl rfl (op_q (q_bool rfl hc13)) (by dsimp only [aput, List.set]) ?_
       refine w_pass rfl rfl (by decide) (by dsimp only [aput, List.set]) ?_
       refine w_op (a := .raw (.bool false)) rfl rfl rfl rfl (by dsimp only [aput, List.set]) ?_
       refine w_mv ?_
       exact end_b h
     ·
      refine w_op (a := .raw (.bool false)) rfl rfl rfl (op_q (q_bool rfl hc12)) (by dsimp only [aput, List.set]) ?_
      refine w_pass rfl rfl (by decide) (by dsimp only [aput, List.set]) ?_
      refine w_pass rfl rfl (by decide) (by dsimp only [aput, List.set]) ?_
      refine w_pass rfl rfl (by decide) (by dsimp only [aput, List.set]) ?_
      refine w_op (a := .raw (.bool false)) rfl rfl rfl rfl (by dsimp only [aput, List.set]) ?_
      refine w_mv ?_
      refine w_pass rfl rfl (by decide) (by dsimp only [aput, List.set]) ?_
      refine w_op (a := .raw (.bool false)) rfl rfl rfl rfl (by dsimp only [aput, List.set]) ?_
      refine w_mv ?_
      exact end_b h
    ·
     refine w_op (a := .raw (.bool false)) rfl rfl rfl (op_q (q_bool rfl hc11)) (by dsimp only [aput, List.set]) ?_
     refine w_pass rfl rfl (by decide) (by dsimp only [aput, List.set]) ?_
     refine w_pass rfl rfl (by decide) (by dsimp only [aput, List.set]) ?_
     refine w_op (a := .raw (.bool false)) rfl rfl rfl rfl (by dsimp only [aput, List.set]) ?_
     refine w_mv ?_
     refine w_pass rfl rfl (by decide) (by dsimp only [aput, List.set]) ?_
     refine w_pass rfl rfl (by decide) (by dsimp only [aput, List.set]) ?_
     refine w_pass rfl rfl (by decide) (by dsimp only [aput, List.set]) ?_
     refine w_op (a := .raw (.bool false)) rfl rfl rfl rfl (by dsimp only [aput, List.set]) ?_
     refine w_mv ?_
     refine w_pass rfl rfl (by decide) (by dsimp only [aput, List.set]) ?_
     refine w_op (a := .raw (.bool false)) rfl rfl rfl rfl (by dsimp only [aput, List.set]) ?_
     refine w_mv ?_
     exact end_b h
   ·
    refine w_op (a := .raw (.bool false)) rfl rfl rfl (op_q (q_bool rfl hc10)) (by dsimp only [aput, List.set]) ?_
    refine w_pass rfl rfl (by decide) (by dsimp only [aput, List.set]) ?_
    refine w_pass rfl rfl (by decide) (by dsimp only [aput, List.set]) ?_
    refine w_op (a := .raw (.bool false)) rfl rfl rfl rfl (by dsimp only [aput, List.set]) ?_
    refine w_mv ?_
    refine w_pass rfl rfl (by decide) (by dsimp only [aput, List.set]) ?_
    refine w_pass rfl rfl (by decide) (by dsimp only [aput, List.set]) ?_
    refine w_op (a := .raw (.bool false)) rfl rfl rfl rfl (by dsimp only [aput, List.set]) ?_
    refine w_mv ?_
    refine w_pass rfl rfl (by decide) (by dsimp only [aput, List.set]) ?_
    refine w_pass rfl rfl (by decide) (by dsimp only [aput, List.set]) ?_
    refine w_pass rfl rfl (by decide) (by dsimp only [aput, List.set]) ?_
    refine w_op (a := .raw (.bool false)) rfl rfl rfl rfl (by dsimp only [aput, List.set]) ?_
    refine w_mv ?_
    refine w_pass rfl rfl (by decide) (by dsimp only [aput, List.set]) ?_
    refine w_op (a := .raw (.bool false)) rfl rfl rfl rfl (by dsimp only [aput, List.set]) ?_
    refine w_mv ?_
    exact end_b h
end Go.Ab

