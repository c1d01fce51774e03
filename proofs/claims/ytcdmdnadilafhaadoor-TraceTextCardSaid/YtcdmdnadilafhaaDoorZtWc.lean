/-
  trace: TraceText.
-/
import Derived.Test.YtcdmdnadilafhaaDoorZtWb
import Derived.Test.YtcdmdnadilafhaaDoorZtW3
set_option linter.unusedSimpArgs false
set_option linter.unusedVariables false
namespace Go.Ab
open Go Go.RowKit Go.Fwd Go.Proofs
def F_tracetext (fuel : Nat) (k : (List Sme)) (l : (List Sme)) (a : Int) (b : Int) (c : Int) (any : (List UInt8)) : Option Bool :=
  (bindE (F_made fuel k a c) (fun x1 => (bindE (F_made fuel l b c) (fun x2 => (bindE (F_write fuel x1) (fun x3 => (bindE (F_write fuel x2) (fun x4 => (bindE (F_read fuel x3.1) (fun x5 => (chk (-9223372036854775808 ≤ (x3.2 + x4.2) ∧ (x3.2 + x4.2) < 9223372036854775808) (chk (-9223372036854775808 ≤ ((x3.2 + x4.2) + x5.2.2) ∧ ((x3.2 + x4.2) + x5.2.2) < 9223372036854775808) (bif (((x3.2 + x4.2) + x5.2.2) != 0) then (some false) else (bif (x5.2.1 != 0) then (some false) else (bindE (F_same fuel x5.1 x1) (fun x6 => (bif (!x6) then (some false) else (bindE (F_same fuel x1 x2) (fun x7 => (bif (!((x3.1 == x4.1) == x7)) then (some false) else (bif (decide ((List.length any : Int) > 1000)) then (some true) else (bindE (F_read fuel any) (fun x8 => (bif (x8.2.2 != 0) then (bif (decide (x8.2.1 ≥ 1)) then (bif (x8.2.2 == 332) then (bindE (F_same fuel x8.1 (Trc.mk [] (Ed.mk 0 0))) (fun x9 => (bif x9 then (some true) else (some false)))) else (some false)) else (some false)) else (bindE (F_write fuel x8.1) (fun x10 => (bif (x10.2 == 0) then (bif (x10.1 == any) then (some true) else (some false)) else (some false))))))))))))))))))))))))))))
theorem ent4 : Ent Tryd.prog 4 := enters_of Tryd.func4 (by kernel_rfl) rfl
set_option maxRecDepth 100000 in
set_option maxHeartbeats 4000000 in
theorem tracetext_sh (fuel : Nat) (k : (List Sme)) (l : (List Sme)) (a : Int) (b : Int) (c : Int) (any : (List UInt8)) (r : Bool) (h : F_tracetext fuel k l a b c any = some r) : Pure (ITP Tryd.prog) Tryd.prog 4 [.list (List.length (k : List Sme)) (Enc.cellsL (k : List Sme)) .none, .list (List.length (l : List Sme)) (Enc.cellsL (l : List Sme)) .none, .raw (.int .u8 a), .raw (.int .u8 b), .raw (.int .u8 c), .raw (.string (bs any))] (.raw (.bool r)) := by
 obtain ⟨d, hd⟩ : ∃ d, Tryd.f4.body = some d := ⟨_, rfl⟩
 refine pure_of mix Tryd.func4 hd ent4 ?_
 cases hd
 unfold F_tracetext at h
 refine w_start (by dsimp only [abeginS, Tryd.f4, List.length_cons, List.length_nil, Nat.zero_add, Nat.reduceAdd, Nat.reduceSub, List.replicate, List.cons_append, List.nil_append]) (by dsimp only [St.empty]) ?_
 refine w_seq (w_region ?_)
 refine w_op (a := .raw (.bool false)) rfl rfl rfl rfl (by dsimp only [aput, List.set]) ?_
 refine w_seq (w_region ?_)
 refine w_op (a := .list (List.length (k : List Sme)) (Enc.cellsL (k : List Sme)) .none) rfl rfl rfl rfl (by dsimp only [aput, List.set]) ?_
 refine w_op (a := .raw (.int .u8 a)) rfl rfl rfl rfl (by dsimp only [aput, List.set]) ?_
 refine w_op (a := .raw (.int .u8 c)) rfl rfl rfl rfl (by dsimp only [aput, List.set]) ?_
 obtain ⟨x1, hx1, h⟩ := bindE_e h
 refine w_callc (args' := [.list (List.length (k : List Sme)) (Enc.cellsL (k : List Sme)) .none, .raw (.int .u8 a), .raw (.int .u8 c)]) (r := .agg (Enc.cells (x1 : Trc))) (made_sh fuel k a c x1 hx1) rfl rfl (stripL_cons (strip_l (Enc.cloL _)) (stripL_cons rfl (stripL_cons rfl rfl))) (okTrimL_cons (okTrim_l (Enc.cloL _)) (okTrimL_cons rfl (okTrimL_cons rfl rfl))) (by dsimp only [aput, List.set]) ?_
 refine w_op (a := .list (List.length (l : List Sme)) (Enc.cellsL (l : List Sme)) .none) rfl rfl rfl rfl (by dsimp only [aput, List.set]) ?_
 refine w_op (a := .raw (.int .u8 b)) rfl rfl rfl rfl (by dsimp only [aput, List.set]) ?_
 refine w_op (a := .raw (.int .u8 c)) rfl rfl rfl rfl (by dsimp only [aput, List.set]) ?_
 obtain ⟨x2, hx2, h⟩ := bindE_e h
 refine w_callc (args' := [.list (List.length (l : List Sme)) (Enc.cellsL (l : List Sme)) .none, .raw (.int .u8 b), .raw (.int .u8 c)]) (r := .agg (Enc.cells (x2 : Trc))) (made_sh fuel l b c x2 hx2) rfl rfl (stripL_cons (strip_l (Enc.cloL _)) (stripL_cons rfl (stripL_cons rfl rfl))) (okTrimL_cons (okTrim_l (Enc.cloL _)) (okTrimL_cons rfl (okTrimL_cons rfl rfl))) (by dsimp only [aput, List.set]) ?_
 refine w_opm (a := .ptr 0 0) (σ'' := ⟨[(26, [.list 0 [] .full, .raw (.int .u8 0), .raw (.int .i64 0)])], [], [], 0, false⟩) rfl rfl rfl rfl (by dsimp only [aput, List.set]) rfl ?_
 refine w_opm (a := .ptr 1 0) (σ'' := ⟨[(26, [.list 0 [] .full, .raw (.int .u8 0), .raw (.int .i64 0)]), (26, [.list 0 [] .full, .raw (.int .u8 0), .raw (.int .i64 0)])], [], [], 0, false⟩) rfl rfl rfl rfl (by dsimp only [aput, List.set]) rfl ?_
 refine w_opm (σ'' := ⟨[(26, (Enc.cells (x1 : Trc))), (26, [.list 0 [] .full, .raw (.int .u8 0), .raw (.int .i64 0)])], [], [], 0, false⟩) rfl rfl rfl (op_storeW (n := 3) rfl rfl rfl rfl rfl rfl rfl rfl (by decide)) (by dsimp only [aput, List.set]) rfl ?_
 refine w_opm (σ'' := ⟨[(26, (Enc.cells (x1 : Trc))), (26, (Enc.cells (x2 : Trc)))], [], [], 0, false⟩) rfl rfl rfl (op_storeW (n := 3) rfl rfl rfl rfl rfl rfl rfl rfl (by decide)) (by dsimp only [aput, List.set]) rfl ?_
 refine w_seq (w_region ?_)
 refine w_op (a := .agg (Enc.cells (x1 : Trc))) rfl rfl rfl rfl (by dsimp only [aput, List.set]) ?_
 obtain ⟨x3, hx3, h⟩ := bindE_e h
 refine w_callc (args' := [.agg (Enc.cells (x1 : Trc))]) (r := .tup [.raw (.string (bs x3.1)), .raw (.int .i64 x3.2)]) (write_sh fuel x1 x3 hx3) rfl rfl (stripL_cons (strip_c (clo_agg (Enc.clo _))) rfl) (okTrimL_cons (okTrim_clo _ _ (clo_agg (Enc.clo _))) rfl) (by dsimp only [aput, List.set]) ?_
 refine w_op (a := .tup [.raw (.string (bs x3.1)), .raw (.int .i64 x3.2)]) rfl rfl rfl rfl (by dsimp only [aput, List.set]) ?_
 refine w_op (a := .raw (.string (bs x3.1))) rfl rfl rfl rfl (by dsimp only [aput, List.set]) ?_
 refine w_op (a := .raw (.int .i64 x3.2)) rfl rfl rfl rfl (by dsimp only [aput, List.set]) ?_
 refine w_op (a := .raw (.string (bs x3.1))) rfl rfl rfl rfl (by dsimp only [aput, List.set]) ?_
 refine w_op (a := .raw (.int .i64 x3.2)) rfl rfl rfl rfl (by dsimp only [aput, List.set]) ?_
 refine w_seq (w_region ?_)
 refine w_op (a := .agg (Enc.cells (x2 : Trc))) rfl rfl rfl rfl (by dsimp only [aput, List.set]) ?_
 obtain ⟨x4, hx4, h⟩ := bindE_e h
 refine w_callc (args' := [.agg (Enc.cells (x2 : Trc))]) (r := .tup [.raw (.string (bs x4.1)), .raw (.int .i64 x4.2)]) (write_sh fuel x2 x4 hx4) rfl rfl (stripL_cons (strip_c (clo_agg (Enc.clo _))) rfl) (okTrimL_cons (okTrim_clo _ _ (clo_agg (Enc.clo _))) rfl) (by dsimp only [aput, List.set]) ?_
 refine w_op (a := .tup [.raw (.string (bs x4.1)), .raw (.int .i64 x4.2)]) rfl rfl rfl rfl (by dsimp only [aput, List.set]) ?_
 refine w_op (a := .raw (.string (bs x4.1))) rfl rfl rfl rfl (by dsimp only [aput, List.set]) ?_
 refine w_op (a := .raw (.int .i64 x4.2)) rfl rfl rfl rfl (by dsimp only [aput, List.set]) ?_
 refine w_op (a := .raw (.string (bs x4.1))) rfl rfl rfl rfl (by dsimp only [aput, List.set]) ?_
 refine w_op (a := .raw (.int .i64 x4.2)) rfl rfl rfl rfl (by dsimp only [aput, List.set]) ?_
 refine w_seq (w_region ?_)
 refine w_op (a := .raw (.string (bs x3.1))) rfl rfl rfl rfl (by dsimp only [aput, List.set]) ?_
 obtain ⟨x5, hx5, h⟩ := bindE_e h
 refine w_callc (args' := [.raw (.string (bs x3.1))]) (r := .tup [.agg (Enc.cells (x5.1 : Trc)), .raw (.int .i64 x5.2.1), .raw (.int .i64 x5.2.2)]) (read_sh fuel x3.1 x5 hx5) rfl rfl (stripL_cons rfl rfl) (okTrimL_cons rfl rfl) (by dsimp only [aput, List.set]) ?_
 refine w_op (a := .tup [.agg (Enc.cells (x5.1 : Trc)), .raw (.int .i64 x5.2.1), .raw (.int .i64 x5.2.2)]) rfl rfl rfl rfl (by dsimp only [aput, List.set]) ?_
 refine w_op (a := .agg (Enc.cells (x5.1 : Trc))) rfl rfl rfl rfl (by dsimp only [aput, List.set]) ?_
 refine w_op (a := .raw (.int .i64 x5.2.1)) rfl rfl rfl rfl (by dsimp only [aput, List.set]) ?_
 refine w_op (a := .raw (.int .i64 x5.2.2)) rfl rfl rfl rfl (by dsimp only [aput, List.set]) ?_
 refine w_opm (a := .ptr 2 0) (σ'' := ⟨[(26, (Enc.cells (x1 : Trc))), (26, (Enc.cells (x2 : Trc))), (26, [.list 0 [] .full, .raw (.int .u8 0), .raw (.int .i64 0)])], [], [], 0, false⟩) rfl rfl rfl rfl (by dsimp only [aput, List.set]) rfl ?_
 refine w_opm (σ'' := ⟨[(26, (Enc.cells (x1 : Trc))), (26, (Enc.cells (x2 : Trc))), (26, (Enc.cells (x5.1 : Trc)))], [], [], 0, false⟩) rfl rfl rfl (op_storeW (n := 3) rfl rfl rfl rfl rfl rfl rfl rfl (by decide)) (by dsimp only [aput, List.set]) rfl ?_
 refine w_op (a := .raw (.int .i64 x5.2.1)) rfl rfl rfl rfl (by dsimp only [aput, List.set]) ?_
 refine w_op (a := .raw (.int .i64 x5.2.2)) rfl rfl rfl rfl (by dsimp only [aput, List.set]) ?_
 refine w_seq ?_
 refine w_seq (w_region ?_)
 refine w_op (a := .raw (.int .i64 x3.2)) rfl rfl rfl rfl (by dsimp only [aput, List.set]) ?_
 refine w_op (a := .raw (.int .i64 x4.2)) rfl rfl rfl rfl (by dsimp only [aput, List.set]) ?_
 obtain ⟨g1, h⟩ := chk_e h
 refine w_op (a := .raw (.int .i64 (x3.2 + x4.2))) rfl rfl rfl (op_q (q_add rfl rfl rfl rfl g1.1 g1.2)) (by dsimp only [aput, List.set]) ?_
 refine w_op (a := .raw (.int .i64 x5.2.2)) rfl rfl rfl rfl (by dsimp only [aput, List.set]) ?_
 obtain ⟨g2, h⟩ := chk_e h
 refine w_op (a := .raw (.int .i64 ((x3.2 + x4.2) + x5.2.2))) rfl rfl rfl (op_q (q_add rfl rfl rfl rfl g2.1 g2.2)) (by dsimp only [aput, List.set]) ?_
 refine w_op (a := .raw (.bool (((x3.2 + x4.2) + x5.2.2) != 0))) rfl rfl rfl rfl (by dsimp only [aput, List.set]) ?_
 refine bif_e h (fun hc1 h => ?_) (fun hc1 h => ?_)
 ·
  refine w_op (a := .raw (.bool true)) rfl rfl rfl (op_q (q_bool rfl hc1)) (by dsimp only [aput, List.set]) ?_
  refine w_pass rfl rfl (by decide) (by dsimp only [aput, List.set]) ?_
  refine w_pass rfl rfl (by decide) (by dsimp only [aput, List.set]) ?_
  refine w_op (a := .raw (.bool true)) rfl rfl rfl rfl (by dsimp only [aput, List.set]) ?_
  refine w_op (a := .raw (.bool true)) rfl rfl rfl rfl (by dsimp only [aput, List.set]) ?_
  refine w_pass rfl rfl (by decide) (by dsimp only [aput, List.set]) ?_
  refine w_pass rfl rfl (by decide) (by dsimp only [aput, List.set]) ?_
  refine w_pass rfl rfl (by decide) (by dsimp only [aput, List.set]) ?_
  refine w_pass rfl rfl (by decide) (by dsimp only [aput, List.set]) ?_
  refine w_op (a := .raw (.bool true)) rfl rfl rfl rfl (by dsimp only [aput, List.set]) ?_
  refine w_op (a := .raw (.bool true)) rfl rfl rfl rfl (by dsimp only [aput, List.set]) ?_
  refine w_pass rfl rfl (by decide) (by dsimp only [aput, List.set]) ?_
  refine w_pass rfl rfl (by decide) (by dsimp only [aput, List.set]) ?_
  refine w_pass rfl rfl (by decide) (by dsimp only [aput, List.set]) ?_
  refine w_pass rfl rfl (by decide) (by dsimp only [aput, List.set]) ?_
  refine w_pass rfl rfl (by decide) (by dsimp only [aput, List.set]) ?_
  refine w_pass rfl rfl (by decide) (by dsimp only [aput, List.set]) ?_
  refine w_pass rfl rfl (by decide) (by dsimp only [aput, List.set]) ?_
  refine w_op (a := .raw (.bool true)) rfl rfl rfl rfl (by dsimp only [aput, List.set]) ?_
  refine w_true rfl ?_
  refine w_seq (w_region ?_)
  refine w_op (a := .raw (.bool false)) rfl rfl rfl rfl (by dsimp only [aput, List.set]) ?_
  exact end_pureF (fun (r : Bool) => (.raw (.bool r) : AV)) h (a := .raw (.bool false)) rfl rfl rfl
 ·
  refine w_op (a := .raw (.bool false)) rfl rfl rfl (op_q (q_bool rfl hc1)) (by dsimp only [aput, List.set]) ?_
  refine w_met rfl rfl ?_
  refine w_op (a := .raw (.int .i64 x5.2.1)) rfl rfl rfl rfl (by dsimp only [aput, List.set]) ?_
  refine w_met rfl rfl ?_
  refine w_op (a := .raw (.bool (x5.2.1 != 0))) rfl rfl rfl rfl (by dsimp only [aput, List.set]) ?_
  refine w_op (a := .raw (.bool (x5.2.1 != 0))) rfl rfl rfl rfl (by dsimp only [aput, List.set]) ?_
  refine bif_e h (fun hc2 h => ?_) (fun hc2 h => ?_)
  ·
   refine w_op (a := .raw (.bool true)) rfl rfl rfl (op_q (q_bool rfl hc2)) (by dsimp only [aput, List.set]) ?_
   refine w_pass rfl rfl (by decide) (by dsimp only [aput, List.set]) ?_
   refine w_pass rfl rfl (by decide) (by dsimp only [aput, List.set]) ?_
   refine w_pass rfl rfl (by decide) (by dsimp only [aput, List.set]) ?_
   refine w_pass rfl rfl (by decide) (by dsimp only [aput, List.set]) ?_
   refine w_op (a := .raw (.bool true)) rfl rfl rfl rfl (by dsimp only [aput, List.set]) ?_
   refine w_op (a := .raw (.bool true)) rfl rfl rfl rfl (by dsimp only [aput, List.set]) ?_
   refine w_pass rfl rfl (by decide) (by dsimp only [aput, List.set]) ?_
   refine w_pass rfl rfl (by decide) (by dsimp only [aput, List.set]) ?_
   refine w_pass rfl rfl (by decide) (by dsimp only [aput, List.set]) ?_
   refine w_pass rfl rfl (by decide) (by dsimp only [aput, List.set]) ?_
   refine w_pass rfl rfl (by decide) (by dsimp only [aput, List.set]) ?_
   refine w_pass rfl rfl (by decide) (by dsimp only [aput, List.set]) ?_
   refine w_pass rfl rfl (by decide) (by dsimp only [aput, List.set]) ?_
   refine w_op (a := .raw (.bool true)) rfl rfl rfl rfl (by dsimp only [aput, List.set]) ?_
   refine w_true rfl ?_
   refine w_seq (w_region ?_)
   refine w_op (a := .raw (.bool false)) rfl rfl rfl rfl (by dsimp only [aput, List.set]) ?_
   exact end_pureF (fun (r : Bool) => (.raw (.bool r) : AV)) h (a := .raw (.bool false)) rfl rfl rfl
  ·
   refine w_op (a := .raw (.bool false)) rfl rfl rfl (op_q (q_bool rfl hc2)) (by dsimp only [aput, List.set]) ?_
   refine w_met rfl rfl ?_
   refine w_op (a := .agg (Enc.cells (x5.1 : Trc))) rfl rfl rfl rfl (by dsimp only [aput, List.set]) ?_
   refine w_met rfl rfl ?_
   refine w_op (a := .agg (Enc.cells (x1 : Trc))) rfl rfl rfl rfl (by dsimp only [aput, List.set]) ?_
   refine w_met rfl rfl ?_
   obtain ⟨x6, hx6, h⟩ := bindE_e h
   refine w_callc (args' := [.agg (Enc.cells (x5.1 : Trc)), .agg (Enc.cells (x1 : Trc))]) (r := .raw (.bool x6)) (same_sh fuel x5.1 x1 x6 hx6) rfl rfl (stripL_cons (strip_c (clo_agg (Enc.clo _))) (stripL_cons (strip_c (clo_agg (Enc.clo _))) rfl)) (okTrimL_cons (okTrim_clo _ _ (clo_agg (Enc.clo _))) (okTrimL_cons (okTrim_clo _ _ (clo_agg (Enc.clo _))) rfl)) (by dsimp only [aput, List.set]) ?_
   refine w_met rfl rfl ?_
   refine w_op (a := .raw (.bool (!x6))) rfl rfl rfl rfl (by dsimp only [aput, List.set]) ?_
   refine w_op (a := .raw (.bool (!x6))) rfl rfl rfl rfl (by dsimp only [aput, List.set]) ?_
   refine bif_e h (fun hc3 h => ?_) (fun hc3 h => ?_)
   ·
    refine w_op (a := .raw (.bool true)) rfl rfl rfl (op_q (q_bool rfl hc3)) (by dsimp only [aput, List.set]) ?_
    refine w_pass rfl rfl (by decide) (by dsimp only [aput, List.set]) ?_
    refine w_pass rfl rfl (by decide) (by dsimp only [aput, List.set]) ?_
    refine w_pass rfl rfl (by decide) (by dsimp only [aput, List.set]) ?_
    refine w_pass rfl rfl (by decide) (by dsimp only [aput, List.set]) ?_
    refine w_pass rfl rfl (by decide) (by dsimp only [aput, List.set]) ?_
    refine w_pass rfl rfl (by decide) (by dsimp only [aput, List.set]) ?_
    refine w_pass rfl rfl (by decide) (by dsimp only [aput, List.set]) ?_
    refine w_op (a := .raw (.bool true)) rfl rfl rfl rfl (by dsimp only [aput, List.set]) ?_
    refine w_true rfl ?_
    refine w_seq (w_region ?_)
    refine w_op (a := .raw (.bool false)) rfl rfl rfl rfl (by dsimp only [aput, List.set]) ?_
    exact end_pureF (fun (r : Bool) => (.raw (.bool r) : AV)) h (a := .raw (.bool false)) rfl rfl rfl
   ·
    refine w_op (a := .raw (.bool false)) rfl rfl rfl (op_q (q_bool rfl hc3)) (by dsimp only [aput, List.set]) ?_
    refine w_met rfl rfl ?_
    refine w_op (a := .raw (.string (bs x3.1))) rfl rfl rfl rfl (by dsimp only [aput, List.set]) ?_
    refine w_met rfl rfl ?_
    refine w_op (a := .raw (.string (bs x4.1))) rfl rfl rfl rfl (by dsimp only [aput, List.set]) ?_
    refine w_met rfl rfl ?_
    refine w_op (a := .raw (.bool (x3.1 == x4.1))) rfl rfl rfl (op_q (q_streq rfl rfl rfl)) (by dsimp only [aput, List.set]) ?_
    refine w_met rfl rfl ?_
    refine w_op (a := .agg (Enc.cells (x1 : Trc))) rfl rfl rfl rfl (by dsimp only [aput, List.set]) ?_
    refine w_met rfl rfl ?_
    refine w_op (a := .agg (Enc.cells (x2 : Trc))) rfl rfl rfl rfl (by dsimp only [aput, List.set]) ?_
    refine w_met rfl rfl ?_
    obtain ⟨x7, hx7, h⟩ := bindE_e h
    refine w_callc (args' := [.agg (Enc.cells (x1 : Trc)), .agg (Enc.cells (x2 : Trc))]) (r := .raw (.bool x7)) (same_sh fuel x1 x2 x7 hx7) rfl rfl (stripL_cons (strip_c (clo_agg (Enc.clo _))) (stripL_cons (strip_c (clo_agg (Enc.clo _))) rfl)) (okTrimL_cons (okTrim_clo _ _ (clo_agg (Enc.clo _))) (okTrimL_cons (okTrim_clo _ _ (clo_agg (Enc.clo _))) rfl)) (by dsimp only [aput, List.set]) ?_
    refine w_met rfl rfl ?_
    refine w_op (a := .raw (.bool (!((x3.1 == x4.1) == x7)))) rfl rfl rfl (op_q (by kernel_rfl)) (by dsimp only [aput, List.set]) ?_
    refine w_op (a := .raw (.bool (!((x3.1 == x4.1) == x7)))) rfl rfl rfl rfl (by dsimp only [aput, List.set]) ?_
    refine bif_e h (fun hc4 h => ?_) (fun hc4 h => ?_)
    ·
     refine w_condT hc4 rfl ?_
     refine w_seq (w_region ?_)
     refine w_op (a := .raw (.bool false)) rfl rfl rfl rfl (by dsimp only [aput, List.set]) ?_
     exact end_pureF (fun (r : Bool) => (.raw (.bool r) : AV)) h (a := .raw (.bool false)) rfl rfl rfl
    ·
     refine w_condF hc4 rfl ?_
     refine w_seq ?_
     refine w_seq (w_region ?_)
     refine w_op (a := .raw (.string (bs any))) rfl rfl rfl rfl (by dsimp only [aput, List.set]) ?_
     refine w_op (a := .raw (.int .i64 (List.length any : Int))) rfl rfl rfl (op_q (q_lenS rfl rfl rfl)) (by dsimp only [aput, List.set]) ?_
     refine w_op (a := .raw (.bool (decide ((List.length any : Int) > 1000)))) rfl rfl rfl rfl (by dsimp only [aput, List.set]) ?_
     refine bif_e h (fun hc5 h => ?_) (fun hc5 h => ?_)
     ·
      refine w_condT hc5 rfl ?_
      refine w_seq (w_region ?_)
      refine w_callc (args' := []) (r := .raw (.bool true)) awake_pure rfl rfl rfl rfl (by dsimp only [aput, List.set]) ?_
      refine w_op (a := .raw (.bool true)) rfl rfl rfl rfl (by dsimp only [aput, List.set]) ?_
      exact end_pureF (fun (r : Bool) => (.raw (.bool r) : AV)) h (a := .raw (.bool true)) rfl rfl rfl
     ·
      refine w_condF hc5 rfl ?_
      refine w_seq (w_region ?_)
      refine w_op (a := .raw (.string (bs any))) rfl rfl rfl rfl (by dsimp only [aput, List.set]) ?_
      obtain ⟨x8, hx8, h⟩ := bindE_e h
      refine w_callc (args' := [.raw (.string (bs any))]) (r := .tup [.agg (Enc.cells (x8.1 : Trc)), .raw (.int .i64 x8.2.1), .raw (.int .i64 x8.2.2)]) (read_sh fuel any x8 hx8) rfl rfl (stripL_cons rfl rfl) (okTrimL_cons rfl rfl) (by dsimp only [aput, List.set]) ?_
      refine w_op (a := .tup [.agg (Enc.cells (x8.1 : Trc)), .raw (.int .i64 x8.2.1), .raw (.int .i64 x8.2.2)]) rfl rfl rfl rfl (by dsimp only [aput, List.set]) ?_
      refine w_op (a := .agg (Enc.cells (x8.1 : Trc))) rfl rfl rfl rfl (by dsimp only [aput, List.set]) ?_
      refine w_op (a := .raw (.int .i64 x8.2.1)) rfl rfl rfl rfl (by dsimp only [aput, List.set]) ?_
      refine w_op (a := .raw (.int .i64 x8.2.2)) rfl rfl rfl rfl (by dsimp only [aput, List.set]) ?_
      refine w_opm (a := .ptr 3 0) (σ'' := ⟨[(26, (Enc.cells (x1 : Trc))), (26, (Enc.cells (x2 : Trc))), (26, (Enc.cells (x5.1 : Trc))), (26, [.list 0 [] .full, .raw (.int .u8 0), .raw (.int .i64 0)])], [], [], 0, false⟩) rfl rfl rfl rfl (by dsimp only [aput, List.set]) rfl ?_
      refine w_opm (σ'' := ⟨[(26, (Enc.cells (x1 : Trc))), (26, (Enc.cells (x2 : Trc))), (26, (Enc.cells (x5.1 : Trc))), (26, (Enc.cells (x8.1 : Trc)))], [], [], 0, false⟩) rfl rfl rfl (op_storeW (n := 3) rfl rfl rfl rfl rfl rfl rfl rfl (by decide)) (by dsimp only [aput, List.set]) rfl ?_
      refine w_op (a := .raw (.int .i64 x8.2.1)) rfl rfl rfl rfl (by dsimp only [aput, List.set]) ?_
      refine w_op (a := .raw (.int .i64 x8.2.2)) rfl rfl rfl rfl (by dsimp only [aput, List.set]) ?_
      refine w_seq ?_
      refine w_seq (w_region ?_)
      refine w_op (a := .raw (.int .i64 x8.2.2)) rfl rfl rfl rfl (by dsimp only [aput, List.set]) ?_
      refine w_op (a := .raw (.bool (x8.2.2 != 0))) rfl rfl rfl rfl (by dsimp only [aput, List.set]) ?_
      refine bif_e h (fun hc6 h => ?_) (fun hc6 h => ?_)
      ·
       refine w_condT hc6 rfl ?_
       refine w_seq (w_region ?_)
       refine w_op (a := .raw (.int .i64 x8.2.1)) rfl rfl rfl rfl (by dsimp only [aput, List.set]) ?_
       refine w_op (a := .raw (.bool (decide (x8.2.1 ≥ 1)))) rfl rfl rfl rfl (by dsimp only [aput, List.set]) ?_
       refine bif_e h (fun hc7 h => ?_) (fun hc7 h => ?_)
       ·
        refine w_op (a := .raw (.bool true)) rfl rfl rfl (op_q (q_bool rfl hc7)) (by dsimp only [aput, List.set]) ?_
        refine w_met rfl rfl ?_
        refine w_op (a := .raw (.int .i64 x8.2.2)) rfl rfl rfl rfl (by dsimp only [aput, List.set]) ?_
        refine w_met rfl rfl ?_
        refine w_op (a := .raw (.bool (x8.2.2 == 332))) rfl rfl rfl rfl (by dsimp only [aput, List.set]) ?_
        refine w_op (a := .raw (.bool (x8.2.2 == 332))) rfl rfl rfl rfl (by dsimp only [aput, List.set]) ?_
        refine bif_e h (fun hc8 h => ?_) (fun hc8 h => ?_)
        ·
         refine w_op (a := .raw (.bool true)) rfl rfl rfl (op_q (q_bool rfl hc8)) (by dsimp only [aput, List.set]) ?_
         refine w_met rfl rfl ?_
         refine w_op (a := .agg (Enc.cells (x8.1 : Trc))) rfl rfl rfl rfl (by dsimp only [aput, List.set]) ?_
         refine w_met rfl rfl ?_
         refine w_qs (.agg (Enc.cells ((Trc.mk [] (Ed.mk 0 0)) : Trc))) (a0 := (trcR (Trc.mk [] (Ed.mk 0 0)) .full)) rfl rfl rfl (by kernel_rfl) (strip_trcR _ _) (by dsimp only [aput, List.set]) ?_
         refine w_met rfl rfl ?_
         obtain ⟨x9, hx9, h⟩ := bindE_e h
         refine w_callc (args' := [.agg (Enc.cells (x8.1 : Trc)), .agg (Enc.cells ((Trc.mk [] (Ed.mk 0 0)) : Trc))]) (r := .raw (.bool x9)) (same_sh fuel x8.1 (Trc.mk [] (Ed.mk 0 0)) x9 hx9) rfl rfl (stripL_cons (strip_c (clo_agg (Enc.clo _))) (stripL_cons (strip_c (clo_agg (Enc.clo _))) rfl)) (okTrimL_cons (okTrim_clo _ _ (clo_agg (Enc.clo _))) (okTrimL_cons (okTrim_clo _ _ (clo_agg (Enc.clo _))) rfl)) (by dsimp only [aput, List.set]) ?_
         refine w_op (a := .raw (.bool x9)) rfl rfl rfl rfl (by dsimp only [aput, List.set]) ?_
         refine bif_e h (fun hc9 h => ?_) (fun hc9 h => ?_)
         ·
          refine w_op (a := .raw (.bool true)) rfl rfl rfl (op_q (q_bool rfl hc9)) (by dsimp only [aput, List.set]) ?_
          refine w_met rfl rfl ?_
          refine w_callc (args' := []) (r := .raw (.bool true)) awake_pure rfl rfl rfl rfl (by dsimp only [aput, List.set]) ?_
          refine w_op (a := .raw (.bool true)) rfl rfl rfl rfl (by dsimp only [aput, List.set]) ?_
          refine w_op (a := .raw (.bool true)) rfl rfl rfl rfl (by dsimp only [aput, List.set]) ?_
          exact end_pureF (fun (r : Bool) => (.raw (.bool r) : AV)) h (a := .raw (.bool true)) rfl rfl rfl
         ·
          refine w_op (a := .raw (.bool false)) rfl rfl rfl (op_q (q_bool rfl hc9)) (by dsimp only [aput, List.set]) ?_
          refine w_pass rfl rfl (by decide) (by dsimp only [aput, List.set]) ?_
          refine w_op (a := .raw (.bool false)) rfl rfl rfl rfl (by dsimp only [aput, List.set]) ?_
          refine w_op (a := .raw (.bool false)) rfl rfl rfl rfl (by dsimp only [aput, List.set]) ?_
          exact end_pureF (fun (r : Bool) => (.raw (.bool r) : AV)) h (a := .raw (.bool false)) rfl rfl rfl
        ·
         refine w_op (a := .raw (.bool false)) rfl rfl rfl (op_q (q_bool rfl hc8)) (by dsimp only [aput, List.set]) ?_
         refine w_pass rfl rfl (by decide) (by dsimp only [aput, List.set]) ?_
         refine w_pass rfl rfl (by decide) (by dsimp only [aput, List.set]) ?_
         refine w_pass rfl rfl (by decide) (by dsimp only [aput, List.set]) ?_
         refine w_op (a := .raw (.bool false)) rfl rfl rfl rfl (by dsimp only [aput, List.set]) ?_
         refine w_op (a := .raw (.bool false)) rfl rfl rfl rfl (by dsimp only [aput, List.set]) ?_
         refine w_pass rfl rfl (by decide) (by dsimp only [aput, List.set]) ?_
         refine w_op (a := .raw (.bool false)) rfl rfl rfl rfl (by dsimp only [aput, List.set]) ?_
         refine w_op (a := .raw (.bool false)) rfl rfl rfl rfl (by dsimp only [aput, List.set]) ?_
         exact end_pureF (fun (r : Bool) => (.raw (.bool r) : AV)) h (a := .raw (.bool false)) rfl rfl rfl
       ·
        refine w_op (a := .raw (.bool false)) rfl rfl rfl (op_q (q_bool rfl hc7)) (by dsimp only [aput, List.set]) ?_
        refine w_pass rfl rfl (by decide) (by dsimp only [aput, List.set]) ?_
        refine w_pass rfl rfl (by decide) (by dsimp only [aput, List.set]) ?_
        refine w_op (a := .raw (.bool false)) rfl rfl rfl rfl (by dsimp only [aput, List.set]) ?_
        refine w_op (a := .raw (.bool false)) rfl rfl rfl rfl (by dsimp only [aput, List.set]) ?_
        refine w_pass rfl rfl (by decide) (by dsimp only [aput, List.set]) ?_
        refine w_pass rfl rfl (by decide) (by dsimp only [aput, List.set]) ?_
        refine w_pass rfl rfl (by decide) (by dsimp only [aput, List.set]) ?_
        refine w_op (a := .raw (.bool false)) rfl rfl rfl rfl (by dsimp only [aput, List.set]) ?_
        refine w_op (a := .raw (.bool false)) rfl rfl rfl rfl (by dsimp only [aput, List.set]) ?_
        refine w_pass rfl rfl (by decide) (by dsimp only [aput, List.set]) ?_
        refine w_op (a := .raw (.bool false)) rfl rfl rfl rfl (by dsimp only [aput, List.set]) ?_
        refine w_op (a := .raw (.bool false)) rfl rfl rfl rfl (by dsimp only [aput, List.set]) ?_
        exact end_pureF (fun (r : Bool) => (.raw (.bool r) : AV)) h (a := .raw (.bool false)) rfl rfl rfl
      ·
       refine w_condF hc6 rfl ?_
       refine w_seq (w_region ?_)
       refine w_op (a := .agg (Enc.cells (x8.1 : Trc))) rfl rfl rfl rfl (by dsimp only [aput, List.set]) ?_
       obtain ⟨x10, hx10, h⟩ := bindE_e h
       refine w_callc (args' := [.agg (Enc.cells (x8.1 : Trc))]) (r := .tup [.raw (.string (bs x10.1)), .raw (.int .i64 x10.2)]) (write_sh fuel x8.1 x10 hx10) rfl rfl (stripL_cons (strip_c (clo_agg (Enc.clo _))) rfl) (okTrimL_cons (okTrim_clo _ _ (clo_agg (Enc.clo _))) rfl) (by dsimp only [aput, List.set]) ?_
       refine w_op (a := .tup [.raw (.string (bs x10.1)), .raw (.int .i64 x10.2)]) rfl rfl rfl rfl (by dsimp only [aput, List.set]) ?_
       refine w_op (a := .raw (.string (bs x10.1))) rfl rfl rfl rfl (by dsimp only [aput, List.set]) ?_
       refine w_op (a := .raw (.int .i64 x10.2)) rfl rfl rfl rfl (by dsimp only [aput, List.set]) ?_
       refine w_op (a := .raw (.string (bs x10.1))) rfl rfl rfl rfl (by dsimp only [aput, List.set]) ?_
       refine w_op (a := .raw (.int .i64 x10.2)) rfl rfl rfl rfl (by dsimp only [aput, List.set]) ?_
       refine w_seq (w_region ?_)
       refine w_op (a := .raw (.int .i64 x10.2)) rfl rfl rfl rfl (by dsimp only [aput, List.set]) ?_
       refine w_op (a := .raw (.bool (x10.2 == 0))) rfl rfl rfl rfl (by dsimp only [aput, List.set]) ?_
       refine bif_e h (fun hc10 h => ?_) (fun hc10 h => ?_)
       ·
        refine w_op (a := .raw (.bool true)) rfl rfl rfl (op_q (q_bool rfl hc10)) (by dsimp only [aput, List.set]) ?_
        refine w_met rfl rfl ?_
        refine w_op (a := .raw (.string (bs x10.1))) rfl rfl rfl rfl (by dsimp only [aput, List.set]) ?_
        refine w_met rfl rfl ?_
        refine w_op (a := .raw (.string (bs any))) rfl rfl rfl rfl (by dsimp only [aput, List.set]) ?_
        refine w_met rfl rfl ?_
        refine w_op (a := .raw (.bool (x10.1 == any))) rfl rfl rfl (op_q (q_streq rfl rfl rfl)) (by dsimp only [aput, List.set]) ?_
        refine w_op (a := .raw (.bool (x10.1 == any))) rfl rfl rfl rfl (by dsimp only [aput, List.set]) ?_
        refine bif_e h (fun hc11 h => ?_) (fun hc11 h => ?_)
        ·
         refine w_op (a := .raw (.bool true)) rfl rfl rfl (op_q (q_bool rfl hc11)) (by dsimp only [aput, List.set]) ?_
         refine w_met rfl rfl ?_
         refine w_callc (args' := []) (r := .raw (.bool true)) awake_pure rfl rfl rfl rfl (by dsimp only [aput, List.set]) ?_
         refine w_op (a := .raw (.bool true)) rfl rfl rfl rfl (by dsimp only [aput, List.set]) ?_
         refine w_op (a := .raw (.bool true)) rfl rfl rfl rfl (by dsimp only [aput, List.set]) ?_
         exact end_pureF (fun (r : Bool) => (.raw (.bool r) : AV)) h (a := .raw (.bool true)) rfl rfl rfl
        ·
         refine w_op (a := .raw (.bool false)) rfl rfl rfl (op_q (q_bool rfl hc11)) (by dsimp only [aput, List.set]) ?_
         refine w_pass rfl rfl (by decide) (by dsimp only [aput, List.set]) ?_
         refine w_op (a := .raw (.bool false)) rfl rfl rfl rfl (by dsimp only [aput, List.set]) ?_
         refine w_op (a := .raw (.bool false)) rfl rfl rfl rfl (by dsimp only [aput, List.set]) ?_
         exact end_pureF (fun (r : Bool) => (.raw (.bool r) : AV)) h (a := .raw (.bool false)) rfl rfl rfl
       ·
        refine w_op (a := .raw (.bool false)) rfl rfl rfl (op_q (q_bool rfl hc10)) (by dsimp only [aput, List.set]) ?_
        refine w_pass rfl rfl (by decide) (by dsimp only [aput, List.set]) ?_
        refine w_pass rfl rfl (by decide) (by dsimp only [aput, List.set]) ?_
        refine w_pass rfl rfl (by decide) (by dsimp only [aput, List.set]) ?_
        refine w_op (a := .raw (.bool false)) rfl rfl rfl rfl (by dsimp only [aput, List.set]) ?_
        refine w_op (a := .raw (.bool false)) rfl rfl rfl rfl (by dsimp only [aput, List.set]) ?_
        refine w_pass rfl rfl (by decide) (by dsimp only [aput, List.set]) ?_
        refine w_op (a := .raw (.bool false)) rfl rfl rfl rfl (by dsimp only [aput, List.set]) ?_
        refine w_op (a := .raw (.bool false)) rfl rfl rfl rfl (by dsimp only [aput, List.set]) ?_
        exact end_pureF (fun (r : Bool) => (.raw (.bool r) : AV)) h (a := .raw (.bool false)) rfl rfl rfl
end Go.Ab

