/-
  TraceReads: the walk.
-/
import Derived.Test.YtcdmdnadilafhaaGreatDoorZyRx
import Derived.Test.YtcdmdnadilafhaaGreatDoorZdQo
set_option linter.unusedSimpArgs false
set_option linter.unusedVariables false
namespace Go.Ab
open Go Go.RowKit Go.Fwd Go.Proofs
def F_lequal (fuel : Nat) (a : Trc) (b : Trc) : Option Bool :=
  (bindE (F_theirs fuel a) (fun x1 => (bindE (F_rsame fuel x1 b) (fun x2 => (some x2)))))
theorem ent9 : Ent Tryz.prog 9 := enters_of Tryz.func9 (by kernel_rfl) rfl
set_option maxRecDepth 100000 in
set_option maxHeartbeats 4000000 in
theorem lequal_sh (fuel : Nat) (a : Trc) (b : Trc) (r : Bool) (h : F_lequal fuel a b = some r) : Pure (ITP Tryz.prog) Tryz.prog 9 [.agg (Enc.cells (a : Trc)), .agg (Enc.cells (b : Trc))] (.raw (.bool r)) := by
 obtain ⟨d, hd⟩ : ∃ d, Tryz.f9.body = some d := ⟨_, rfl⟩
 refine pure_of mix Tryz.func9 hd ent9 ?_
 cases hd
 unfold F_lequal at h
 refine w_start (by dsimp only [abeginS, Tryz.f9, List.length_cons, List.length_nil, Nat.zero_add, Nat.reduceAdd, Nat.reduceSub, List.replicate, List.cons_append, List.nil_append]) (by dsimp only [St.empty]) ?_
 refine w_seq (w_region ?_)
 refine w_om (a := .ptr 0 0) (σ'' := ⟨[(27, (Enc.cells (a : Trc)))], [], [], 0, false⟩) ?_
 refine w_om (a := .ptr 1 0) (σ'' := ⟨[(27, (Enc.cells (a : Trc))), (34, (Enc.cells (b : Trc)))], [], [], 0, false⟩) ?_
 refine w_o (a := .raw (.bool false)) ?_
 refine w_seq ?_
 refine w_draw (k0 := 0) (id := 1) 3 (by kernel_rfl) (by kernel_rfl) ?_
 refine h_o (a := .agg (Enc.cells (a : Trc))) ?_
 obtain ⟨x1, hx1, h⟩ := bindE_e h
 refine h_call (args' := [.agg (Enc.cells (a : Trc))]) (r := .agg (Enc.cells (x1 : Trc))) (theirs_sh fuel a x1 hx1) rfl rfl rfl (stripL_cons (strip_c (clo_agg (Enc.clo _))) rfl) (okTrimL_cons (okTrim_clo _ _ (clo_agg (Enc.clo _))) rfl) (by dsimp only [aput, List.set]) ?_
 refine h_o (a := .agg (Enc.cells (b : Trc))) ?_
 refine h_end ?_
 obtain ⟨x2, hx2, h⟩ := bindE_e h
 refine w_callc (args' := [.agg (Enc.cells (x1 : Trc)), .agg (Enc.cells (b : Trc))]) (r := .raw (.bool x2)) (rsame_sh fuel x1 b x2 hx2) rfl rfl (stripL_cons (strip_c (clo_agg (Enc.clo _))) (stripL_cons (strip_c (clo_agg (Enc.clo _))) rfl)) (okTrimL_cons (okTrim_clo _ _ (clo_agg (Enc.clo _))) (okTrimL_cons (okTrim_clo _ _ (clo_agg (Enc.clo _))) rfl)) (by dsimp only [aput, List.set]) ?_
 refine w_o (a := .raw (.bool x2)) ?_
 exact end_pureF (fun (r : Bool) => (.raw (.bool r) : AV)) h (a := .raw (.bool x2)) rfl rfl rfl
def F_tracereads (fuel : Nat) (s : (List UInt8)) : Option Bool :=
  (cutE (τ := Unit) (bif (decide ((List.length s : Int) > 2000)) then (bif (decide ((List.length s : Int) ≤ 1048576)) then (some (Sum.inr true)) else (bif (decide ((List.length s : Int) ≥ 1050000)) then (some (Sum.inr true)) else (some (Sum.inl ())))) else (bif (decide ((List.length s : Int) ≥ 1050000)) then (some (Sum.inr true)) else (some (Sum.inl ())))) (fun j1 => (bindE (F_read fuel s) (fun x1 => (bindE (F_rread fuel s) (fun x2 => (bindE (F_lequal fuel x1.1 x2.1) (fun x3 => (bif x3 then (bif (x1.2.1 == x2.2.1) then (bif (x1.2.2 == x2.2.2) then (some true) else (some false)) else (some false)) else (some false))))))))))
theorem ent3 : Ent Tryz.prog 3 := enters_of Tryz.func3 (by kernel_rfl) rfl
set_option maxRecDepth 100000 in
set_option maxHeartbeats 4000000 in
theorem tracereads_sh (fuel : Nat) (s : (List UInt8)) (r : Bool) (h : F_tracereads fuel s = some r) : Pure (ITP Tryz.prog) Tryz.prog 3 [.raw (.string (bs s))] (.raw (.bool r)) := by
 obtain ⟨d, hd⟩ : ∃ d, Tryz.f3.body = some d := ⟨_, rfl⟩
 refine pure_of mix Tryz.func3 hd ent3 ?_
 cases hd
 unfold F_tracereads at h
 refine w_start (by dsimp only [abeginS, Tryz.f3, List.length_cons, List.length_nil, Nat.zero_add, Nat.reduceAdd, Nat.reduceSub, List.replicate, List.cons_append, List.nil_append]) (by dsimp only [St.empty]) ?_
 refine w_seq (w_region ?_)
 refine w_o (a := .raw (.bool false)) ?_
 refine w_cutF h [1, 2, 3, 4, 5, 6, 7, 8, 9, 10, 11, 12, 13, 14, 15, 16, 17, 18, 19, 20, 21, 22, 23, 24, 25, 26, 27, 28, 29, 30, 31, 32, 33, 34, 35, 36, 37, 38, 39, 40, 41, 42, 43, 44, 45, 46, 47, 48, 49, 50] (fun j1 => []) (fun j1 => ⟨[], [], [], 0, false⟩) ?_ ?_
 intro or1 h hr1
 refine w_seq (w_region ?_)
 refine w_o (a := .raw (.string (bs s))) ?_
 refine w_o (a := .raw (.int .i64 (List.length s : Int))) (h := op_q (q_lenS rfl rfl rfl)) ?_
 refine w_o (a := .raw (.bool (decide ((List.length s : Int) > 2000)))) ?_
 refine bif_e h (fun hc1 h => ?_) (fun hc1 h => ?_)
 refine w_o (a := .raw (.bool true)) (h := op_q (q_bool rfl hc1)) ?_
 refine w_met rfl rfl ?_
 refine w_o (a := .raw (.string (bs s))) ?_
 refine w_met rfl rfl ?_
 refine w_o (a := .raw (.int .i64 (List.length s : Int))) (h := op_q (q_lenS rfl rfl rfl)) ?_
 refine w_met rfl rfl ?_
 refine w_o (a := .raw (.bool (decide ((List.length s : Int) ≤ 1048576)))) ?_
 refine w_o (a := .raw (.bool (decide ((List.length s : Int) ≤ 1048576)))) ?_
 refine bif_e h (fun hc2 h => ?_) (fun hc2 h => ?_)
 refine w_o (a := .raw (.bool true)) (h := op_q (q_bool rfl hc2)) ?_
 refine w_po ?_
 refine w_po ?_
 refine w_po ?_
 refine w_o (a := .raw (.bool true)) ?_
 refine w_true rfl ?_
 refine w_seq (w_region ?_)
 refine w_callc (args' := []) (r := .raw (.bool true)) awake_pure rfl rfl rfl rfl (by dsimp only [aput, List.set]) ?_
 refine w_o (a := .raw (.bool true)) ?_
 replace h := cut_inr h hr1
 exact end_pureF (fun (r : Bool) => (.raw (.bool r) : AV)) h (a := .raw (.bool true)) rfl rfl rfl
 refine w_o (a := .raw (.bool false)) (h := op_q (q_bool rfl hc2)) ?_
 refine w_met rfl rfl ?_
 refine w_o (a := .raw (.string (bs s))) ?_
 refine w_met rfl rfl ?_
 refine w_o (a := .raw (.int .i64 (List.length s : Int))) (h := op_q (q_lenS rfl rfl rfl)) ?_
 refine w_met rfl rfl ?_
 refine w_o (a := .raw (.bool (decide ((List.length s : Int) ≥ 1050000)))) ?_
 refine w_o (a := .raw (.bool (decide ((List.length s : Int) ≥ 1050000)))) ?_
 refine bif_e h (fun hc3 h => ?_) (fun hc3 h => ?_)
 refine w_condT hc3 rfl ?_
 refine w_seq (w_region ?_)
 refine w_callc (args' := []) (r := .raw (.bool true)) awake_pure rfl rfl rfl rfl (by dsimp only [aput, List.set]) ?_
 refine w_o (a := .raw (.bool true)) ?_
 replace h := cut_inr h hr1
 exact end_pureF (fun (r : Bool) => (.raw (.bool r) : AV)) h (a := .raw (.bool true)) rfl rfl rfl
 refine w_condF hc3 rfl ?_
 refine cut_done (o := or1) () h ?_
 exact wm_of (bl 51 1) (by kernel_rfl) (by kernel_rfl)
 refine w_o (a := .raw (.bool false)) (h := op_q (q_bool rfl hc1)) ?_
 refine w_po ?_
 refine w_po ?_
 refine w_po ?_
 refine w_o (a := .raw (.bool false)) ?_
 refine w_o (a := .raw (.bool false)) ?_
 refine w_met rfl rfl ?_
 refine w_o (a := .raw (.string (bs s))) ?_
 refine w_met rfl rfl ?_
 refine w_o (a := .raw (.int .i64 (List.length s : Int))) (h := op_q (q_lenS rfl rfl rfl)) ?_
 refine w_met rfl rfl ?_
 refine w_o (a := .raw (.bool (decide ((List.length s : Int) ≥ 1050000)))) ?_
 refine w_o (a := .raw (.bool (decide ((List.length s : Int) ≥ 1050000)))) ?_
 refine bif_e h (fun hc4 h => ?_) (fun hc4 h => ?_)
 refine w_condT hc4 rfl ?_
 refine w_seq (w_region ?_)
 refine w_callc (args' := []) (r := .raw (.bool true)) awake_pure rfl rfl rfl rfl (by dsimp only [aput, List.set]) ?_
 refine w_o (a := .raw (.bool true)) ?_
 replace h := cut_inr h hr1
 exact end_pureF (fun (r : Bool) => (.raw (.bool r) : AV)) h (a := .raw (.bool true)) rfl rfl rfl
 refine w_condF hc4 rfl ?_
 refine cut_done (o := or1) () h ?_
 exact wm_of (bl 51 1) (by kernel_rfl) (by kernel_rfl)
 intro j1 h
 refine w_start (by dsimp only [setAll, topAll, List.foldl, List.set]) rfl ?_
 refine w_seq (w_region ?_)
 refine w_o (a := .raw (.string (bs s))) ?_
 obtain ⟨x1, hx1, h⟩ := bindE_e h
 refine w_callc (args' := [.raw (.string (bs s))]) (r := .tup [.agg (Enc.cells (x1.1 : Trc)), .raw (.int .i64 x1.2.1), .raw (.int .i64 x1.2.2)]) (read_sh fuel s x1 hx1) rfl rfl (stripL_cons rfl rfl) (by kernel_rfl) (by dsimp only [aput, List.set]) ?_
 refine w_o (a := .tup [.agg (Enc.cells (x1.1 : Trc)), .raw (.int .i64 x1.2.1), .raw (.int .i64 x1.2.2)]) ?_
 refine w_o (a := .agg (Enc.cells (x1.1 : Trc))) ?_
 refine w_o (a := .raw (.int .i64 x1.2.1)) ?_
 refine w_o (a := .raw (.int .i64 x1.2.2)) ?_
 refine w_om (a := .ptr 0 0) (σ'' := ⟨[(27, [.list 0 [] .full, .raw (.int .u8 0), .raw (.int .i64 0)])], [], [], 0, false⟩) ?_
 refine w_om (σ'' := ⟨[(27, (Enc.cells (x1.1 : Trc)))], [], [], 0, false⟩) (h := op_storeW (n := 3) rfl rfl rfl rfl rfl rfl rfl rfl (by decide)) ?_
 refine w_o (a := .raw (.int .i64 x1.2.1)) ?_
 refine w_o (a := .raw (.int .i64 x1.2.2)) ?_
 refine w_seq (w_region ?_)
 refine w_o (a := .raw (.string (bs s))) ?_
 obtain ⟨x2, hx2, h⟩ := bindE_e h
 refine w_callc (args' := [.raw (.string (bs s))]) (r := .tup [.agg (Enc.cells (x2.1 : Trc)), .raw (.int .i64 x2.2.1), .raw (.int .i64 x2.2.2)]) (rread_sh fuel s x2 hx2) rfl rfl (stripL_cons rfl rfl) (by kernel_rfl) (by dsimp only [aput, List.set]) ?_
 refine w_o (a := .tup [.agg (Enc.cells (x2.1 : Trc)), .raw (.int .i64 x2.2.1), .raw (.int .i64 x2.2.2)]) ?_
 refine w_o (a := .agg (Enc.cells (x2.1 : Trc))) ?_
 refine w_o (a := .raw (.int .i64 x2.2.1)) ?_
 refine w_o (a := .raw (.int .i64 x2.2.2)) ?_
 refine w_om (a := .ptr 1 0) (σ'' := ⟨[(27, (Enc.cells (x1.1 : Trc))), (34, [.list 0 [] .full, .raw (.int .u8 0), .raw (.int .i64 0)])], [], [], 0, false⟩) ?_
 refine w_om (σ'' := ⟨[(27, (Enc.cells (x1.1 : Trc))), (34, (Enc.cells (x2.1 : Trc)))], [], [], 0, false⟩) (h := op_storeW (n := 3) rfl rfl rfl rfl rfl rfl rfl rfl (by decide)) ?_
 refine w_o (a := .raw (.int .i64 x2.2.1)) ?_
 refine w_o (a := .raw (.int .i64 x2.2.2)) ?_
 refine w_seq (w_region ?_)
 refine w_o (a := .agg (Enc.cells (x1.1 : Trc))) ?_
 refine w_o (a := .agg (Enc.cells (x2.1 : Trc))) ?_
 obtain ⟨x3, hx3, h⟩ := bindE_e h
 refine w_callc (args' := [.agg (Enc.cells (x1.1 : Trc)), .agg (Enc.cells (x2.1 : Trc))]) (r := .raw (.bool x3)) (lequal_sh fuel x1.1 x2.1 x3 hx3) rfl rfl (stripL_cons (strip_c (clo_agg (Enc.clo _))) (stripL_cons (strip_c (clo_agg (Enc.clo _))) rfl)) (okTrimL_cons (okTrim_clo _ _ (clo_agg (Enc.clo _))) (okTrimL_cons (okTrim_clo _ _ (clo_agg (Enc.clo _))) rfl)) (by dsimp only [aput, List.set]) ?_
 refine bif_e h (fun hc5 h => ?_) (fun hc5 h => ?_)
 refine w_o (a := .raw (.bool true)) (h := op_q (q_bool rfl hc5)) ?_
 refine w_met rfl rfl ?_
 refine w_o (a := .raw (.int .i64 x1.2.1)) ?_
 refine w_met rfl rfl ?_
 refine w_o (a := .raw (.int .i64 x2.2.1)) ?_
 refine w_met rfl rfl ?_
 refine w_o (a := .raw (.bool (x1.2.1 == x2.2.1))) ?_
 refine w_o (a := .raw (.bool (x1.2.1 == x2.2.1))) ?_
 refine bif_e h (fun hc6 h => ?_) (fun hc6 h => ?_)
 refine w_o (a := .raw (.bool true)) (h := op_q (q_bool rfl hc6)) ?_
 refine w_met rfl rfl ?_
 refine w_o (a := .raw (.int .i64 x1.2.2)) ?_
 refine w_met rfl rfl ?_
 refine w_o (a := .raw (.int .i64 x2.2.2)) ?_
 refine w_met rfl rfl ?_
 refine w_o (a := .raw (.bool (x1.2.2 == x2.2.2))) ?_
 refine w_o (a := .raw (.bool (x1.2.2 == x2.2.2))) ?_
 refine bif_e h (fun hc7 h => ?_) (fun hc7 h => ?_)
 refine w_o (a := .raw (.bool true)) (h := op_q (q_bool rfl hc7)) ?_
 refine w_met rfl rfl ?_
 refine w_callc (args' := []) (r := .raw (.bool true)) awake_pure rfl rfl rfl rfl (by dsimp only [aput, List.set]) ?_
 refine w_o (a := .raw (.bool true)) ?_
 refine w_o (a := .raw (.bool true)) ?_
 exact end_pureF (fun (r : Bool) => (.raw (.bool r) : AV)) h (a := .raw (.bool true)) rfl rfl rfl
 refine w_o (a := .raw (.bool false)) (h := op_q (q_bool rfl hc7)) ?_
 refine w_po ?_
 refine w_o (a := .raw (.bool false)) ?_
 refine w_o (a := .raw (.bool false)) ?_
 exact end_pureF (fun (r : Bool) => (.raw (.bool r) : AV)) h (a := .raw (.bool false)) rfl rfl rfl
 refine w_o (a := .raw (.bool false)) (h := op_q (q_bool rfl hc6)) ?_
 refine w_po ?_
 refine w_po ?_
 refine w_po ?_
 refine w_o (a := .raw (.bool false)) ?_
 refine w_o (a := .raw (.bool false)) ?_
 refine w_po ?_
 refine w_o (a := .raw (.bool false)) ?_
 refine w_o (a := .raw (.bool false)) ?_
 exact end_pureF (fun (r : Bool) => (.raw (.bool r) : AV)) h (a := .raw (.bool false)) rfl rfl rfl
 refine w_o (a := .raw (.bool false)) (h := op_q (q_bool rfl hc5)) ?_
 refine w_po ?_
 refine w_po ?_
 refine w_po ?_
 refine w_o (a := .raw (.bool false)) ?_
 refine w_o (a := .raw (.bool false)) ?_
 refine w_po ?_
 refine w_po ?_
 refine w_po ?_
 refine w_o (a := .raw (.bool false)) ?_
 refine w_o (a := .raw (.bool false)) ?_
 refine w_po ?_
 refine w_o (a := .raw (.bool false)) ?_
 refine w_o (a := .raw (.bool false)) ?_
 exact end_pureF (fun (r : Bool) => (.raw (.bool r) : AV)) h (a := .raw (.bool false)) rfl rfl rfl
end Go.Ab

