/-
  trace: Write, Read.
-/
import Derived.Test.YtcdmdnadilafhaaGreatDoorZyWa
import Derived.Test.YtcdmdnadilafhaaGreatDoorZyW7
import Derived.Test.YtcdmdnadilafhaaGreatDoorZdZb
import Derived.Test.YtcdmdnadilafhaaGreatDoorZdQo
set_option linter.unusedSimpArgs false
set_option linter.unusedVariables false
namespace Go.Ab
open Go Go.RowKit Go.Fwd Go.Proofs
def F_ends (fuel : Nat) (t : (List UInt8)) : Option (Ed × Bool) :=
  (chk (List.length t < 4294967281) (letE (Lib.cut t ([32] : List UInt8)) (fun x1 => (cutE (τ := Unit) (loopE (β := Int) (fun s1 => (bif (decide (s1 ≤ 5)) then (chk (0 ≤ s1 ∧ s1 < 256) (letE (nameE s1) (fun x2 => (bif (x2 == x1.1) then (chk (List.length x1.2.1 ≤ 281474976710656) (letE (atoiP x1.2.1) (fun x3 => (bindE (F_ended (Ed.mk s1 x3)) (fun x4 => (bif x4 then (bindE (F_endw (Ed.mk s1 x3)) (fun x5 => (some (Sum.inr (Sum.inr ((Ed.mk s1 x3), (x5 == t))))))) else (some (Sum.inr (Sum.inr ((Ed.mk s1 x3), false)))))))))) else (some (Sum.inl ((IntKind.u8.wrap (s1 + 1))))))))) else (some (Sum.inr (Sum.inl ()))))) fuel (1)) (fun j1 => (some ((Ed.mk 0 0), false)))))))
theorem ent27 : Ent Tryz.prog 27 := enters_of Tryz.func27 (by kernel_rfl) rfl
set_option maxRecDepth 100000 in
set_option maxHeartbeats 4000000 in
theorem ends_sh (fuel : Nat) (t : (List UInt8)) (r : (Ed × Bool)) (h : F_ends fuel t = some r) : Pure (ITP Tryz.prog) Tryz.prog 27 [.raw (.string (bs t))] (.tup [.agg (Enc.cells (r.1 : Ed)), .raw (.bool r.2)]) := by
 obtain ⟨d, hd⟩ : ∃ d, Tryz.f27.body = some d := ⟨_, rfl⟩
 refine pure_of mix Tryz.func27 hd ent27 ?_
 cases hd
 unfold F_ends at h
 refine w_start (by dsimp only [abeginS, Tryz.f27, List.length_cons, List.length_nil, Nat.zero_add, Nat.reduceAdd, Nat.reduceSub, List.replicate, List.cons_append, List.nil_append]) (by dsimp only [St.empty]) ?_
 refine w_seq (w_region ?_)
 refine w_om (a := .ptr 0 0) (σ'' := ⟨[(25, (Enc.cells ((Ed.mk 0 0) : Ed)))], [], [], 0, false⟩) ?_
 refine w_o (a := .raw (.bool false)) ?_
 refine w_seq (w_region ?_)
 refine w_o (a := .raw (.string (bs t))) ?_
 obtain ⟨g1, h⟩ := chk_e h
 obtain ⟨x1, hx1, h⟩ := letE_e h
 refine w_callc (args' := [.raw (.string (bs t)), .raw (.string (bs ([32] : List UInt8)))]) (r := .tup [.raw (.string (bs x1.1)), .raw (.string (bs x1.2.1)), .raw (.bool x1.2.2)]) (by rw [← hx1]; exact (cut_pure t ([32] : List UInt8) g1)) rfl rfl (stripL_cons rfl (stripL_cons rfl rfl)) (by kernel_rfl) (by dsimp only [aput, List.set]) ?_
 refine w_o (a := .tup [.raw (.string (bs x1.1)), .raw (.string (bs x1.2.1)), .raw (.bool x1.2.2)]) ?_
 refine w_o (a := .raw (.string (bs x1.1))) ?_
 refine w_o (a := .raw (.string (bs x1.2.1))) ?_
 refine w_o (a := .raw (.bool x1.2.2)) ?_
 refine w_o (a := .raw (.string (bs x1.1))) ?_
 refine w_o (a := .raw (.string (bs x1.2.1))) ?_
 refine w_o (a := .raw (.bool x1.2.2)) ?_
 refine w_cutF h [0, 1, 3, 4, 5, 6, 7, 8, 9, 10, 11, 12, 13, 14, 15, 16, 17, 18, 19, 20, 21, 22, 23, 24, 25, 26, 27, 28, 29, 30, 31, 32, 33, 34, 35, 36, 37, 38, 39, 40, 41, 42] (fun j1 => []) (fun j1 => ⟨[(25, (Enc.cells ((Ed.mk 0 0) : Ed)))], [], [], 0, false⟩) ?_ ?_
 intro or1 h hr1
 refine w_seq (w_region ?_)
 refine w_o (a := .raw (.int .u8 1)) ?_
 refine w_block ?_
 refine w_loopF h [1, 3, 6, 7, 8, 9, 10, 11, 12, 13, 14, 15, 16, 17, 18, 19, 20, 21, 22, 23, 24, 25, 26, 27, 28, 29, 30, 31, 32, 33, 34, 35, 36, 37, 38, 39, 40, 41, 42] (fun s1 => [(7, .raw (.int .u8 s1))]) (fun s1 => ⟨[(25, (Enc.cells ((Ed.mk 0 0) : Ed)))], [], [], 0, false⟩) ?_ ?_
 exact wm_of (bl 43 181) (by kernel_rfl) (by kernel_rfl)
 intro s1 p1 h
 refine w_start (by dsimp only [setAll, topAll, List.foldl, List.set]) rfl ?_
 refine w_seq ?_
 refine w_seq (w_region ?_)
 refine w_o (a := .raw (.int .u8 s1)) ?_
 refine w_o (a := .raw (.bool (decide (s1 ≤ 5)))) ?_
 refine bif_e h (fun hc1 h => ?_) (fun hc1 h => ?_)
 refine w_condT hc1 rfl ?_
 refine w_seq ?_
 refine w_block ?_
 refine w_seq (w_region ?_)
 refine w_o (a := .raw (.int .u8 s1)) ?_
 obtain ⟨g2, h⟩ := chk_e h
 obtain ⟨x2, hx2, h⟩ := letE_e h
 refine w_callc (args' := [.raw (.int .u8 s1)]) (r := .raw (.string (bs x2))) (by rw [← hx2]; exact (name_pure s1 g2)) rfl rfl (stripL_cons rfl rfl) (by kernel_rfl) (by dsimp only [aput, List.set]) ?_
 refine w_o (a := .raw (.string (bs x1.1))) ?_
 refine w_o (a := .raw (.bool (x2 == x1.1))) (h := op_q (q_streq rfl rfl rfl)) ?_
 refine bif_e h (fun hc2 h => ?_) (fun hc2 h => ?_)
 refine w_condT hc2 rfl ?_
 refine w_seq (w_region ?_)
 refine w_o (a := .raw (.string (bs x1.2.1))) ?_
 obtain ⟨g3, h⟩ := chk_e h
 obtain ⟨x3, hx3, h⟩ := letE_e h
 refine w_callc (args' := [.raw (.string (bs x1.2.1))]) (r := .tup [.raw (.int .i64 x3), .top]) (by rw [← hx3]; exact (atoi_pure x1.2.1 g3)) rfl rfl (stripL_cons rfl rfl) (by kernel_rfl) (by dsimp only [aput, List.set]) ?_
 refine w_o (a := .tup [.raw (.int .i64 x3), .top]) ?_
 refine w_o (a := .raw (.int .i64 x3)) ?_
 refine w_o (a := .top) ?_
 refine w_o (a := .raw (.int .i64 x3)) ?_
 refine w_o (a := .top) ?_
 refine w_seq (w_region ?_)
 refine w_o (a := .raw (.int .u8 s1)) ?_
 refine w_o (a := .raw (.int .i64 x3)) ?_
 refine w_o (a := .agg (Enc.cells ((Ed.mk s1 x3) : Ed))) ?_
 refine w_om (a := .ptr 1 0) (σ'' := ⟨[(25, (Enc.cells ((Ed.mk 0 0) : Ed))), (25, (Enc.cells ((Ed.mk 0 0) : Ed)))], [], [], 0, false⟩) ?_
 refine w_om (σ'' := ⟨[(25, (Enc.cells ((Ed.mk 0 0) : Ed))), (25, (Enc.cells ((Ed.mk s1 x3) : Ed)))], [], [], 0, false⟩) (h := op_storeW (n := 2) rfl rfl rfl rfl rfl rfl rfl rfl (by decide)) ?_
 obtain ⟨x4, hx4, h⟩ := bindE_e h
 refine bif_e h (fun hc3 h => ?_) (fun hc3 h => ?_)
 obtain ⟨x5, hx5, h⟩ := bindE_e h
 refine w_seqAny (id := 8) [.raw (.string (bs t)), .top, .ptr 0 0, .raw (.bool (x5 == t)), .raw (.string (bs x1.1)), .raw (.string (bs x1.2.1)), .top, .raw (.int .u8 s1), .raw (.int .i64 x3), .top, .ptr 1 0, .top, .top, .top, .top, .top, .top, .raw (.int .u8 s1), .raw (.bool (decide (s1 ≤ 5))), .top, .top, .raw (.int .u8 s1), .raw (.string (bs x2)), .raw (.string (bs x1.1)), .raw (.bool (x2 == x1.1)), .tup [.raw (.int .i64 x3), .top], .raw (.string (bs x1.2.1)), .tup [.raw (.int .i64 x3), .top], .raw (.int .i64 x3), .top, .raw (.int .u8 s1), .raw (.int .i64 x3), .agg (Enc.cells ((Ed.mk s1 x3) : Ed)), .agg (Enc.cells ((Ed.mk s1 x3) : Ed)), .agg (Enc.cells ((Ed.mk s1 x3) : Ed)), .raw (.bool x4), .raw (.bool true), .agg (Enc.cells ((Ed.mk s1 x3) : Ed)), .raw (.string (bs x5)), .raw (.string (bs t)), .raw (.bool (x5 == t)), .raw (.bool (x5 == t)), .top] ⟨[(25, (Enc.cells ((Ed.mk s1 x3) : Ed))), (25, (Enc.cells ((Ed.mk s1 x3) : Ed)))], [], [], 0, false⟩ ?_ ?_
 refine aany_intro (fun ops hops FIN hFIN S0 hS0 => ?_)
 let v33 : AV := .agg (Enc.cells ((Ed.mk s1 x3) : Ed))
 let v34 : AV := .agg (Enc.cells ((Ed.mk s1 x3) : Ed))
 let v35 : AV := .raw (.bool x4)
 let v36 : AV := .raw (.bool true)
 let v37 : AV := .agg (Enc.cells ((Ed.mk s1 x3) : Ed))
 let v39 : AV := .raw (.string (bs t))
 let v38 : AV := .raw (.string (bs x5))
 let v40 : AV := .raw (.bool (x5 == t))
 let v41 : AV := .raw (.bool (x5 == t))
 let v3 : AV := .raw (.bool (x5 == t))
 let G0 : St := ⟨[(25, (Enc.cells ((Ed.mk 0 0) : Ed))), (25, (Enc.cells ((Ed.mk s1 x3) : Ed)))], [], [], 0, false⟩
 let G1 : St := ⟨[(25, (Enc.cells ((Ed.mk s1 x3) : Ed))), (25, (Enc.cells ((Ed.mk s1 x3) : Ed)))], [], [], 0, false⟩
 obtain ⟨ps, hps⟩ : ∃ ps : List (Option (Nat × AV)), ps = [some (33, v33), some (34, v34), some (35, v35), some (36, v36), some (37, v37), some (38, v38), some (39, v39), some (40, v40), some (41, v41), none, some (3, v3)] := ⟨_, rfl⟩
 let N : Nat → Nat → St → Prop := fun k m σ => aN (ITP Tryz.prog) Tryz.prog none ops FIN S0 ps 11 k m σ
 have n26 : N 0 2047 G1 := by
  exact aN_0 hops hS0 hps (hFIN _ _ (Wk.refl _ _ _))
 have n25 : N 1 1023 G1 := by
  refine aN_n hops hS0 hps [10] (all_cons (aopAt_l hops rfl ?_) all_nil)
  refine w_o (a := v3) ?_
  exact aN_of n26 hS0 hps
 have n24 : N 2 767 G1 := by
  refine aN_n hops hS0 hps [8] (all_cons (aopAt_l hops rfl ?_) all_nil)
  refine w_o (a := v41) ?_
  exact aN_of n25 hS0 hps
 have n23 : N 2 511 G0 := by
  refine aN_n hops hS0 hps [9] (all_cons (aopAt_l hops rfl ?_) all_nil)
  refine w_om (σ'' := G1) (h := op_storeW (n := 2) rfl rfl rfl rfl rfl rfl rfl rfl (by decide)) ?_
  exact aN_of n25 hS0 hps
 have n22 : N 3 510 G0 := by
  refine aN_n hops hS0 hps [0] (all_cons (aopAt_l hops rfl ?_) all_nil)
  refine w_o (a := v33) ?_
  exact aN_of n23 hS0 hps
 have n21 : N 3 639 G1 := by
  refine aN_n hops hS0 hps [7] (all_cons (aopAt_l hops rfl ?_) all_nil)
  refine w_metH hops rfl rfl ?_
  refine w_o (a := v40) (h := op_q (q_streq rfl rfl rfl)) ?_
  exact aN_of n24 hS0 hps
 have n20 : N 3 255 G0 := by
  refine aN_n hops hS0 hps [8, 9] (all_cons (aopAt_l hops rfl ?_) (all_cons (aopAt_l hops rfl ?_) all_nil))
  refine w_o (a := v41) ?_
  exact aN_of n23 hS0 hps
  refine w_om (σ'' := G1) (h := op_storeW (n := 2) rfl rfl rfl rfl rfl rfl rfl rfl (by decide)) ?_
  exact aN_of n24 hS0 hps
 have n19 : N 4 254 G0 := by
  refine aN_n hops hS0 hps [0, 8] (all_cons (aopAt_l hops rfl ?_) (all_cons (aopAt_l hops rfl ?_) all_nil))
  refine w_o (a := v33) ?_
  exact aN_of n20 hS0 hps
  refine w_o (a := v41) ?_
  exact aN_of n22 hS0 hps
 have n18 : N 4 575 G1 := by
  refine aN_n hops hS0 hps [6] (all_cons (aopAt_l hops rfl ?_) all_nil)
  refine w_metH hops rfl rfl ?_
  refine w_o (a := v39) ?_
  exact aN_of n21 hS0 hps
 have n17 : N 4 127 G0 := by
  refine aN_n hops hS0 hps [7, 9] (all_cons (aopAt_l hops rfl ?_) (all_cons (aopAt_l hops rfl ?_) all_nil))
  refine w_metH hops rfl rfl ?_
  refine w_o (a := v40) (h := op_q (q_streq rfl rfl rfl)) ?_
  exact aN_of n20 hS0 hps
  refine w_om (σ'' := G1) (h := op_storeW (n := 2) rfl rfl rfl rfl rfl rfl rfl rfl (by decide)) ?_
  exact aN_of n21 hS0 hps
 have n16 : N 5 126 G0 := by
  refine aN_n hops hS0 hps [0, 7] (all_cons (aopAt_l hops rfl ?_) (all_cons (aopAt_l hops rfl ?_) all_nil))
  refine w_o (a := v33) ?_
  exact aN_of n17 hS0 hps
  refine w_metH hops rfl rfl ?_
  refine w_o (a := v40) (h := op_q (q_streq rfl rfl rfl)) ?_
  exact aN_of n19 hS0 hps
 have n15 : N 5 95 G0 := by
  refine aN_n hops hS0 hps [5] (all_cons (aopAt_l hops rfl ?_) all_nil)
  refine w_metH hops rfl rfl ?_
  refine w_callc (args' := [.agg (Enc.cells ((Ed.mk s1 x3) : Ed))]) (r := v38) (endw_sh (Ed.mk s1 x3) x5 hx5) rfl rfl (stripL_cons (strip_c (clo_agg (Enc.clo _))) rfl) (okTrimL_cons (okTrim_clo _ _ (clo_agg (Enc.clo _))) rfl) (by dsimp only [aput, List.set]) ?_
  exact aN_of n17 hS0 hps
 have n14 : N 5 63 G0 := by
  refine aN_n hops hS0 hps [6, 9] (all_cons (aopAt_l hops rfl ?_) (all_cons (aopAt_l hops rfl ?_) all_nil))
  refine w_metH hops rfl rfl ?_
  refine w_o (a := v39) ?_
  exact aN_of n17 hS0 hps
  refine w_om (σ'' := G1) (h := op_storeW (n := 2) rfl rfl rfl rfl rfl rfl rfl rfl (by decide)) ?_
  exact aN_of n18 hS0 hps
 have n13 : N 6 94 G0 := by
  refine aN_n hops hS0 hps [0, 5] (all_cons (aopAt_l hops rfl ?_) (all_cons (aopAt_l hops rfl ?_) all_nil))
  refine w_o (a := v33) ?_
  exact aN_of n15 hS0 hps
  refine w_metH hops rfl rfl ?_
  refine w_callc (args' := [.agg (Enc.cells ((Ed.mk s1 x3) : Ed))]) (r := v38) (endw_sh (Ed.mk s1 x3) x5 hx5) rfl rfl (stripL_cons (strip_c (clo_agg (Enc.clo _))) rfl) (okTrimL_cons (okTrim_clo _ _ (clo_agg (Enc.clo _))) rfl) (by dsimp only [aput, List.set]) ?_
  exact aN_of n16 hS0 hps
 have n12 : N 6 62 G0 := by
  refine aN_n hops hS0 hps [0, 6] (all_cons (aopAt_l hops rfl ?_) (all_cons (aopAt_l hops rfl ?_) all_nil))
  refine w_o (a := v33) ?_
  exact aN_of n14 hS0 hps
  refine w_metH hops rfl rfl ?_
  refine w_o (a := v39) ?_
  exact aN_of n16 hS0 hps
 have n11 : N 6 79 G0 := by
  refine aN_n hops hS0 hps [4] (all_cons (aopAt_l hops rfl ?_) all_nil)
  refine w_metH hops rfl rfl ?_
  refine w_o (a := v37) ?_
  exact aN_of n15 hS0 hps
 have n10 : N 6 31 G0 := by
  refine aN_n hops hS0 hps [5, 6] (all_cons (aopAt_l hops rfl ?_) (all_cons (aopAt_l hops rfl ?_) all_nil))
  refine w_metH hops rfl rfl ?_
  refine w_callc (args' := [.agg (Enc.cells ((Ed.mk s1 x3) : Ed))]) (r := v38) (endw_sh (Ed.mk s1 x3) x5 hx5) rfl rfl (stripL_cons (strip_c (clo_agg (Enc.clo _))) rfl) (okTrimL_cons (okTrim_clo _ _ (clo_agg (Enc.clo _))) rfl) (by dsimp only [aput, List.set]) ?_
  exact aN_of n14 hS0 hps
  refine w_metH hops rfl rfl ?_
  refine w_o (a := v39) ?_
  exact aN_of n15 hS0 hps
 have n9 : N 7 78 G0 := by
  refine aN_n hops hS0 hps [0, 4] (all_cons (aopAt_l hops rfl ?_) (all_cons (aopAt_l hops rfl ?_) all_nil))
  refine w_o (a := v33) ?_
  exact aN_of n11 hS0 hps
  refine w_metH hops rfl rfl ?_
  refine w_o (a := v37) ?_
  exact aN_of n13 hS0 hps
 have n8 : N 7 30 G0 := by
  refine aN_n hops hS0 hps [0, 5, 6] (all_cons (aopAt_l hops rfl ?_) (all_cons (aopAt_l hops rfl ?_) (all_cons (aopAt_l hops rfl ?_) all_nil)))
  refine w_o (a := v33) ?_
  exact aN_of n10 hS0 hps
  refine w_metH hops rfl rfl ?_
  refine w_callc (args' := [.agg (Enc.cells ((Ed.mk s1 x3) : Ed))]) (r := v38) (endw_sh (Ed.mk s1 x3) x5 hx5) rfl rfl (stripL_cons (strip_c (clo_agg (Enc.clo _))) rfl) (okTrimL_cons (okTrim_clo _ _ (clo_agg (Enc.clo _))) rfl) (by dsimp only [aput, List.set]) ?_
  exact aN_of n12 hS0 hps
  refine w_metH hops rfl rfl ?_
  refine w_o (a := v39) ?_
  exact aN_of n13 hS0 hps
 have n7 : N 7 15 G0 := by
  refine aN_n hops hS0 hps [4, 6] (all_cons (aopAt_l hops rfl ?_) (all_cons (aopAt_l hops rfl ?_) all_nil))
  refine w_metH hops rfl rfl ?_
  refine w_o (a := v37) ?_
  exact aN_of n10 hS0 hps
  refine w_metH hops rfl rfl ?_
  refine w_o (a := v39) ?_
  exact aN_of n11 hS0 hps
 have n6 : N 8 14 G0 := by
  refine aN_n hops hS0 hps [0, 4, 6] (all_cons (aopAt_l hops rfl ?_) (all_cons (aopAt_l hops rfl ?_) (all_cons (aopAt_l hops rfl ?_) all_nil)))
  refine w_o (a := v33) ?_
  exact aN_of n7 hS0 hps
  refine w_metH hops rfl rfl ?_
  refine w_o (a := v37) ?_
  exact aN_of n8 hS0 hps
  refine w_metH hops rfl rfl ?_
  refine w_o (a := v39) ?_
  exact aN_of n9 hS0 hps
 have n5 : N 8 7 G0 := by
  refine aN_n hops hS0 hps [3] (all_cons (aopAt_l hops rfl ?_) all_nil)
  refine w_o (a := v36) (h := op_q (q_bool rfl hc3)) ?_
  exact aN_of n7 hS0 hps
 have n4 : N 9 6 G0 := by
  refine aN_n hops hS0 hps [0, 3] (all_cons (aopAt_l hops rfl ?_) (all_cons (aopAt_l hops rfl ?_) all_nil))
  refine w_o (a := v33) ?_
  exact aN_of n5 hS0 hps
  refine w_o (a := v36) (h := op_q (q_bool rfl hc3)) ?_
  exact aN_of n6 hS0 hps
 have n3 : N 9 3 G0 := by
  refine aN_n hops hS0 hps [2] (all_cons (aopAt_l hops rfl ?_) all_nil)
  refine w_callc (args' := [.agg (Enc.cells ((Ed.mk s1 x3) : Ed))]) (r := v35) (ended_sh (Ed.mk s1 x3) x4 hx4) rfl rfl (stripL_cons (strip_c (clo_agg (Enc.clo _))) rfl) (okTrimL_cons (okTrim_clo _ _ (clo_agg (Enc.clo _))) rfl) (by dsimp only [aput, List.set]) ?_
  exact aN_of n5 hS0 hps
 have n2 : N 10 2 G0 := by
  refine aN_n hops hS0 hps [0, 2] (all_cons (aopAt_l hops rfl ?_) (all_cons (aopAt_l hops rfl ?_) all_nil))
  refine w_o (a := v33) ?_
  exact aN_of n3 hS0 hps
  refine w_callc (args' := [.agg (Enc.cells ((Ed.mk s1 x3) : Ed))]) (r := v35) (ended_sh (Ed.mk s1 x3) x4 hx4) rfl rfl (stripL_cons (strip_c (clo_agg (Enc.clo _))) rfl) (okTrimL_cons (okTrim_clo _ _ (clo_agg (Enc.clo _))) rfl) (by dsimp only [aput, List.set]) ?_
  exact aN_of n4 hS0 hps
 have n1 : N 10 1 G0 := by
  refine aN_n hops hS0 hps [1] (all_cons (aopAt_l hops rfl ?_) all_nil)
  refine w_o (a := v34) ?_
  exact aN_of n3 hS0 hps
 have n0 : N 11 0 G0 := by
  refine aN_n hops hS0 hps [0, 1] (all_cons (aopAt_l hops rfl ?_) (all_cons (aopAt_l hops rfl ?_) all_nil))
  refine w_o (a := v33) ?_
  exact aN_of n1 hS0 hps
  refine w_o (a := v34) ?_
  exact aN_of n2 hS0 hps
 exact aN_start n0 hps
 refine loop_exit h (fun h => ?_)
 replace h := cut_inr h hr1
 exact end_pureF (fun (r : (Ed × Bool)) => (.tup [.agg (Enc.cells (r.1 : Ed)), .raw (.bool r.2)] : AV)) h (a := .tup [.agg (Enc.cells ((Ed.mk s1 x3) : Ed)), .raw (.bool (x5 == t))]) rfl (show okTrimL _ _ = true from (okTrimL_cons (okTrim_clo _ _ (clo_agg (Enc.clo _))) (by kernel_rfl))) (show AV.tup (stripL _) = _ from congrArg AV.tup (stripL_cons (strip_c (clo_agg (Enc.clo _))) (stripL_cons rfl rfl)))
 refine w_seqAny (id := 8) [.raw (.string (bs t)), .top, .ptr 0 0, .raw (.bool false), .raw (.string (bs x1.1)), .raw (.string (bs x1.2.1)), .top, .raw (.int .u8 s1), .raw (.int .i64 x3), .top, .ptr 1 0, .top, .top, .top, .top, .top, .top, .raw (.int .u8 s1), .raw (.bool (decide (s1 ≤ 5))), .top, .top, .raw (.int .u8 s1), .raw (.string (bs x2)), .raw (.string (bs x1.1)), .raw (.bool (x2 == x1.1)), .tup [.raw (.int .i64 x3), .top], .raw (.string (bs x1.2.1)), .tup [.raw (.int .i64 x3), .top], .raw (.int .i64 x3), .top, .raw (.int .u8 s1), .raw (.int .i64 x3), .agg (Enc.cells ((Ed.mk s1 x3) : Ed)), .agg (Enc.cells ((Ed.mk s1 x3) : Ed)), .agg (Enc.cells ((Ed.mk s1 x3) : Ed)), .raw (.bool x4), .raw (.bool false), .raw undef, .raw undef, .raw undef, .raw undef, .raw (.bool false), .top] ⟨[(25, (Enc.cells ((Ed.mk s1 x3) : Ed))), (25, (Enc.cells ((Ed.mk s1 x3) : Ed)))], [], [], 0, false⟩ ?_ ?_
 refine aany_intro (fun ops hops FIN hFIN S0 hS0 => ?_)
 let v33 : AV := .agg (Enc.cells ((Ed.mk s1 x3) : Ed))
 let v34 : AV := .agg (Enc.cells ((Ed.mk s1 x3) : Ed))
 let v35 : AV := .raw (.bool x4)
 let v36 : AV := .raw (.bool false)
 let v41 : AV := .raw (.bool false)
 let v3 : AV := .raw (.bool false)
 let G0 : St := ⟨[(25, (Enc.cells ((Ed.mk 0 0) : Ed))), (25, (Enc.cells ((Ed.mk s1 x3) : Ed)))], [], [], 0, false⟩
 let G1 : St := ⟨[(25, (Enc.cells ((Ed.mk s1 x3) : Ed))), (25, (Enc.cells ((Ed.mk s1 x3) : Ed)))], [], [], 0, false⟩
 obtain ⟨ps, hps⟩ : ∃ ps : List (Option (Nat × AV)), ps = [some (33, v33), some (34, v34), some (35, v35), some (36, v36), some (37, .raw undef), some (38, .raw undef), some (39, .raw undef), some (40, .raw undef), some (41, v41), none, some (3, v3)] := ⟨_, rfl⟩
 let N : Nat → Nat → St → Prop := fun k m σ => aN (ITP Tryz.prog) Tryz.prog none ops FIN S0 ps 11 k m σ
 have n26 : N 0 2047 G1 := by
  exact aN_0 hops hS0 hps (hFIN _ _ (Wk.refl _ _ _))
 have n25 : N 1 1023 G1 := by
  refine aN_n hops hS0 hps [10] (all_cons (aopAt_l hops rfl ?_) all_nil)
  refine w_o (a := v3) ?_
  exact aN_of n26 hS0 hps
 have n24 : N 2 767 G1 := by
  refine aN_n hops hS0 hps [8] (all_cons (aopAt_l hops rfl ?_) all_nil)
  refine w_o (a := v41) ?_
  exact aN_of n25 hS0 hps
 have n23 : N 2 511 G0 := by
  refine aN_n hops hS0 hps [9] (all_cons (aopAt_l hops rfl ?_) all_nil)
  refine w_om (σ'' := G1) (h := op_storeW (n := 2) rfl rfl rfl rfl rfl rfl rfl rfl (by decide)) ?_
  exact aN_of n25 hS0 hps
 have n22 : N 3 510 G0 := by
  refine aN_n hops hS0 hps [0] (all_cons (aopAt_l hops rfl ?_) all_nil)
  refine w_o (a := v33) ?_
  exact aN_of n23 hS0 hps
 have n21 : N 3 639 G1 := by
  refine aN_n hops hS0 hps [7] (all_cons (aopAt_l hops rfl ?_) all_nil)
  refine w_pHo hops ?_
  exact aN_of n24 hS0 hps
 have n20 : N 3 255 G0 := by
  refine aN_n hops hS0 hps [8, 9] (all_cons (aopAt_l hops rfl ?_) (all_cons (aopAt_l hops rfl ?_) all_nil))
  refine w_o (a := v41) ?_
  exact aN_of n23 hS0 hps
  refine w_om (σ'' := G1) (h := op_storeW (n := 2) rfl rfl rfl rfl rfl rfl rfl rfl (by decide)) ?_
  exact aN_of n24 hS0 hps
 have n19 : N 4 254 G0 := by
  refine aN_n hops hS0 hps [0, 8] (all_cons (aopAt_l hops rfl ?_) (all_cons (aopAt_l hops rfl ?_) all_nil))
  refine w_o (a := v33) ?_
  exact aN_of n20 hS0 hps
  refine w_o (a := v41) ?_
  exact aN_of n22 hS0 hps
 have n18 : N 4 575 G1 := by
  refine aN_n hops hS0 hps [6] (all_cons (aopAt_l hops rfl ?_) all_nil)
  refine w_pHo hops ?_
  exact aN_of n21 hS0 hps
 have n17 : N 4 127 G0 := by
  refine aN_n hops hS0 hps [7, 9] (all_cons (aopAt_l hops rfl ?_) (all_cons (aopAt_l hops rfl ?_) all_nil))
  refine w_pHo hops ?_
  exact aN_of n20 hS0 hps
  refine w_om (σ'' := G1) (h := op_storeW (n := 2) rfl rfl rfl rfl rfl rfl rfl rfl (by decide)) ?_
  exact aN_of n21 hS0 hps
 have n16 : N 5 126 G0 := by
  refine aN_n hops hS0 hps [0, 7] (all_cons (aopAt_l hops rfl ?_) (all_cons (aopAt_l hops rfl ?_) all_nil))
  refine w_o (a := v33) ?_
  exact aN_of n17 hS0 hps
  refine w_pHo hops ?_
  exact aN_of n19 hS0 hps
 have n15 : N 5 95 G0 := by
  refine aN_n hops hS0 hps [5] (all_cons (aopAt_l hops rfl ?_) all_nil)
  refine w_pHo hops ?_
  exact aN_of n17 hS0 hps
 have n14 : N 5 63 G0 := by
  refine aN_n hops hS0 hps [6, 9] (all_cons (aopAt_l hops rfl ?_) (all_cons (aopAt_l hops rfl ?_) all_nil))
  refine w_pHo hops ?_
  exact aN_of n17 hS0 hps
  refine w_om (σ'' := G1) (h := op_storeW (n := 2) rfl rfl rfl rfl rfl rfl rfl rfl (by decide)) ?_
  exact aN_of n18 hS0 hps
 have n13 : N 6 94 G0 := by
  refine aN_n hops hS0 hps [0, 5] (all_cons (aopAt_l hops rfl ?_) (all_cons (aopAt_l hops rfl ?_) all_nil))
  refine w_o (a := v33) ?_
  exact aN_of n15 hS0 hps
  refine w_pHo hops ?_
  exact aN_of n16 hS0 hps
 have n12 : N 6 62 G0 := by
  refine aN_n hops hS0 hps [0, 6] (all_cons (aopAt_l hops rfl ?_) (all_cons (aopAt_l hops rfl ?_) all_nil))
  refine w_o (a := v33) ?_
  exact aN_of n14 hS0 hps
  refine w_pHo hops ?_
  exact aN_of n16 hS0 hps
 have n11 : N 6 79 G0 := by
  refine aN_n hops hS0 hps [4] (all_cons (aopAt_l hops rfl ?_) all_nil)
  refine w_pHo hops ?_
  exact aN_of n15 hS0 hps
 have n10 : N 6 31 G0 := by
  refine aN_n hops hS0 hps [5, 6] (all_cons (aopAt_l hops rfl ?_) (all_cons (aopAt_l hops rfl ?_) all_nil))
  refine w_pHo hops ?_
  exact aN_of n14 hS0 hps
  refine w_pHo hops ?_
  exact aN_of n15 hS0 hps
 have n9 : N 7 78 G0 := by
  refine aN_n hops hS0 hps [0, 4] (all_cons (aopAt_l hops rfl ?_) (all_cons (aopAt_l hops rfl ?_) all_nil))
  refine w_o (a := v33) ?_
  exact aN_of n11 hS0 hps
  refine w_pHo hops ?_
  exact aN_of n13 hS0 hps
 have n8 : N 7 30 G0 := by
  refine aN_n hops hS0 hps [0, 5, 6] (all_cons (aopAt_l hops rfl ?_) (all_cons (aopAt_l hops rfl ?_) (all_cons (aopAt_l hops rfl ?_) all_nil)))
  refine w_o (a := v33) ?_
  exact aN_of n10 hS0 hps
  refine w_pHo hops ?_
  exact aN_of n12 hS0 hps
  refine w_pHo hops ?_
  exact aN_of n13 hS0 hps
 have n7 : N 7 15 G0 := by
  refine aN_n hops hS0 hps [4, 6] (all_cons (aopAt_l hops rfl ?_) (all_cons (aopAt_l hops rfl ?_) all_nil))
  refine w_pHo hops ?_
  exact aN_of n10 hS0 hps
  refine w_pHo hops ?_
  exact aN_of n11 hS0 hps
 have n6 : N 8 14 G0 := by
  refine aN_n hops hS0 hps [0, 4, 6] (all_cons (aopAt_l hops rfl ?_) (all_cons (aopAt_l hops rfl ?_) (all_cons (aopAt_l hops rfl ?_) all_nil)))
  refine w_o (a := v33) ?_
  exact aN_of n7 hS0 hps
  refine w_pHo hops ?_
  exact aN_of n8 hS0 hps
  refine w_pHo hops ?_
  exact aN_of n9 hS0 hps
 have n5 : N 8 7 G0 := by
  refine aN_n hops hS0 hps [3] (all_cons (aopAt_l hops rfl ?_) all_nil)
  refine w_o (a := v36) (h := op_q (q_bool rfl hc3)) ?_
  exact aN_of n7 hS0 hps
 have n4 : N 9 6 G0 := by
  refine aN_n hops hS0 hps [0, 3] (all_cons (aopAt_l hops rfl ?_) (all_cons (aopAt_l hops rfl ?_) all_nil))
  refine w_o (a := v33) ?_
  exact aN_of n5 hS0 hps
  refine w_o (a := v36) (h := op_q (q_bool rfl hc3)) ?_
  exact aN_of n6 hS0 hps
 have n3 : N 9 3 G0 := by
  refine aN_n hops hS0 hps [2] (all_cons (aopAt_l hops rfl ?_) all_nil)
  refine w_callc (args' := [.agg (Enc.cells ((Ed.mk s1 x3) : Ed))]) (r := v35) (ended_sh (Ed.mk s1 x3) x4 hx4) rfl rfl (stripL_cons (strip_c (clo_agg (Enc.clo _))) rfl) (okTrimL_cons (okTrim_clo _ _ (clo_agg (Enc.clo _))) rfl) (by dsimp only [aput, List.set]) ?_
  exact aN_of n5 hS0 hps
 have n2 : N 10 2 G0 := by
  refine aN_n hops hS0 hps [0, 2] (all_cons (aopAt_l hops rfl ?_) (all_cons (aopAt_l hops rfl ?_) all_nil))
  refine w_o (a := v33) ?_
  exact aN_of n3 hS0 hps
  refine w_callc (args' := [.agg (Enc.cells ((Ed.mk s1 x3) : Ed))]) (r := v35) (ended_sh (Ed.mk s1 x3) x4 hx4) rfl rfl (stripL_cons (strip_c (clo_agg (Enc.clo _))) rfl) (okTrimL_cons (okTrim_clo _ _ (clo_agg (Enc.clo _))) rfl) (by dsimp only [aput, List.set]) ?_
  exact aN_of n4 hS0 hps
 have n1 : N 10 1 G0 := by
  refine aN_n hops hS0 hps [1] (all_cons (aopAt_l hops rfl ?_) all_nil)
  refine w_o (a := v34) ?_
  exact aN_of n3 hS0 hps
 have n0 : N 11 0 G0 := by
  refine aN_n hops hS0 hps [0, 1] (all_cons (aopAt_l hops rfl ?_) (all_cons (aopAt_l hops rfl ?_) all_nil))
  refine w_o (a := v33) ?_
  exact aN_of n1 hS0 hps
  refine w_o (a := v34) ?_
  exact aN_of n2 hS0 hps
 exact aN_start n0 hps
 refine loop_exit h (fun h => ?_)
 replace h := cut_inr h hr1
 exact end_pureF (fun (r : (Ed × Bool)) => (.tup [.agg (Enc.cells (r.1 : Ed)), .raw (.bool r.2)] : AV)) h (a := .tup [.agg (Enc.cells ((Ed.mk s1 x3) : Ed)), .raw (.bool false)]) rfl (show okTrimL _ _ = true from (okTrimL_cons (okTrim_clo _ _ (clo_agg (Enc.clo _))) (by kernel_rfl))) (show AV.tup (stripL _) = _ from congrArg AV.tup (stripL_cons (strip_c (clo_agg (Enc.clo _))) (stripL_cons rfl rfl)))
 refine w_condF hc2 rfl ?_
 refine w_region (k0 := 0) (id := 4) ?_
 refine w_o (a := .raw (.int .u8 s1)) ?_
 refine w_o (a := .raw (.int .u8 (IntKind.u8.wrap (s1 + 1)))) ?_
 refine w_o (a := .raw (.int .u8 (IntKind.u8.wrap (s1 + 1)))) ?_
 refine loop_next (p := p1) ((IntKind.u8.wrap (s1 + 1))) h ?_
 exact wm_of (bl 43 181) (by kernel_rfl) (by kernel_rfl)
 refine w_condF hc1 rfl ?_
 refine loop_exit h (fun h => ?_)
 refine cut_done (o := or1) () h ?_
 exact wm_of (bl 43 4) (by kernel_rfl) (by kernel_rfl)
 intro j1 h
 refine w_start (by dsimp only [setAll, topAll, List.foldl, List.set]) rfl ?_
 refine w_seq (w_region ?_)
 refine w_o (a := .agg (Enc.cells ((Ed.mk 0 0) : Ed))) ?_
 refine w_om (σ'' := ⟨[(25, (Enc.cells ((Ed.mk 0 0) : Ed)))], [], [], 0, false⟩) (h := op_storeW (n := 2) rfl rfl rfl rfl rfl rfl rfl rfl (by decide)) ?_
 refine w_o (a := .raw (.bool false)) ?_
 exact end_pureF (fun (r : (Ed × Bool)) => (.tup [.agg (Enc.cells (r.1 : Ed)), .raw (.bool r.2)] : AV)) h (a := .tup [.agg (Enc.cells ((Ed.mk 0 0) : Ed)), .raw (.bool false)]) rfl (show okTrimL _ _ = true from (okTrimL_cons (okTrim_clo _ _ (clo_agg (Enc.clo _))) (by kernel_rfl))) (show AV.tup (stripL _) = _ from congrArg AV.tup (stripL_cons (strip_c (clo_agg (Enc.clo _))) (stripL_cons rfl rfl)))
def F_entry (fuel : Nat) (t : (List UInt8)) : Option (En × Bool) :=
  (chk (List.length t < 4294967281) (letE (Lib.cut t ([32] : List UInt8)) (fun x1 => (cutE (τ := En) (loopE (β := Int × En) (fun s1 => (bif (decide (s1.1 ≤ 3)) then (cutE (τ := En) (chk (1 ≤ s1.1 ∧ s1.1 ≤ 3) (bif ((kindAt s1.1).w == x1.1) then (some (Sum.inl ((En.mk s1.1 s1.2.fr s1.2.to s1.2.b)))) else (some (Sum.inl (s1.2))))) (fun j2 => (some (Sum.inl ((IntKind.u8.wrap (s1.1 + 1)), j2))))) else (some (Sum.inr (Sum.inl (s1.2)))))) fuel (1, (En.mk 0 0 0 []))) (fun j1 => (bif (j1.k == 0) then (some (j1, false)) else (bif (j1.k == 1) then (bindE (F_unquote fuel x1.2.1) (fun x2 => (bif (x2.2.2 == 0) then (bindE (F_line fuel (En.mk j1.k j1.fr j1.to x2.1)) (fun x3 => (some ((En.mk j1.k j1.fr j1.to x2.1), (x3 == t))))) else (some ((En.mk j1.k j1.fr j1.to x2.1), false))))) else (chk (List.length x1.2.1 < 4294967281) (letE (Lib.cut x1.2.1 ([32] : List UInt8)) (fun x4 => (chk (List.length x4.1 ≤ 281474976710656) (letE (atoiP x4.1) (fun x5 => (chk (List.length x4.2.1 ≤ 281474976710656) (letE (atoiP x4.2.1) (fun x6 => (bindE (F_line fuel (En.mk ((En.mk j1.k x5 j1.to j1.b).k) ((En.mk j1.k x5 j1.to j1.b).fr) x6 ((En.mk j1.k x5 j1.to j1.b).b))) (fun x7 => (some ((En.mk ((En.mk j1.k x5 j1.to j1.b).k) ((En.mk j1.k x5 j1.to j1.b).fr) x6 ((En.mk j1.k x5 j1.to j1.b).b)), (x7 == t)))))))))))))))))))))
theorem ent28 : Ent Tryz.prog 28 := enters_of Tryz.func28 (by kernel_rfl) rfl
set_option maxRecDepth 100000 in
set_option maxHeartbeats 4000000 in
theorem entry_sh (fuel : Nat) (t : (List UInt8)) (r : (En × Bool)) (h : F_entry fuel t = some r) : Pure (ITP Tryz.prog) Tryz.prog 28 [.raw (.string (bs t))] (.tup [.agg (Enc.cells (r.1 : En)), .raw (.bool r.2)]) := by
 obtain ⟨d, hd⟩ : ∃ d, Tryz.f28.body = some d := ⟨_, rfl⟩
 refine pure_of mix Tryz.func28 hd ent28 ?_
 cases hd
 unfold F_entry at h
 refine w_start (by dsimp only [abeginS, Tryz.f28, List.length_cons, List.length_nil, Nat.zero_add, Nat.reduceAdd, Nat.reduceSub, List.replicate, List.cons_append, List.nil_append]) (by dsimp only [St.empty]) ?_
 refine w_seq (w_region ?_)
 refine w_om (a := .ptr 0 0) (σ'' := ⟨[(41, (Enc.cells ((En.mk 0 0 0 []) : En)))], [], [], 0, false⟩) ?_
 refine w_o (a := .raw (.bool false)) ?_
 refine w_seq (w_region ?_)
 refine w_o (a := .raw (.string (bs t))) ?_
 obtain ⟨g1, h⟩ := chk_e h
 obtain ⟨x1, hx1, h⟩ := letE_e h
 refine w_callc (args' := [.raw (.string (bs t)), .raw (.string (bs ([32] : List UInt8)))]) (r := .tup [.raw (.string (bs x1.1)), .raw (.string (bs x1.2.1)), .raw (.bool x1.2.2)]) (by rw [← hx1]; exact (cut_pure t ([32] : List UInt8) g1)) rfl rfl (stripL_cons rfl (stripL_cons rfl rfl)) (by kernel_rfl) (by dsimp only [aput, List.set]) ?_
 refine w_o (a := .tup [.raw (.string (bs x1.1)), .raw (.string (bs x1.2.1)), .raw (.bool x1.2.2)]) ?_
 refine w_o (a := .raw (.string (bs x1.1))) ?_
 refine w_o (a := .raw (.string (bs x1.2.1))) ?_
 refine w_o (a := .raw (.bool x1.2.2)) ?_
 refine w_o (a := .raw (.string (bs x1.1))) ?_
 refine w_o (a := .raw (.string (bs x1.2.1))) ?_
 refine w_o (a := .raw (.bool x1.2.2)) ?_
 refine w_seq (w_region ?_)
 refine w_o (a := .agg (Enc.cells ((En.mk 0 0 0 []) : En))) ?_
 refine w_om (a := .ptr 1 0) (σ'' := ⟨[(41, (Enc.cells ((En.mk 0 0 0 []) : En))), (41, (Enc.cells ((En.mk 0 0 0 []) : En)))], [], [], 0, false⟩) ?_
 refine w_om (σ'' := ⟨[(41, (Enc.cells ((En.mk 0 0 0 []) : En))), (41, (Enc.cells ((En.mk 0 0 0 []) : En)))], [], [], 0, false⟩) (h := op_storeW (n := 4) rfl rfl rfl rfl rfl rfl rfl rfl (by decide)) ?_
 refine w_cutF h [1, 3, 4, 6, 8, 9, 10, 11, 12, 13, 14, 15, 16, 17, 18, 19, 20, 21, 22, 23, 24, 25, 26, 27, 28, 29, 30, 31, 32, 33, 34, 35, 36, 37, 38, 39, 40, 41, 42, 43, 44, 45, 46, 47, 48, 49, 50, 51, 52, 53, 54, 55, 56, 57, 58, 59, 60, 61, 62, 63, 64, 65, 66, 67, 68, 69, 70, 71, 72, 73, 74, 75, 76, 77, 78, 79, 80] (fun j1 => []) (fun j1 => ⟨[(41, (Enc.cells ((En.mk 0 0 0 []) : En))), (41, (Enc.cells (j1 : En)))], [], [], 0, false⟩) ?_ ?_
 intro or1 h hr1
 refine w_seq (w_region ?_)
 refine w_o (a := .raw (.int .u8 1)) ?_
 refine w_block ?_
 refine w_loopF h [1, 3, 6, 8, 9, 10, 11, 12, 13, 14, 15, 16, 17, 18, 19, 20, 21, 22, 23, 24, 25, 26, 27, 28, 29, 30, 31, 32, 33, 34, 35, 36, 37, 38, 39, 40, 41, 42, 43, 44, 45, 46, 47, 48, 49, 50, 51, 52, 53, 54, 55, 56, 57, 58, 59, 60, 61, 62, 63, 64, 65, 66, 67, 68, 69, 70, 71, 72, 73, 74, 75, 76, 77, 78, 79, 80] (fun s1 => [(8, .raw (.int .u8 s1.1))]) (fun s1 => ⟨[(41, (Enc.cells ((En.mk 0 0 0 []) : En))), (41, (Enc.cells (s1.2 : En)))], [], [], 0, false⟩) ?_ ?_
 exact wm_of (bl 81 437) (by kernel_rfl) (by kernel_rfl)
 intro s1 p1 h
 refine w_start (by dsimp only [setAll, topAll, List.foldl, List.set]) rfl ?_
 refine w_seq ?_
 refine w_seq (w_region ?_)
 refine w_o (a := .raw (.int .u8 s1.1)) ?_
 refine w_o (a := .raw (.bool (decide (s1.1 ≤ 3)))) ?_
 refine bif_e h (fun hc1 h => ?_) (fun hc1 h => ?_)
 refine w_condT hc1 rfl ?_
 refine w_cutF h [22, 23, 26, 27, 28, 29, 30, 31, 32, 33] (fun j2 => []) (fun j2 => ⟨[(41, (Enc.cells ((En.mk 0 0 0 []) : En))), (41, (Enc.cells (j2 : En)))], [], [], 0, false⟩) ?_ ?_
 intro or2 h hr2
 refine w_block ?_
 refine w_seq (w_region ?_)
 refine w_callc (args' := []) (r := kindsA) kinds_pure rfl rfl rfl rfl (by dsimp only [aput, List.set]) ?_
 refine w_o (a := .raw (.int .u8 s1.1)) ?_
 obtain ⟨g2, h⟩ := chk_e h
 refine w_o (a := .agg (Enc.cells ((kindAt s1.1) : Kd))) (h := op_q (q_kidx g2 rfl rfl rfl)) ?_
 refine w_o (a := .raw (.string (bs ((kindAt s1.1).w)))) ?_
 refine w_o (a := .raw (.string (bs x1.1))) ?_
 refine w_o (a := .raw (.bool ((kindAt s1.1).w == x1.1))) (h := op_q (q_streq rfl rfl rfl)) ?_
 refine bif_e h (fun hc2 h => ?_) (fun hc2 h => ?_)
 refine w_condT hc2 rfl ?_
 refine w_region (k0 := 0) (id := 7) ?_
 refine w_o (a := .raw (.int .u8 s1.1)) ?_
 refine w_o (a := .ptr 1 0) ?_
 refine w_om (σ'' := ⟨[(41, (Enc.cells ((En.mk 0 0 0 []) : En))), (41, (Enc.cells ((En.mk s1.1 s1.2.fr s1.2.to s1.2.b) : En)))], [], [], 0, false⟩) (h := op_store (n := 1) rfl rfl rfl rfl rfl ⟨rfl, rfl, Nat.le_of_ble_eq_true rfl, by decide⟩) ?_
 refine cut_done (o := or2) ((En.mk s1.1 s1.2.fr s1.2.to s1.2.b)) h ?_
 exact wm_of (bl 81 2417851639229241224069119) (by kernel_rfl) (by kernel_rfl)
 refine w_condF hc2 rfl ?_
 refine cut_done (o := or2) (s1.2) h ?_
 exact wm_of (bl 81 2417851639229241224069119) (by kernel_rfl) (by kernel_rfl)
 intro j2 h
 refine w_start (by dsimp only [setAll, topAll, List.foldl, List.set]) rfl ?_
 refine w_region (k0 := 0) (id := 5) ?_
 refine w_o (a := .raw (.int .u8 s1.1)) ?_
 refine w_o (a := .raw (.int .u8 (IntKind.u8.wrap (s1.1 + 1)))) ?_
 refine w_o (a := .raw (.int .u8 (IntKind.u8.wrap (s1.1 + 1)))) ?_
 refine loop_next (p := p1) ((IntKind.u8.wrap (s1.1 + 1)), j2) h ?_
 exact wm_of (bl 81 437) (by kernel_rfl) (by kernel_rfl)
 refine w_condF hc1 rfl ?_
 refine loop_exit h (fun h => ?_)
 refine cut_done (o := or1) (s1.2) h ?_
 exact wm_of (bl 81 165) (by kernel_rfl) (by kernel_rfl)
 intro j1 h
 refine w_start (by dsimp only [setAll, topAll, List.foldl, List.set]) rfl ?_
 refine w_seq ?_
 refine w_seq (w_region ?_)
 refine w_o (a := .ptr 1 0) ?_
 refine w_o (a := .raw (.int .u8 j1.k)) ?_
 refine w_o (a := .raw (.bool (j1.k == 0))) ?_
 refine bif_e h (fun hc3 h => ?_) (fun hc3 h => ?_)
 refine w_condT hc3 rfl ?_
 refine w_seq (w_region ?_)
 refine w_o (a := .agg (Enc.cells (j1 : En))) ?_
 refine w_om (σ'' := ⟨[(41, (Enc.cells (j1 : En))), (41, (Enc.cells (j1 : En)))], [], [], 0, false⟩) (h := op_storeW (n := 4) rfl rfl rfl rfl rfl rfl rfl rfl (by decide)) ?_
 refine w_o (a := .raw (.bool false)) ?_
 exact end_pureF (fun (r : (En × Bool)) => (.tup [.agg (Enc.cells (r.1 : En)), .raw (.bool r.2)] : AV)) h (a := .tup [.agg (Enc.cells (j1 : En)), .raw (.bool false)]) rfl (show okTrimL _ _ = true from (okTrimL_cons (okTrim_clo _ _ (clo_agg (Enc.clo _))) (by kernel_rfl))) (show AV.tup (stripL _) = _ from congrArg AV.tup (stripL_cons (strip_c (clo_agg (Enc.clo _))) (stripL_cons rfl rfl)))
 refine w_condF hc3 rfl ?_
 refine w_seq ?_
 refine w_seq (w_region ?_)
 refine w_o (a := .ptr 1 0) ?_
 refine w_o (a := .raw (.int .u8 j1.k)) ?_
 refine w_o (a := .raw (.bool (j1.k == 1))) ?_
 refine bif_e h (fun hc4 h => ?_) (fun hc4 h => ?_)
 refine w_condT hc4 rfl ?_
 refine w_seq (w_region ?_)
 refine w_o (a := .raw (.string (bs x1.2.1))) ?_
 obtain ⟨x2, hx2, h⟩ := bindE_e h
 refine w_callc (args' := [.raw (.string (bs x1.2.1))]) (r := .tup [.raw (.string (bs x2.1)), .raw (.int .i64 x2.2.1), .raw (.int .i64 x2.2.2)]) (unquote_sh fuel x1.2.1 x2 hx2) rfl rfl (stripL_cons rfl rfl) (by kernel_rfl) (by dsimp only [aput, List.set]) ?_
 refine w_o (a := .tup [.raw (.string (bs x2.1)), .raw (.int .i64 x2.2.1), .raw (.int .i64 x2.2.2)]) ?_
 refine w_o (a := .raw (.string (bs x2.1))) ?_
 refine w_o (a := .raw (.int .i64 x2.2.1)) ?_
 refine w_o (a := .raw (.int .i64 x2.2.2)) ?_
 refine w_o (a := .raw (.string (bs x2.1))) ?_
 refine w_o (a := .raw (.int .i64 x2.2.1)) ?_
 refine w_o (a := .raw (.int .i64 x2.2.2)) ?_
 refine w_seq (w_region ?_)
 refine w_o (a := .raw (.string (bs x2.1))) ?_
 refine w_o (a := .ptr 1 3) ?_
 refine w_om (σ'' := ⟨[(41, (Enc.cells ((En.mk 0 0 0 []) : En))), (41, (Enc.cells ((En.mk j1.k j1.fr j1.to x2.1) : En)))], [], [], 0, false⟩) (h := op_store (n := 1) rfl rfl rfl rfl rfl ⟨rfl, rfl, Nat.le_of_ble_eq_true rfl, by decide⟩) ?_
 refine bif_e h (fun hc5 h => ?_) (fun hc5 h => ?_)
 obtain ⟨x3, hx3, h⟩ := bindE_e h
 refine w_seqAny (id := 13) [.raw (.string (bs t)), .top, .ptr 0 0, .raw (.bool (x3 == t)), .top, .raw (.string (bs x1.2.1)), .top, .ptr 1 0, .top, .raw (.string (bs x2.1)), .raw (.int .i64 x2.2.1), .raw (.int .i64 x2.2.2), .top, .top, .top, .top, .top, .top, .top, .top, .top, .top, .top, .top, .top, .top, .top, .top, .top, .top, .top, .top, .top, .top, .ptr 1 0, .raw (.int .u8 j1.k), .raw (.bool (j1.k == 0)), .top, .ptr 1 0, .raw (.int .u8 j1.k), .raw (.bool (j1.k == 1)), .tup [.raw (.string (bs x2.1)), .raw (.int .i64 x2.2.1), .raw (.int .i64 x2.2.2)], .raw (.string (bs x1.2.1)), .tup [.raw (.string (bs x2.1)), .raw (.int .i64 x2.2.1), .raw (.int .i64 x2.2.2)], .raw (.string (bs x2.1)), .raw (.int .i64 x2.2.1), .raw (.int .i64 x2.2.2), .raw (.string (bs x2.1)), .ptr 1 3, .agg (Enc.cells ((En.mk j1.k j1.fr j1.to x2.1) : En)), .raw (.int .i64 x2.2.2), .raw (.bool (x2.2.2 == 0)), .raw (.bool true), .agg (Enc.cells ((En.mk j1.k j1.fr j1.to x2.1) : En)), .raw (.string (bs x3)), .raw (.string (bs t)), .raw (.bool (x3 == t)), .raw (.bool (x3 == t)), .top, .top, .top, .top, .top, .top, .top, .top, .top, .top, .top, .top, .top, .top, .top, .top, .top, .top, .top, .top, .top, .top, .top] ⟨[(41, (Enc.cells ((En.mk j1.k j1.fr j1.to x2.1) : En))), (41, (Enc.cells ((En.mk j1.k j1.fr j1.to x2.1) : En)))], [], [], 0, false⟩ ?_ ?_
 refine aany_intro (fun ops hops FIN hFIN S0 hS0 => ?_)
 let v49 : AV := .agg (Enc.cells ((En.mk j1.k j1.fr j1.to x2.1) : En))
 let v50 : AV := .raw (.int .i64 x2.2.2)
 let v51 : AV := .raw (.bool (x2.2.2 == 0))
 let v52 : AV := .raw (.bool true)
 let v53 : AV := .agg (Enc.cells ((En.mk j1.k j1.fr j1.to x2.1) : En))
 let v55 : AV := .raw (.string (bs t))
 let v54 : AV := .raw (.string (bs x3))
 let v56 : AV := .raw (.bool (x3 == t))
 let v57 : AV := .raw (.bool (x3 == t))
 let v3 : AV := .raw (.bool (x3 == t))
 let G0 : St := ⟨[(41, (Enc.cells ((En.mk 0 0 0 []) : En))), (41, (Enc.cells ((En.mk j1.k j1.fr j1.to x2.1) : En)))], [], [], 0, false⟩
 let G1 : St := ⟨[(41, (Enc.cells ((En.mk j1.k j1.fr j1.to x2.1) : En))), (41, (Enc.cells ((En.mk j1.k j1.fr j1.to x2.1) : En)))], [], [], 0, false⟩
 obtain ⟨ps, hps⟩ : ∃ ps : List (Option (Nat × AV)), ps = [some (49, v49), some (50, v50), some (51, v51), some (52, v52), some (53, v53), some (54, v54), some (55, v55), some (56, v56), some (57, v57), none, some (3, v3)] := ⟨_, rfl⟩
 let N : Nat → Nat → St → Prop := fun k m σ => aN (ITP Tryz.prog) Tryz.prog none ops FIN S0 ps 11 k m σ
 have n26 : N 0 2047 G1 := by
  exact aN_0 hops hS0 hps (hFIN _ _ (Wk.refl _ _ _))
 have n25 : N 1 1023 G1 := by
  refine aN_n hops hS0 hps [10] (all_cons (aopAt_l hops rfl ?_) all_nil)
  refine w_o (a := v3) ?_
  exact aN_of n26 hS0 hps
 have n24 : N 2 767 G1 := by
  refine aN_n hops hS0 hps [8] (all_cons (aopAt_l hops rfl ?_) all_nil)
  refine w_o (a := v57) ?_
  exact aN_of n25 hS0 hps
 have n23 : N 2 511 G0 := by
  refine aN_n hops hS0 hps [9] (all_cons (aopAt_l hops rfl ?_) all_nil)
  refine w_om (σ'' := G1) (h := op_storeW (n := 4) rfl rfl rfl rfl rfl rfl rfl rfl (by decide)) ?_
  exact aN_of n25 hS0 hps
 have n22 : N 3 510 G0 := by
  refine aN_n hops hS0 hps [0] (all_cons (aopAt_l hops rfl ?_) all_nil)
  refine w_o (a := v49) ?_
  exact aN_of n23 hS0 hps
 have n21 : N 3 639 G1 := by
  refine aN_n hops hS0 hps [7] (all_cons (aopAt_l hops rfl ?_) all_nil)
  refine w_metH hops rfl rfl ?_
  refine w_o (a := v56) (h := op_q (q_streq rfl rfl rfl)) ?_
  exact aN_of n24 hS0 hps
 have n20 : N 3 255 G0 := by
  refine aN_n hops hS0 hps [8, 9] (all_cons (aopAt_l hops rfl ?_) (all_cons (aopAt_l hops rfl ?_) all_nil))
  refine w_o (a := v57) ?_
  exact aN_of n23 hS0 hps
  refine w_om (σ'' := G1) (h := op_storeW (n := 4) rfl rfl rfl rfl rfl rfl rfl rfl (by decide)) ?_
  exact aN_of n24 hS0 hps
 have n19 : N 4 254 G0 := by
  refine aN_n hops hS0 hps [0, 8] (all_cons (aopAt_l hops rfl ?_) (all_cons (aopAt_l hops rfl ?_) all_nil))
  refine w_o (a := v49) ?_
  exact aN_of n20 hS0 hps
  refine w_o (a := v57) ?_
  exact aN_of n22 hS0 hps
 have n18 : N 4 575 G1 := by
  refine aN_n hops hS0 hps [6] (all_cons (aopAt_l hops rfl ?_) all_nil)
  refine w_metH hops rfl rfl ?_
  refine w_o (a := v55) ?_
  exact aN_of n21 hS0 hps
 have n17 : N 4 127 G0 := by
  refine aN_n hops hS0 hps [7, 9] (all_cons (aopAt_l hops rfl ?_) (all_cons (aopAt_l hops rfl ?_) all_nil))
  refine w_metH hops rfl rfl ?_
  refine w_o (a := v56) (h := op_q (q_streq rfl rfl rfl)) ?_
  exact aN_of n20 hS0 hps
  refine w_om (σ'' := G1) (h := op_storeW (n := 4) rfl rfl rfl rfl rfl rfl rfl rfl (by decide)) ?_
  exact aN_of n21 hS0 hps
 have n16 : N 5 126 G0 := by
  refine aN_n hops hS0 hps [0, 7] (all_cons (aopAt_l hops rfl ?_) (all_cons (aopAt_l hops rfl ?_) all_nil))
  refine w_o (a := v49) ?_
  exact aN_of n17 hS0 hps
  refine w_metH hops rfl rfl ?_
  refine w_o (a := v56) (h := op_q (q_streq rfl rfl rfl)) ?_
  exact aN_of n19 hS0 hps
 have n15 : N 5 95 G0 := by
  refine aN_n hops hS0 hps [5] (all_cons (aopAt_l hops rfl ?_) all_nil)
  refine w_metH hops rfl rfl ?_
  refine w_callc (args' := [.agg (Enc.cells ((En.mk j1.k j1.fr j1.to x2.1) : En))]) (r := v54) (line_sh fuel (En.mk j1.k j1.fr j1.to x2.1) x3 hx3) rfl rfl (stripL_cons (strip_c (clo_agg (Enc.clo _))) rfl) (okTrimL_cons (okTrim_clo _ _ (clo_agg (Enc.clo _))) rfl) (by dsimp only [aput, List.set]) ?_
  exact aN_of n17 hS0 hps
 have n14 : N 5 63 G0 := by
  refine aN_n hops hS0 hps [6, 9] (all_cons (aopAt_l hops rfl ?_) (all_cons (aopAt_l hops rfl ?_) all_nil))
  refine w_metH hops rfl rfl ?_
  refine w_o (a := v55) ?_
  exact aN_of n17 hS0 hps
  refine w_om (σ'' := G1) (h := op_storeW (n := 4) rfl rfl rfl rfl rfl rfl rfl rfl (by decide)) ?_
  exact aN_of n18 hS0 hps
 have n13 : N 6 94 G0 := by
  refine aN_n hops hS0 hps [0, 5] (all_cons (aopAt_l hops rfl ?_) (all_cons (aopAt_l hops rfl ?_) all_nil))
  refine w_o (a := v49) ?_
  exact aN_of n15 hS0 hps
  refine w_metH hops rfl rfl ?_
  refine w_callc (args' := [.agg (Enc.cells ((En.mk j1.k j1.fr j1.to x2.1) : En))]) (r := v54) (line_sh fuel (En.mk j1.k j1.fr j1.to x2.1) x3 hx3) rfl rfl (stripL_cons (strip_c (clo_agg (Enc.clo _))) rfl) (okTrimL_cons (okTrim_clo _ _ (clo_agg (Enc.clo _))) rfl) (by dsimp only [aput, List.set]) ?_
  exact aN_of n16 hS0 hps
 have n12 : N 6 62 G0 := by
  refine aN_n hops hS0 hps [0, 6] (all_cons (aopAt_l hops rfl ?_) (all_cons (aopAt_l hops rfl ?_) all_nil))
  refine w_o (a := v49) ?_
  exact aN_of n14 hS0 hps
  refine w_metH hops rfl rfl ?_
  refine w_o (a := v55) ?_
  exact aN_of n16 hS0 hps
 have n11 : N 6 79 G0 := by
  refine aN_n hops hS0 hps [4] (all_cons (aopAt_l hops rfl ?_) all_nil)
  refine w_metH hops rfl rfl ?_
  refine w_o (a := v53) ?_
  exact aN_of n15 hS0 hps
 have n10 : N 6 31 G0 := by
  refine aN_n hops hS0 hps [5, 6] (all_cons (aopAt_l hops rfl ?_) (all_cons (aopAt_l hops rfl ?_) all_nil))
  refine w_metH hops rfl rfl ?_
  refine w_callc (args' := [.agg (Enc.cells ((En.mk j1.k j1.fr j1.to x2.1) : En))]) (r := v54) (line_sh fuel (En.mk j1.k j1.fr j1.to x2.1) x3 hx3) rfl rfl (stripL_cons (strip_c (clo_agg (Enc.clo _))) rfl) (okTrimL_cons (okTrim_clo _ _ (clo_agg (Enc.clo _))) rfl) (by dsimp only [aput, List.set]) ?_
  exact aN_of n14 hS0 hps
  refine w_metH hops rfl rfl ?_
  refine w_o (a := v55) ?_
  exact aN_of n15 hS0 hps
 have n9 : N 7 78 G0 := by
  refine aN_n hops hS0 hps [0, 4] (all_cons (aopAt_l hops rfl ?_) (all_cons (aopAt_l hops rfl ?_) all_nil))
  refine w_o (a := v49) ?_
  exact aN_of n11 hS0 hps
  refine w_metH hops rfl rfl ?_
  refine w_o (a := v53) ?_
  exact aN_of n13 hS0 hps
 have n8 : N 7 30 G0 := by
  refine aN_n hops hS0 hps [0, 5, 6] (all_cons (aopAt_l hops rfl ?_) (all_cons (aopAt_l hops rfl ?_) (all_cons (aopAt_l hops rfl ?_) all_nil)))
  refine w_o (a := v49) ?_
  exact aN_of n10 hS0 hps
  refine w_metH hops rfl rfl ?_
  refine w_callc (args' := [.agg (Enc.cells ((En.mk j1.k j1.fr j1.to x2.1) : En))]) (r := v54) (line_sh fuel (En.mk j1.k j1.fr j1.to x2.1) x3 hx3) rfl rfl (stripL_cons (strip_c (clo_agg (Enc.clo _))) rfl) (okTrimL_cons (okTrim_clo _ _ (clo_agg (Enc.clo _))) rfl) (by dsimp only [aput, List.set]) ?_
  exact aN_of n12 hS0 hps
  refine w_metH hops rfl rfl ?_
  refine w_o (a := v55) ?_
  exact aN_of n13 hS0 hps
 have n7 : N 7 15 G0 := by
  refine aN_n hops hS0 hps [4, 6] (all_cons (aopAt_l hops rfl ?_) (all_cons (aopAt_l hops rfl ?_) all_nil))
  refine w_metH hops rfl rfl ?_
  refine w_o (a := v53) ?_
  exact aN_of n10 hS0 hps
  refine w_metH hops rfl rfl ?_
  refine w_o (a := v55) ?_
  exact aN_of n11 hS0 hps
 have n6 : N 8 14 G0 := by
  refine aN_n hops hS0 hps [0, 4, 6] (all_cons (aopAt_l hops rfl ?_) (all_cons (aopAt_l hops rfl ?_) (all_cons (aopAt_l hops rfl ?_) all_nil)))
  refine w_o (a := v49) ?_
  exact aN_of n7 hS0 hps
  refine w_metH hops rfl rfl ?_
  refine w_o (a := v53) ?_
  exact aN_of n8 hS0 hps
  refine w_metH hops rfl rfl ?_
  refine w_o (a := v55) ?_
  exact aN_of n9 hS0 hps
 have n5 : N 8 7 G0 := by
  refine aN_n hops hS0 hps [3] (all_cons (aopAt_l hops rfl ?_) all_nil)
  refine w_o (a := v52) (h := op_q (q_bool rfl hc5)) ?_
  exact aN_of n7 hS0 hps
 have n4 : N 9 6 G0 := by
  refine aN_n hops hS0 hps [0, 3] (all_cons (aopAt_l hops rfl ?_) (all_cons (aopAt_l hops rfl ?_) all_nil))
  refine w_o (a := v49) ?_
  exact aN_of n5 hS0 hps
  refine w_o (a := v52) (h := op_q (q_bool rfl hc5)) ?_
  exact aN_of n6 hS0 hps
 have n3 : N 9 3 G0 := by
  refine aN_n hops hS0 hps [2] (all_cons (aopAt_l hops rfl ?_) all_nil)
  refine w_o (a := v51) ?_
  exact aN_of n5 hS0 hps
 have n2 : N 10 2 G0 := by
  refine aN_n hops hS0 hps [0, 2] (all_cons (aopAt_l hops rfl ?_) (all_cons (aopAt_l hops rfl ?_) all_nil))
  refine w_o (a := v49) ?_
  exact aN_of n3 hS0 hps
  refine w_o (a := v51) ?_
  exact aN_of n4 hS0 hps
 have n1 : N 10 1 G0 := by
  refine aN_n hops hS0 hps [1] (all_cons (aopAt_l hops rfl ?_) all_nil)
  refine w_o (a := v50) ?_
  exact aN_of n3 hS0 hps
 have n0 : N 11 0 G0 := by
  refine aN_n hops hS0 hps [0, 1] (all_cons (aopAt_l hops rfl ?_) (all_cons (aopAt_l hops rfl ?_) all_nil))
  refine w_o (a := v49) ?_
  exact aN_of n1 hS0 hps
  refine w_o (a := v50) ?_
  exact aN_of n2 hS0 hps
 exact aN_start n0 hps
 exact end_pureF (fun (r : (En × Bool)) => (.tup [.agg (Enc.cells (r.1 : En)), .raw (.bool r.2)] : AV)) h (a := .tup [.agg (Enc.cells ((En.mk j1.k j1.fr j1.to x2.1) : En)), .raw (.bool (x3 == t))]) rfl (show okTrimL _ _ = true from (okTrimL_cons (okTrim_clo _ _ (clo_agg (Enc.clo _))) (by kernel_rfl))) (show AV.tup (stripL _) = _ from congrArg AV.tup (stripL_cons (strip_c (clo_agg (Enc.clo _))) (stripL_cons rfl rfl)))
 refine w_seqAny (id := 13) [.raw (.string (bs t)), .top, .ptr 0 0, .raw (.bool false), .top, .raw (.string (bs x1.2.1)), .top, .ptr 1 0, .top, .raw (.string (bs x2.1)), .raw (.int .i64 x2.2.1), .raw (.int .i64 x2.2.2), .top, .top, .top, .top, .top, .top, .top, .top, .top, .top, .top, .top, .top, .top, .top, .top, .top, .top, .top, .top, .top, .top, .ptr 1 0, .raw (.int .u8 j1.k), .raw (.bool (j1.k == 0)), .top, .ptr 1 0, .raw (.int .u8 j1.k), .raw (.bool (j1.k == 1)), .tup [.raw (.string (bs x2.1)), .raw (.int .i64 x2.2.1), .raw (.int .i64 x2.2.2)], .raw (.string (bs x1.2.1)), .tup [.raw (.string (bs x2.1)), .raw (.int .i64 x2.2.1), .raw (.int .i64 x2.2.2)], .raw (.string (bs x2.1)), .raw (.int .i64 x2.2.1), .raw (.int .i64 x2.2.2), .raw (.string (bs x2.1)), .ptr 1 3, .agg (Enc.cells ((En.mk j1.k j1.fr j1.to x2.1) : En)), .raw (.int .i64 x2.2.2), .raw (.bool (x2.2.2 == 0)), .raw (.bool false), .raw undef, .raw undef, .raw undef, .raw undef, .raw (.bool false), .top, .top, .top, .top, .top, .top, .top, .top, .top, .top, .top, .top, .top, .top, .top, .top, .top, .top, .top, .top, .top, .top, .top] ⟨[(41, (Enc.cells ((En.mk j1.k j1.fr j1.to x2.1) : En))), (41, (Enc.cells ((En.mk j1.k j1.fr j1.to x2.1) : En)))], [], [], 0, false⟩ ?_ ?_
 refine aany_intro (fun ops hops FIN hFIN S0 hS0 => ?_)
 let v49 : AV := .agg (Enc.cells ((En.mk j1.k j1.fr j1.to x2.1) : En))
 let v50 : AV := .raw (.int .i64 x2.2.2)
 let v51 : AV := .raw (.bool (x2.2.2 == 0))
 let v52 : AV := .raw (.bool false)
 let v57 : AV := .raw (.bool false)
 let v3 : AV := .raw (.bool false)
 let G0 : St := ⟨[(41, (Enc.cells ((En.mk 0 0 0 []) : En))), (41, (Enc.cells ((En.mk j1.k j1.fr j1.to x2.1) : En)))], [], [], 0, false⟩
 let G1 : St := ⟨[(41, (Enc.cells ((En.mk j1.k j1.fr j1.to x2.1) : En))), (41, (Enc.cells ((En.mk j1.k j1.fr j1.to x2.1) : En)))], [], [], 0, false⟩
 obtain ⟨ps, hps⟩ : ∃ ps : List (Option (Nat × AV)), ps = [some (49, v49), some (50, v50), some (51, v51), some (52, v52), some (53, .raw undef), some (54, .raw undef), some (55, .raw undef), some (56, .raw undef), some (57, v57), none, some (3, v3)] := ⟨_, rfl⟩
 let N : Nat → Nat → St → Prop := fun k m σ => aN (ITP Tryz.prog) Tryz.prog none ops FIN S0 ps 11 k m σ
 have n26 : N 0 2047 G1 := by
  exact aN_0 hops hS0 hps (hFIN _ _ (Wk.refl _ _ _))
 have n25 : N 1 1023 G1 := by
  refine aN_n hops hS0 hps [10] (all_cons (aopAt_l hops rfl ?_) all_nil)
  refine w_o (a := v3) ?_
  exact aN_of n26 hS0 hps
 have n24 : N 2 767 G1 := by
  refine aN_n hops hS0 hps [8] (all_cons (aopAt_l hops rfl ?_) all_nil)
  refine w_o (a := v57) ?_
  exact aN_of n25 hS0 hps
 have n23 : N 2 511 G0 := by
  refine aN_n hops hS0 hps [9] (all_cons (aopAt_l hops rfl ?_) all_nil)
  refine w_om (σ'' := G1) (h := op_storeW (n := 4) rfl rfl rfl rfl rfl rfl rfl rfl (by decide)) ?_
  exact aN_of n25 hS0 hps
 have n22 : N 3 510 G0 := by
  refine aN_n hops hS0 hps [0] (all_cons (aopAt_l hops rfl ?_) all_nil)
  refine w_o (a := v49) ?_
  exact aN_of n23 hS0 hps
 have n21 : N 3 639 G1 := by
  refine aN_n hops hS0 hps [7] (all_cons (aopAt_l hops rfl ?_) all_nil)
  refine w_pHo hops ?_
  exact aN_of n24 hS0 hps
 have n20 : N 3 255 G0 := by
  refine aN_n hops hS0 hps [8, 9] (all_cons (aopAt_l hops rfl ?_) (all_cons (aopAt_l hops rfl ?_) all_nil))
  refine w_o (a := v57) ?_
  exact aN_of n23 hS0 hps
  refine w_om (σ'' := G1) (h := op_storeW (n := 4) rfl rfl rfl rfl rfl rfl rfl rfl (by decide)) ?_
  exact aN_of n24 hS0 hps
 have n19 : N 4 254 G0 := by
  refine aN_n hops hS0 hps [0, 8] (all_cons (aopAt_l hops rfl ?_) (all_cons (aopAt_l hops rfl ?_) all_nil))
  refine w_o (a := v49) ?_
  exact aN_of n20 hS0 hps
  refine w_o (a := v57) ?_
  exact aN_of n22 hS0 hps
 have n18 : N 4 575 G1 := by
  refine aN_n hops hS0 hps [6] (all_cons (aopAt_l hops rfl ?_) all_nil)
  refine w_pHo hops ?_
  exact aN_of n21 hS0 hps
 have n17 : N 4 127 G0 := by
  refine aN_n hops hS0 hps [7, 9] (all_cons (aopAt_l hops rfl ?_) (all_cons (aopAt_l hops rfl ?_) all_nil))
  refine w_pHo hops ?_
  exact aN_of n20 hS0 hps
  refine w_om (σ'' := G1) (h := op_storeW (n := 4) rfl rfl rfl rfl rfl rfl rfl rfl (by decide)) ?_
  exact aN_of n21 hS0 hps
 have n16 : N 5 126 G0 := by
  refine aN_n hops hS0 hps [0, 7] (all_cons (aopAt_l hops rfl ?_) (all_cons (aopAt_l hops rfl ?_) all_nil))
  refine w_o (a := v49) ?_
  exact aN_of n17 hS0 hps
  refine w_pHo hops ?_
  exact aN_of n19 hS0 hps
 have n15 : N 5 95 G0 := by
  refine aN_n hops hS0 hps [5] (all_cons (aopAt_l hops rfl ?_) all_nil)
  refine w_pHo hops ?_
  exact aN_of n17 hS0 hps
 have n14 : N 5 63 G0 := by
  refine aN_n hops hS0 hps [6, 9] (all_cons (aopAt_l hops rfl ?_) (all_cons (aopAt_l hops rfl ?_) all_nil))
  refine w_pHo hops ?_
  exact aN_of n17 hS0 hps
  refine w_om (σ'' := G1) (h := op_storeW (n := 4) rfl rfl rfl rfl rfl rfl rfl rfl (by decide)) ?_
  exact aN_of n18 hS0 hps
 have n13 : N 6 94 G0 := by
  refine aN_n hops hS0 hps [0, 5] (all_cons (aopAt_l hops rfl ?_) (all_cons (aopAt_l hops rfl ?_) all_nil))
  refine w_o (a := v49) ?_
  exact aN_of n15 hS0 hps
  refine w_pHo hops ?_
  exact aN_of n16 hS0 hps
 have n12 : N 6 62 G0 := by
  refine aN_n hops hS0 hps [0, 6] (all_cons (aopAt_l hops rfl ?_) (all_cons (aopAt_l hops rfl ?_) all_nil))
  refine w_o (a := v49) ?_
  exact aN_of n14 hS0 hps
  refine w_pHo hops ?_
  exact aN_of n16 hS0 hps
 have n11 : N 6 79 G0 := by
  refine aN_n hops hS0 hps [4] (all_cons (aopAt_l hops rfl ?_) all_nil)
  refine w_pHo hops ?_
  exact aN_of n15 hS0 hps
 have n10 : N 6 31 G0 := by
  refine aN_n hops hS0 hps [5, 6] (all_cons (aopAt_l hops rfl ?_) (all_cons (aopAt_l hops rfl ?_) all_nil))
  refine w_pHo hops ?_
  exact aN_of n14 hS0 hps
  refine w_pHo hops ?_
  exact aN_of n15 hS0 hps
 have n9 : N 7 78 G0 := by
  refine aN_n hops hS0 hps [0, 4] (all_cons (aopAt_l hops rfl ?_) (all_cons (aopAt_l hops rfl ?_) all_nil))
  refine w_o (a := v49) ?_
  exact aN_of n11 hS0 hps
  refine w_pHo hops ?_
  exact aN_of n13 hS0 hps
 have n8 : N 7 30 G0 := by
  refine aN_n hops hS0 hps [0, 5, 6] (all_cons (aopAt_l hops rfl ?_) (all_cons (aopAt_l hops rfl ?_) (all_cons (aopAt_l hops rfl ?_) all_nil)))
  refine w_o (a := v49) ?_
  exact aN_of n10 hS0 hps
  refine w_pHo hops ?_
  exact aN_of n12 hS0 hps
  refine w_pHo hops ?_
  exact aN_of n13 hS0 hps
 have n7 : N 7 15 G0 := by
  refine aN_n hops hS0 hps [4, 6] (all_cons (aopAt_l hops rfl ?_) (all_cons (aopAt_l hops rfl ?_) all_nil))
  refine w_pHo hops ?_
  exact aN_of n10 hS0 hps
  refine w_pHo hops ?_
  exact aN_of n11 hS0 hps
 have n6 : N 8 14 G0 := by
  refine aN_n hops hS0 hps [0, 4, 6] (all_cons (aopAt_l hops rfl ?_) (all_cons (aopAt_l hops rfl ?_) (all_cons (aopAt_l hops rfl ?_) all_nil)))
  refine w_o (a := v49) ?_
  exact aN_of n7 hS0 hps
  refine w_pHo hops ?_
  exact aN_of n8 hS0 hps
  refine w_pHo hops ?_
  exact aN_of n9 hS0 hps
 have n5 : N 8 7 G0 := by
  refine aN_n hops hS0 hps [3] (all_cons (aopAt_l hops rfl ?_) all_nil)
  refine w_o (a := v52) (h := op_q (q_bool rfl hc5)) ?_
  exact aN_of n7 hS0 hps
 have n4 : N 9 6 G0 := by
  refine aN_n hops hS0 hps [0, 3] (all_cons (aopAt_l hops rfl ?_) (all_cons (aopAt_l hops rfl ?_) all_nil))
  refine w_o (a := v49) ?_
  exact aN_of n5 hS0 hps
  refine w_o (a := v52) (h := op_q (q_bool rfl hc5)) ?_
  exact aN_of n6 hS0 hps
 have n3 : N 9 3 G0 := by
  refine aN_n hops hS0 hps [2] (all_cons (aopAt_l hops rfl ?_) all_nil)
  refine w_o (a := v51) ?_
  exact aN_of n5 hS0 hps
 have n2 : N 10 2 G0 := by
  refine aN_n hops hS0 hps [0, 2] (all_cons (aopAt_l hops rfl ?_) (all_cons (aopAt_l hops rfl ?_) all_nil))
  refine w_o (a := v49) ?_
  exact aN_of n3 hS0 hps
  refine w_o (a := v51) ?_
  exact aN_of n4 hS0 hps
 have n1 : N 10 1 G0 := by
  refine aN_n hops hS0 hps [1] (all_cons (aopAt_l hops rfl ?_) all_nil)
  refine w_o (a := v50) ?_
  exact aN_of n3 hS0 hps
 have n0 : N 11 0 G0 := by
  refine aN_n hops hS0 hps [0, 1] (all_cons (aopAt_l hops rfl ?_) (all_cons (aopAt_l hops rfl ?_) all_nil))
  refine w_o (a := v49) ?_
  exact aN_of n1 hS0 hps
  refine w_o (a := v50) ?_
  exact aN_of n2 hS0 hps
 exact aN_start n0 hps
 exact end_pureF (fun (r : (En × Bool)) => (.tup [.agg (Enc.cells (r.1 : En)), .raw (.bool r.2)] : AV)) h (a := .tup [.agg (Enc.cells ((En.mk j1.k j1.fr j1.to x2.1) : En)), .raw (.bool false)]) rfl (show okTrimL _ _ = true from (okTrimL_cons (okTrim_clo _ _ (clo_agg (Enc.clo _))) (by kernel_rfl))) (show AV.tup (stripL _) = _ from congrArg AV.tup (stripL_cons (strip_c (clo_agg (Enc.clo _))) (stripL_cons rfl rfl)))
 refine w_condF hc4 rfl ?_
 refine w_seq (w_region ?_)
 refine w_o (a := .raw (.string (bs x1.2.1))) ?_
 obtain ⟨g3, h⟩ := chk_e h
 obtain ⟨x4, hx4, h⟩ := letE_e h
 refine w_callc (args' := [.raw (.string (bs x1.2.1)), .raw (.string (bs ([32] : List UInt8)))]) (r := .tup [.raw (.string (bs x4.1)), .raw (.string (bs x4.2.1)), .raw (.bool x4.2.2)]) (by rw [← hx4]; exact (cut_pure x1.2.1 ([32] : List UInt8) g3)) rfl rfl (stripL_cons rfl (stripL_cons rfl rfl)) (by kernel_rfl) (by dsimp only [aput, List.set]) ?_
 refine w_o (a := .tup [.raw (.string (bs x4.1)), .raw (.string (bs x4.2.1)), .raw (.bool x4.2.2)]) ?_
 refine w_o (a := .raw (.string (bs x4.1))) ?_
 refine w_o (a := .raw (.string (bs x4.2.1))) ?_
 refine w_o (a := .raw (.bool x4.2.2)) ?_
 refine w_o (a := .raw (.string (bs x4.1))) ?_
 refine w_o (a := .raw (.string (bs x4.2.1))) ?_
 refine w_o (a := .raw (.bool x4.2.2)) ?_
 refine w_seq (w_region ?_)
 refine w_o (a := .raw (.string (bs x4.1))) ?_
 obtain ⟨g4, h⟩ := chk_e h
 obtain ⟨x5, hx5, h⟩ := letE_e h
 refine w_callc (args' := [.raw (.string (bs x4.1))]) (r := .tup [.raw (.int .i64 x5), .top]) (by rw [← hx5]; exact (atoi_pure x4.1 g4)) rfl rfl (stripL_cons rfl rfl) (by kernel_rfl) (by dsimp only [aput, List.set]) ?_
 refine w_o (a := .tup [.raw (.int .i64 x5), .top]) ?_
 refine w_o (a := .raw (.int .i64 x5)) ?_
 refine w_o (a := .top) ?_
 refine w_o (a := .ptr 1 1) ?_
 refine w_om (σ'' := ⟨[(41, (Enc.cells ((En.mk 0 0 0 []) : En))), (41, (Enc.cells ((En.mk j1.k x5 j1.to j1.b) : En)))], [], [], 0, false⟩) (h := op_store (n := 1) rfl rfl rfl rfl rfl ⟨rfl, rfl, Nat.le_of_ble_eq_true rfl, by decide⟩) ?_
 refine w_seq (w_region ?_)
 refine w_o (a := .raw (.string (bs x4.2.1))) ?_
 obtain ⟨g5, h⟩ := chk_e h
 obtain ⟨x6, hx6, h⟩ := letE_e h
 refine w_callc (args' := [.raw (.string (bs x4.2.1))]) (r := .tup [.raw (.int .i64 x6), .top]) (by rw [← hx6]; exact (atoi_pure x4.2.1 g5)) rfl rfl (stripL_cons rfl rfl) (by kernel_rfl) (by dsimp only [aput, List.set]) ?_
 refine w_o (a := .tup [.raw (.int .i64 x6), .top]) ?_
 refine w_o (a := .raw (.int .i64 x6)) ?_
 refine w_o (a := .top) ?_
 refine w_o (a := .ptr 1 2) ?_
 refine w_om (σ'' := ⟨[(41, (Enc.cells ((En.mk 0 0 0 []) : En))), (41, (Enc.cells ((En.mk ((En.mk j1.k x5 j1.to j1.b).k) ((En.mk j1.k x5 j1.to j1.b).fr) x6 ((En.mk j1.k x5 j1.to j1.b).b)) : En)))], [], [], 0, false⟩) (h := op_store (n := 1) rfl rfl rfl rfl rfl ⟨rfl, rfl, Nat.le_of_ble_eq_true rfl, by decide⟩) ?_
 obtain ⟨x7, hx7, h⟩ := bindE_e h
 refine w_seqAny (id := 17) [.raw (.string (bs t)), .top, .ptr 0 0, .raw (.bool (x7 == t)), .top, .raw (.string (bs x1.2.1)), .top, .ptr 1 0, .top, .top, .top, .top, .raw (.string (bs x4.1)), .raw (.string (bs x4.2.1)), .raw (.bool x4.2.2), .top, .top, .top, .top, .top, .top, .top, .top, .top, .top, .top, .top, .top, .top, .top, .top, .top, .top, .top, .ptr 1 0, .raw (.int .u8 j1.k), .raw (.bool (j1.k == 0)), .top, .ptr 1 0, .raw (.int .u8 j1.k), .raw (.bool (j1.k == 1)), .top, .top, .top, .top, .top, .top, .top, .top, .top, .top, .top, .top, .top, .top, .top, .top, .top, .tup [.raw (.string (bs x4.1)), .raw (.string (bs x4.2.1)), .raw (.bool x4.2.2)], .raw (.string (bs x1.2.1)), .tup [.raw (.string (bs x4.1)), .raw (.string (bs x4.2.1)), .raw (.bool x4.2.2)], .raw (.string (bs x4.1)), .raw (.string (bs x4.2.1)), .raw (.bool x4.2.2), .tup [.raw (.int .i64 x5), .top], .raw (.string (bs x4.1)), .tup [.raw (.int .i64 x5), .top], .raw (.int .i64 x5), .top, .ptr 1 1, .tup [.raw (.int .i64 x6), .top], .raw (.string (bs x4.2.1)), .tup [.raw (.int .i64 x6), .top], .raw (.int .i64 x6), .top, .ptr 1 2, .agg (Enc.cells ((En.mk ((En.mk j1.k x5 j1.to j1.b).k) ((En.mk j1.k x5 j1.to j1.b).fr) x6 ((En.mk j1.k x5 j1.to j1.b).b)) : En)), .agg (Enc.cells ((En.mk ((En.mk j1.k x5 j1.to j1.b).k) ((En.mk j1.k x5 j1.to j1.b).fr) x6 ((En.mk j1.k x5 j1.to j1.b).b)) : En)), .raw (.string (bs x7)), .raw (.string (bs t)), .raw (.bool (x7 == t))] ⟨[(41, (Enc.cells ((En.mk ((En.mk j1.k x5 j1.to j1.b).k) ((En.mk j1.k x5 j1.to j1.b).fr) x6 ((En.mk j1.k x5 j1.to j1.b).b)) : En))), (41, (Enc.cells ((En.mk ((En.mk j1.k x5 j1.to j1.b).k) ((En.mk j1.k x5 j1.to j1.b).fr) x6 ((En.mk j1.k x5 j1.to j1.b).b)) : En)))], [], [], 0, false⟩ ?_ ?_
 refine aany_intro (fun ops hops FIN hFIN S0 hS0 => ?_)
 let v76 : AV := .agg (Enc.cells ((En.mk ((En.mk j1.k x5 j1.to j1.b).k) ((En.mk j1.k x5 j1.to j1.b).fr) x6 ((En.mk j1.k x5 j1.to j1.b).b)) : En))
 let v77 : AV := .agg (Enc.cells ((En.mk ((En.mk j1.k x5 j1.to j1.b).k) ((En.mk j1.k x5 j1.to j1.b).fr) x6 ((En.mk j1.k x5 j1.to j1.b).b)) : En))
 let v79 : AV := .raw (.string (bs t))
 let v78 : AV := .raw (.string (bs x7))
 let v80 : AV := .raw (.bool (x7 == t))
 let v3 : AV := .raw (.bool (x7 == t))
 let G0 : St := ⟨[(41, (Enc.cells ((En.mk 0 0 0 []) : En))), (41, (Enc.cells ((En.mk ((En.mk j1.k x5 j1.to j1.b).k) ((En.mk j1.k x5 j1.to j1.b).fr) x6 ((En.mk j1.k x5 j1.to j1.b).b)) : En)))], [], [], 0, false⟩
 let G1 : St := ⟨[(41, (Enc.cells ((En.mk ((En.mk j1.k x5 j1.to j1.b).k) ((En.mk j1.k x5 j1.to j1.b).fr) x6 ((En.mk j1.k x5 j1.to j1.b).b)) : En))), (41, (Enc.cells ((En.mk ((En.mk j1.k x5 j1.to j1.b).k) ((En.mk j1.k x5 j1.to j1.b).fr) x6 ((En.mk j1.k x5 j1.to j1.b).b)) : En)))], [], [], 0, false⟩
 obtain ⟨ps, hps⟩ : ∃ ps : List (Option (Nat × AV)), ps = [some (76, v76), some (77, v77), some (78, v78), some (79, v79), some (80, v80), none, some (3, v3)] := ⟨_, rfl⟩
 let N : Nat → Nat → St → Prop := fun k m σ => aN (ITP Tryz.prog) Tryz.prog none ops FIN S0 ps 7 k m σ
 have n17 : N 0 127 G1 := by
  exact aN_0 hops hS0 hps (hFIN _ _ (Wk.refl _ _ _))
 have n16 : N 1 63 G1 := by
  refine aN_n hops hS0 hps [6] (all_cons (aopAt_l hops rfl ?_) all_nil)
  refine w_o (a := v3) ?_
  exact aN_of n17 hS0 hps
 have n15 : N 2 47 G1 := by
  refine aN_n hops hS0 hps [4] (all_cons (aopAt_l hops rfl ?_) all_nil)
  refine w_o (a := v80) (h := op_q (q_streq rfl rfl rfl)) ?_
  exact aN_of n16 hS0 hps
 have n14 : N 2 31 G0 := by
  refine aN_n hops hS0 hps [5] (all_cons (aopAt_l hops rfl ?_) all_nil)
  refine w_om (σ'' := G1) (h := op_storeW (n := 4) rfl rfl rfl rfl rfl rfl rfl rfl (by decide)) ?_
  exact aN_of n16 hS0 hps
 have n13 : N 3 30 G0 := by
  refine aN_n hops hS0 hps [0] (all_cons (aopAt_l hops rfl ?_) all_nil)
  refine w_o (a := v76) ?_
  exact aN_of n14 hS0 hps
 have n12 : N 3 39 G1 := by
  refine aN_n hops hS0 hps [3] (all_cons (aopAt_l hops rfl ?_) all_nil)
  refine w_o (a := v79) ?_
  exact aN_of n15 hS0 hps
 have n11 : N 3 15 G0 := by
  refine aN_n hops hS0 hps [4, 5] (all_cons (aopAt_l hops rfl ?_) (all_cons (aopAt_l hops rfl ?_) all_nil))
  refine w_o (a := v80) (h := op_q (q_streq rfl rfl rfl)) ?_
  exact aN_of n14 hS0 hps
  refine w_om (σ'' := G1) (h := op_storeW (n := 4) rfl rfl rfl rfl rfl rfl rfl rfl (by decide)) ?_
  exact aN_of n15 hS0 hps
 have n10 : N 4 14 G0 := by
  refine aN_n hops hS0 hps [0, 4] (all_cons (aopAt_l hops rfl ?_) (all_cons (aopAt_l hops rfl ?_) all_nil))
  refine w_o (a := v76) ?_
  exact aN_of n11 hS0 hps
  refine w_o (a := v80) (h := op_q (q_streq rfl rfl rfl)) ?_
  exact aN_of n13 hS0 hps
 have n9 : N 4 11 G0 := by
  refine aN_n hops hS0 hps [2] (all_cons (aopAt_l hops rfl ?_) all_nil)
  refine w_callc (args' := [.agg (Enc.cells ((En.mk ((En.mk j1.k x5 j1.to j1.b).k) ((En.mk j1.k x5 j1.to j1.b).fr) x6 ((En.mk j1.k x5 j1.to j1.b).b)) : En))]) (r := v78) (line_sh fuel (En.mk ((En.mk j1.k x5 j1.to j1.b).k) ((En.mk j1.k x5 j1.to j1.b).fr) x6 ((En.mk j1.k x5 j1.to j1.b).b)) x7 hx7) rfl rfl (stripL_cons (strip_c (clo_agg (Enc.clo _))) rfl) (okTrimL_cons (okTrim_clo _ _ (clo_agg (Enc.clo _))) rfl) (by dsimp only [aput, List.set]) ?_
  exact aN_of n11 hS0 hps
 have n8 : N 4 7 G0 := by
  refine aN_n hops hS0 hps [3, 5] (all_cons (aopAt_l hops rfl ?_) (all_cons (aopAt_l hops rfl ?_) all_nil))
  refine w_o (a := v79) ?_
  exact aN_of n11 hS0 hps
  refine w_om (σ'' := G1) (h := op_storeW (n := 4) rfl rfl rfl rfl rfl rfl rfl rfl (by decide)) ?_
  exact aN_of n12 hS0 hps
 have n7 : N 5 10 G0 := by
  refine aN_n hops hS0 hps [0, 2] (all_cons (aopAt_l hops rfl ?_) (all_cons (aopAt_l hops rfl ?_) all_nil))
  refine w_o (a := v76) ?_
  exact aN_of n9 hS0 hps
  refine w_callc (args' := [.agg (Enc.cells ((En.mk ((En.mk j1.k x5 j1.to j1.b).k) ((En.mk j1.k x5 j1.to j1.b).fr) x6 ((En.mk j1.k x5 j1.to j1.b).b)) : En))]) (r := v78) (line_sh fuel (En.mk ((En.mk j1.k x5 j1.to j1.b).k) ((En.mk j1.k x5 j1.to j1.b).fr) x6 ((En.mk j1.k x5 j1.to j1.b).b)) x7 hx7) rfl rfl (stripL_cons (strip_c (clo_agg (Enc.clo _))) rfl) (okTrimL_cons (okTrim_clo _ _ (clo_agg (Enc.clo _))) rfl) (by dsimp only [aput, List.set]) ?_
  exact aN_of n10 hS0 hps
 have n6 : N 5 6 G0 := by
  refine aN_n hops hS0 hps [0, 3] (all_cons (aopAt_l hops rfl ?_) (all_cons (aopAt_l hops rfl ?_) all_nil))
  refine w_o (a := v76) ?_
  exact aN_of n8 hS0 hps
  refine w_o (a := v79) ?_
  exact aN_of n10 hS0 hps
 have n5 : N 5 9 G0 := by
  refine aN_n hops hS0 hps [1] (all_cons (aopAt_l hops rfl ?_) all_nil)
  refine w_o (a := v77) ?_
  exact aN_of n9 hS0 hps
 have n4 : N 5 3 G0 := by
  refine aN_n hops hS0 hps [2, 3] (all_cons (aopAt_l hops rfl ?_) (all_cons (aopAt_l hops rfl ?_) all_nil))
  refine w_callc (args' := [.agg (Enc.cells ((En.mk ((En.mk j1.k x5 j1.to j1.b).k) ((En.mk j1.k x5 j1.to j1.b).fr) x6 ((En.mk j1.k x5 j1.to j1.b).b)) : En))]) (r := v78) (line_sh fuel (En.mk ((En.mk j1.k x5 j1.to j1.b).k) ((En.mk j1.k x5 j1.to j1.b).fr) x6 ((En.mk j1.k x5 j1.to j1.b).b)) x7 hx7) rfl rfl (stripL_cons (strip_c (clo_agg (Enc.clo _))) rfl) (okTrimL_cons (okTrim_clo _ _ (clo_agg (Enc.clo _))) rfl) (by dsimp only [aput, List.set]) ?_
  exact aN_of n8 hS0 hps
  refine w_o (a := v79) ?_
  exact aN_of n9 hS0 hps
 have n3 : N 6 8 G0 := by
  refine aN_n hops hS0 hps [0, 1] (all_cons (aopAt_l hops rfl ?_) (all_cons (aopAt_l hops rfl ?_) all_nil))
  refine w_o (a := v76) ?_
  exact aN_of n5 hS0 hps
  refine w_o (a := v77) ?_
  exact aN_of n7 hS0 hps
 have n2 : N 6 2 G0 := by
  refine aN_n hops hS0 hps [0, 2, 3] (all_cons (aopAt_l hops rfl ?_) (all_cons (aopAt_l hops rfl ?_) (all_cons (aopAt_l hops rfl ?_) all_nil)))
  refine w_o (a := v76) ?_
  exact aN_of n4 hS0 hps
  refine w_callc (args' := [.agg (Enc.cells ((En.mk ((En.mk j1.k x5 j1.to j1.b).k) ((En.mk j1.k x5 j1.to j1.b).fr) x6 ((En.mk j1.k x5 j1.to j1.b).b)) : En))]) (r := v78) (line_sh fuel (En.mk ((En.mk j1.k x5 j1.to j1.b).k) ((En.mk j1.k x5 j1.to j1.b).fr) x6 ((En.mk j1.k x5 j1.to j1.b).b)) x7 hx7) rfl rfl (stripL_cons (strip_c (clo_agg (Enc.clo _))) rfl) (okTrimL_cons (okTrim_clo _ _ (clo_agg (Enc.clo _))) rfl) (by dsimp only [aput, List.set]) ?_
  exact aN_of n6 hS0 hps
  refine w_o (a := v79) ?_
  exact aN_of n7 hS0 hps
 have n1 : N 6 1 G0 := by
  refine aN_n hops hS0 hps [1, 3] (all_cons (aopAt_l hops rfl ?_) (all_cons (aopAt_l hops rfl ?_) all_nil))
  refine w_o (a := v77) ?_
  exact aN_of n4 hS0 hps
  refine w_o (a := v79) ?_
  exact aN_of n5 hS0 hps
 have n0 : N 7 0 G0 := by
  refine aN_n hops hS0 hps [0, 1, 3] (all_cons (aopAt_l hops rfl ?_) (all_cons (aopAt_l hops rfl ?_) (all_cons (aopAt_l hops rfl ?_) all_nil)))
  refine w_o (a := v76) ?_
  exact aN_of n1 hS0 hps
  refine w_o (a := v77) ?_
  exact aN_of n2 hS0 hps
  refine w_o (a := v79) ?_
  exact aN_of n3 hS0 hps
 exact aN_start n0 hps
 exact end_pureF (fun (r : (En × Bool)) => (.tup [.agg (Enc.cells (r.1 : En)), .raw (.bool r.2)] : AV)) h (a := .tup [.agg (Enc.cells ((En.mk ((En.mk j1.k x5 j1.to j1.b).k) ((En.mk j1.k x5 j1.to j1.b).fr) x6 ((En.mk j1.k x5 j1.to j1.b).b)) : En)), .raw (.bool (x7 == t))]) rfl (show okTrimL _ _ = true from (okTrimL_cons (okTrim_clo _ _ (clo_agg (Enc.clo _))) (by kernel_rfl))) (show AV.tup (stripL _) = _ from congrArg AV.tup (stripL_cons (strip_c (clo_agg (Enc.clo _))) (stripL_cons rfl rfl)))
def F_read (fuel : Nat) (t : (List UInt8)) : Option (Trc × Int × Int) :=
  (bif (decide ((List.length t : Int) > 1048576)) then (some ((Trc.mk [] (Ed.mk 0 0)), 0, 3)) else (cutE (τ := Int × Trc) (loopE (β := (List UInt8) × Int × Int × Trc) (fun s1 => (chk (List.length s1.1 < 4294967281) (letE (Lib.cut s1.1 ([10] : List UInt8)) (fun x1 => (bif (!x1.2.2) then (some (Sum.inr (Sum.inl (s1.2.2.1, (Trc.mk s1.2.2.2.l (Ed.mk s1.2.2.2.e.k s1.2.2.2.e.c)))))) else (bindE (F_ends fuel x1.1) (fun x2 => (bif x2.2 then (bif (!(x1.2.1 == ([] : List UInt8))) then (chk (-9223372036854775808 ≤ (s1.2.2.1 + 1) ∧ (s1.2.2.1 + 1) < 9223372036854775808) (some (Sum.inr (Sum.inl ((s1.2.2.1 + 1), (Trc.mk s1.2.2.2.l (Ed.mk s1.2.2.2.e.k s1.2.2.2.e.c))))))) else (some (Sum.inr (Sum.inr ((Trc.mk s1.2.2.2.l (Ed.mk x2.1.k x2.1.c)), 0, 0))))) else (bindE (F_entry fuel x1.1) (fun x3 => (bif (!x3.2) then (some (Sum.inr (Sum.inl (s1.2.2.1, (Trc.mk s1.2.2.2.l (Ed.mk s1.2.2.2.e.k s1.2.2.2.e.c)))))) else (bindE (F_right x3.1 s1.2.1) (fun x4 => (bif (!x4) then (some (Sum.inr (Sum.inl (s1.2.2.1, (Trc.mk s1.2.2.2.l (Ed.mk s1.2.2.2.e.k s1.2.2.2.e.c)))))) else (bif ((List.length s1.2.2.2.l : Int) == 65536) then (some (Sum.inr (Sum.inl (s1.2.2.1, (Trc.mk s1.2.2.2.l (Ed.mk s1.2.2.2.e.k s1.2.2.2.e.c)))))) else (chk ((List.length s1.2.2.2.l + List.length [x3.1]) * 40 ≤ 140737488355328) (chk (-9223372036854775808 ≤ (s1.2.2.1 + 1) ∧ (s1.2.2.1 + 1) < 9223372036854775808) (some (Sum.inl (x1.2.1, (max s1.2.1 x3.1.to), (s1.2.2.1 + 1), (Trc.mk (s1.2.2.2.l ++ [x3.1]) (Ed.mk s1.2.2.2.e.k s1.2.2.2.e.c)))))))))))))))))))))) fuel (t, 0, 1, (Trc.mk ([] : List En) (Ed.mk 0 0)))) (fun j1 => (some ((Trc.mk [] (Ed.mk 0 0)), j1.1, 332)))))
theorem ent7 : Ent Tryz.prog 7 := enters_of Tryz.func7 (by kernel_rfl) rfl
set_option maxRecDepth 100000 in
set_option maxHeartbeats 4000000 in
theorem read_sh (fuel : Nat) (t : (List UInt8)) (r : (Trc × Int × Int)) (h : F_read fuel t = some r) : Pure (ITP Tryz.prog) Tryz.prog 7 [.raw (.string (bs t))] (.tup [.agg (Enc.cells (r.1 : Trc)), .raw (.int .i64 r.2.1), .raw (.int .i64 r.2.2)]) := by
 obtain ⟨d, hd⟩ : ∃ d, Tryz.f7.body = some d := ⟨_, rfl⟩
 refine pure_of mix Tryz.func7 hd ent7 ?_
 cases hd
 unfold F_read at h
 refine w_start (by dsimp only [abeginS, Tryz.f7, List.length_cons, List.length_nil, Nat.zero_add, Nat.reduceAdd, Nat.reduceSub, List.replicate, List.cons_append, List.nil_append]) (by dsimp only [St.empty]) ?_
 refine w_seq (w_region ?_)
 refine w_om (a := .ptr 0 0) (σ'' := ⟨[(27, [.list 0 [] .full, .raw (.int .u8 0), .raw (.int .i64 0)])], [], [], 0, false⟩) ?_
 refine w_o (a := .raw (.int .i64 0)) ?_
 refine w_o (a := .raw (.int .i64 0)) ?_
 refine w_scope ?_
 refine w_seq ?_
 refine w_seq (w_region ?_)
 refine w_o (a := .raw (.string (bs t))) ?_
 refine w_o (a := .raw (.int .i64 (List.length t : Int))) (h := op_q (q_lenS rfl rfl rfl)) ?_
 refine w_o (a := .raw (.bool (decide ((List.length t : Int) > 1048576)))) ?_
 refine bif_e h (fun hc1 h => ?_) (fun hc1 h => ?_)
 refine w_condT hc1 rfl ?_
 refine w_seq (w_region ?_)
 refine w_qs (.agg (Enc.cells ((Trc.mk [] (Ed.mk 0 0)) : Trc))) (a0 := (trcR (Trc.mk [] (Ed.mk 0 0)) .full)) rfl rfl rfl (by kernel_rfl) (strip_trcR _ _) (by dsimp only [aput, List.set]) ?_
 refine w_om (σ'' := ⟨[(27, (Enc.cells ((Trc.mk [] (Ed.mk 0 0)) : Trc)))], [], [], 0, false⟩) (h := op_storeW (n := 3) rfl rfl rfl rfl rfl rfl rfl rfl (by decide)) ?_
 refine w_o (a := .raw (.int .i64 0)) ?_
 refine w_o (a := .raw (.int .i64 3)) ?_
 exact end_pureF (fun (r : (Trc × Int × Int)) => (.tup [.agg (Enc.cells (r.1 : Trc)), .raw (.int .i64 r.2.1), .raw (.int .i64 r.2.2)] : AV)) h (a := .tup [.agg (Enc.cells ((Trc.mk [] (Ed.mk 0 0)) : Trc)), .raw (.int .i64 0), .raw (.int .i64 3)]) rfl (show okTrimL _ _ = true from (okTrimL_cons (okTrim_clo _ _ (clo_agg (Enc.clo _))) (by kernel_rfl))) (show AV.tup (stripL _) = _ from congrArg AV.tup (stripL_cons (strip_c (clo_agg (Enc.clo _))) (stripL_cons rfl (stripL_cons rfl rfl))))
 refine w_condF hc1 rfl ?_
 refine w_seq (w_region ?_)
 refine w_om (a := .ptr 1 0) (σ'' := ⟨[(27, [.list 0 [] .full, .raw (.int .u8 0), .raw (.int .i64 0)]), (27, [.list (List.length (([] : List En) : List En)) (Enc.cellsL (([] : List En) : List En)) .full, .raw (.int .u8 0), .raw (.int .i64 0)])], [], [], 0, false⟩) ?_
 refine w_seq (w_region ?_)
 refine w_o (a := .raw (.int .i64 0)) ?_
 refine w_o (a := .raw (.int .i64 1)) ?_
 refine w_seq ?_
 refine w_label ?_
 refine w_cutF h [0, 1, 3, 4, 5, 6, 7, 8, 9, 10, 11, 12, 13, 14, 15, 16, 17, 18, 19, 20, 21, 22, 23, 24, 25, 26, 27, 28, 29, 30, 31, 32, 33, 34, 35, 36, 37, 38, 39, 40, 41, 42, 43, 44, 45, 46, 47, 48, 49, 50, 51, 52, 53, 54, 55, 56, 57, 58, 59, 60, 61, 62, 63, 64, 65, 66, 67, 68, 69, 70, 71, 72] (fun j1 => [(7, .raw (.int .i64 j1.1))]) (fun j1 => (ownSt [(27, [.list 0 [] .full, .raw (.int .u8 0), .raw (.int .i64 0)]), (27, [(ownAV (List.length (j1.2.l : List En)) (Enc.cellsL (j1.2.l : List En))), .raw (.int .u8 j1.2.e.k), .raw (.int .i64 j1.2.e.c)])] 41 (List.length (j1.2.l : List En)) 4)) ?_ ?_
 intro or1 h hr1
 refine w_block ?_
 refine w_loopF h [0, 1, 3, 4, 6, 7, 8, 9, 10, 11, 12, 13, 14, 15, 16, 17, 18, 19, 20, 21, 22, 23, 24, 25, 26, 27, 28, 29, 30, 31, 32, 33, 34, 35, 36, 37, 38, 39, 40, 41, 42, 43, 44, 45, 46, 47, 48, 49, 50, 51, 52, 53, 54, 55, 56, 57, 58, 59, 60, 61, 62, 63, 64, 65, 66, 67, 68, 69, 70, 71, 72] (fun s1 => [(0, .raw (.string (bs s1.1))), (6, .raw (.int .i64 s1.2.1)), (7, .raw (.int .i64 s1.2.2.1))]) (fun s1 => (ownSt [(27, [.list 0 [] .full, .raw (.int .u8 0), .raw (.int .i64 0)]), (27, [(ownAV (List.length (s1.2.2.2.l : List En)) (Enc.cellsL (s1.2.2.2.l : List En))), .raw (.int .u8 s1.2.2.2.e.k), .raw (.int .i64 s1.2.2.2.e.c)])] 41 (List.length (s1.2.2.2.l : List En)) 4)) ?_ ?_
 exact wm_of (bl 73 229) (by kernel_rfl) (by kernel_rfl)
 intro s1 p1 h
 refine w_start (by dsimp only [setAll, topAll, List.foldl, List.set]) rfl ?_
 refine w_block ?_
 refine w_seq (w_region ?_)
 refine w_o (a := .raw (.string (bs s1.1))) ?_
 obtain ⟨g1, h⟩ := chk_e h
 obtain ⟨x1, hx1, h⟩ := letE_e h
 refine w_callc (args' := [.raw (.string (bs s1.1)), .raw (.string (bs ([10] : List UInt8)))]) (r := .tup [.raw (.string (bs x1.1)), .raw (.string (bs x1.2.1)), .raw (.bool x1.2.2)]) (by rw [← hx1]; exact (cut_pure s1.1 ([10] : List UInt8) g1)) rfl rfl (stripL_cons rfl (stripL_cons rfl rfl)) (by kernel_rfl) (by dsimp only [aput, List.set]) ?_
 refine w_o (a := .tup [.raw (.string (bs x1.1)), .raw (.string (bs x1.2.1)), .raw (.bool x1.2.2)]) ?_
 refine w_o (a := .raw (.string (bs x1.1))) ?_
 refine w_o (a := .raw (.string (bs x1.2.1))) ?_
 refine w_o (a := .raw (.bool x1.2.2)) ?_
 refine w_o (a := .raw (.string (bs x1.1))) ?_
 refine w_o (a := .raw (.string (bs x1.2.1))) ?_
 refine w_o (a := .raw (.bool x1.2.2)) ?_
 refine w_seq ?_
 refine w_seq (w_region ?_)
 refine w_o (a := .raw (.bool x1.2.2)) ?_
 refine w_o (a := .raw (.bool (!x1.2.2))) ?_
 refine bif_e h (fun hc2 h => ?_) (fun hc2 h => ?_)
 refine w_condT hc2 rfl ?_
 refine loop_exit h (fun h => ?_)
 refine cut_done (o := or1) (s1.2.2.1, (Trc.mk s1.2.2.2.l (Ed.mk s1.2.2.2.e.k s1.2.2.2.e.c))) h ?_
 exact wm_of (bl 73 132) (by kernel_rfl) (by kernel_rfl)
 refine w_condF hc2 rfl ?_
 refine w_seq ?_
 refine w_seq (w_region ?_)
 refine w_o (a := .raw (.string (bs x1.1))) ?_
 obtain ⟨x2, hx2, h⟩ := bindE_e h
 refine w_callc (args' := [.raw (.string (bs x1.1))]) (r := .tup [.agg (Enc.cells (x2.1 : Ed)), .raw (.bool x2.2)]) (ends_sh fuel x1.1 x2 hx2) rfl rfl (stripL_cons rfl rfl) (by kernel_rfl) (by dsimp only [aput, List.set]) ?_
 refine w_o (a := .tup [.agg (Enc.cells (x2.1 : Ed)), .raw (.bool x2.2)]) ?_
 refine w_o (a := .agg (Enc.cells (x2.1 : Ed))) ?_
 refine w_o (a := .raw (.bool x2.2)) ?_
 refine w_om (a := .ptr 2 0) (σ'' := (ownSt [(27, [.list 0 [] .full, .raw (.int .u8 0), .raw (.int .i64 0)]), (27, [(ownAV (List.length (s1.2.2.2.l : List En)) (Enc.cellsL (s1.2.2.2.l : List En))), .raw (.int .u8 s1.2.2.2.e.k), .raw (.int .i64 s1.2.2.2.e.c)]), (25, (Enc.cells ((Ed.mk 0 0) : Ed)))] 41 (List.length (s1.2.2.2.l : List En)) 4)) ?_
 refine w_om (σ'' := (ownSt [(27, [.list 0 [] .full, .raw (.int .u8 0), .raw (.int .i64 0)]), (27, [(ownAV (List.length (s1.2.2.2.l : List En)) (Enc.cellsL (s1.2.2.2.l : List En))), .raw (.int .u8 s1.2.2.2.e.k), .raw (.int .i64 s1.2.2.2.e.c)]), (25, (Enc.cells (x2.1 : Ed)))] 41 (List.length (s1.2.2.2.l : List En)) 4)) (h := op_storeW (n := 2) rfl rfl rfl rfl rfl rfl rfl rfl (by decide)) ?_
 refine w_o (a := .raw (.bool x2.2)) ?_
 refine w_seq (w_region ?_)
 refine w_o (a := .raw (.bool x2.2)) ?_
 refine bif_e h (fun hc3 h => ?_) (fun hc3 h => ?_)
 refine w_condT hc3 rfl ?_
 refine w_seq ?_
 refine w_seq (w_region ?_)
 refine w_o (a := .raw (.string (bs x1.2.1))) ?_
 refine w_o (a := .raw (.bool (!(x1.2.1 == ([] : List UInt8))))) (h := op_q (q_strne rfl rfl rfl)) ?_
 refine bif_e h (fun hc4 h => ?_) (fun hc4 h => ?_)
 refine w_condT hc4 rfl ?_
 refine w_seq (w_region ?_)
 refine w_o (a := .raw (.int .i64 s1.2.2.1)) ?_
 obtain ⟨g2, h⟩ := chk_e h
 refine w_o (a := .raw (.int .i64 (s1.2.2.1 + 1))) (h := op_q (q_add rfl rfl rfl rfl g2.1 g2.2)) ?_
 refine w_o (a := .raw (.int .i64 (s1.2.2.1 + 1))) ?_
 refine loop_exit h (fun h => ?_)
 refine cut_done (o := or1) ((s1.2.2.1 + 1), (Trc.mk s1.2.2.2.l (Ed.mk s1.2.2.2.e.k s1.2.2.2.e.c))) h ?_
 exact wm_trim (bl 73 132) 2 (by kernel_rfl) (Nat.le_of_ble_eq_true rfl) (okSt_of (okB_cons rfl (okB_cons (okTrimL_cons (okTrim_own (Enc.cloL _)) (by kernel_rfl)) rfl))) (by dsimp only [setAll, topAll, List.foldl, List.set]; exact (okTrimL_cons rfl (okTrimL_cons rfl (okTrimL_cons (by decide) (by kernel_rfl))))) (by kernel_rfl)
 refine w_condF hc4 rfl ?_
 refine w_seq (w_region ?_)
 refine w_o (a := .agg (Enc.cells (x2.1 : Ed))) ?_
 refine w_o (a := .ptr 1 1) ?_
 refine w_om (σ'' := (ownSt [(27, [.list 0 [] .full, .raw (.int .u8 0), .raw (.int .i64 0)]), (27, [(ownAV (List.length (s1.2.2.2.l : List En)) (Enc.cellsL (s1.2.2.2.l : List En))), .raw (.int .u8 x2.1.k), .raw (.int .i64 x2.1.c)]), (25, (Enc.cells (x2.1 : Ed)))] 41 (List.length (s1.2.2.2.l : List En)) 4)) (h := op_store (n := 2) rfl rfl rfl rfl rfl ⟨rfl, rfl, Nat.le_of_ble_eq_true rfl, by decide⟩) ?_
 refine w_seq (w_region ?_)
 refine w_o (a := .agg [(ownAV (List.length (s1.2.2.2.l : List En)) (Enc.cellsL (s1.2.2.2.l : List En))), .raw (.int .u8 x2.1.k), .raw (.int .i64 x2.1.c)]) ?_
 refine w_om (σ'' := (ownSt [(27, [(ownAV (List.length (s1.2.2.2.l : List En)) (Enc.cellsL (s1.2.2.2.l : List En))), .raw (.int .u8 x2.1.k), .raw (.int .i64 x2.1.c)]), (27, [(ownAV (List.length (s1.2.2.2.l : List En)) (Enc.cellsL (s1.2.2.2.l : List En))), .raw (.int .u8 x2.1.k), .raw (.int .i64 x2.1.c)]), (25, (Enc.cells (x2.1 : Ed)))] 41 (List.length (s1.2.2.2.l : List En)) 4)) (h := op_storeW (n := 3) rfl rfl rfl rfl rfl rfl rfl rfl (by decide)) ?_
 refine w_o (a := .raw (.int .i64 0)) ?_
 refine w_o (a := .raw (.int .i64 0)) ?_
 refine loop_exit h (fun h => ?_)
 replace h := cut_inr h hr1
 exact end_pureF (fun (r : (Trc × Int × Int)) => (.tup [.agg (Enc.cells (r.1 : Trc)), .raw (.int .i64 r.2.1), .raw (.int .i64 r.2.2)] : AV)) h (a := .tup [.agg [(ownAV (List.length (s1.2.2.2.l : List En)) (Enc.cellsL (s1.2.2.2.l : List En))), .raw (.int .u8 x2.1.k), .raw (.int .i64 x2.1.c)], .raw (.int .i64 0), .raw (.int .i64 0)]) rfl (show okTrimL _ _ = true from (okTrimL_cons (show okTrimL _ _ = true from (okTrimL_cons (okTrim_own (Enc.cloL _)) (by kernel_rfl))) (by kernel_rfl))) (show AV.tup (stripL _) = _ from congrArg AV.tup (stripL_cons (show AV.agg (stripL _) = _ from congrArg AV.agg (stripL_cons (strip_o (Enc.cloL _) Enc.z) (stripL_cons rfl (stripL_cons rfl rfl)))) (stripL_cons rfl (stripL_cons rfl rfl))))
 refine w_condF hc3 rfl ?_
 refine w_seq (w_region ?_)
 refine w_o (a := .raw (.string (bs x1.1))) ?_
 obtain ⟨x3, hx3, h⟩ := bindE_e h
 refine w_callc (args' := [.raw (.string (bs x1.1))]) (r := .tup [.agg (Enc.cells (x3.1 : En)), .raw (.bool x3.2)]) (entry_sh fuel x1.1 x3 hx3) rfl rfl (stripL_cons rfl rfl) (by kernel_rfl) (by dsimp only [aput, List.set]) ?_
 refine w_o (a := .tup [.agg (Enc.cells (x3.1 : En)), .raw (.bool x3.2)]) ?_
 refine w_o (a := .agg (Enc.cells (x3.1 : En))) ?_
 refine w_o (a := .raw (.bool x3.2)) ?_
 refine w_om (a := .ptr 3 0) (σ'' := (ownSt [(27, [.list 0 [] .full, .raw (.int .u8 0), .raw (.int .i64 0)]), (27, [(ownAV (List.length (s1.2.2.2.l : List En)) (Enc.cellsL (s1.2.2.2.l : List En))), .raw (.int .u8 s1.2.2.2.e.k), .raw (.int .i64 s1.2.2.2.e.c)]), (25, (Enc.cells (x2.1 : Ed))), (41, (Enc.cells ((En.mk 0 0 0 []) : En)))] 41 (List.length (s1.2.2.2.l : List En)) 4)) ?_
 refine w_om (σ'' := (ownSt [(27, [.list 0 [] .full, .raw (.int .u8 0), .raw (.int .i64 0)]), (27, [(ownAV (List.length (s1.2.2.2.l : List En)) (Enc.cellsL (s1.2.2.2.l : List En))), .raw (.int .u8 s1.2.2.2.e.k), .raw (.int .i64 s1.2.2.2.e.c)]), (25, (Enc.cells (x2.1 : Ed))), (41, (Enc.cells (x3.1 : En)))] 41 (List.length (s1.2.2.2.l : List En)) 4)) (h := op_storeW (n := 4) rfl rfl rfl rfl rfl rfl rfl rfl (by decide)) ?_
 refine w_o (a := .raw (.bool x3.2)) ?_
 refine w_seq ?_
 refine w_seq (w_region ?_)
 refine w_o (a := .raw (.bool x3.2)) ?_
 refine w_o (a := .raw (.bool (!x3.2))) ?_
 refine bif_e h (fun hc5 h => ?_) (fun hc5 h => ?_)
 refine w_o (a := .raw (.bool true)) (h := op_q (q_bool rfl hc5)) ?_
 refine w_po ?_
 refine w_po ?_
 refine w_po ?_
 refine w_po ?_
 refine w_o (a := .raw (.bool true)) ?_
 refine w_o (a := .raw (.bool true)) ?_
 refine w_po ?_
 refine w_po ?_
 refine w_po ?_
 refine w_po ?_
 refine w_o (a := .raw (.bool true)) ?_
 refine w_true rfl ?_
 refine loop_exit h (fun h => ?_)
 refine cut_done (o := or1) (s1.2.2.1, (Trc.mk s1.2.2.2.l (Ed.mk s1.2.2.2.e.k s1.2.2.2.e.c))) h ?_
 exact wm_trim (bl 73 132) 2 (by kernel_rfl) (Nat.le_of_ble_eq_true rfl) (okSt_of (okB_cons rfl (okB_cons (okTrimL_cons (okTrim_own (Enc.cloL _)) (by kernel_rfl)) rfl))) (by dsimp only [setAll, topAll, List.foldl, List.set]; exact (okTrimL_cons rfl (okTrimL_cons rfl (okTrimL_cons (by decide) (by kernel_rfl))))) (by kernel_rfl)
 refine w_o (a := .raw (.bool false)) (h := op_q (q_bool rfl hc5)) ?_
 refine w_met rfl rfl ?_
 refine w_o (a := .agg (Enc.cells (x3.1 : En))) ?_
 refine w_met rfl rfl ?_
 refine w_o (a := .raw (.int .i64 s1.2.1)) ?_
 refine w_met rfl rfl ?_
 obtain ⟨x4, hx4, h⟩ := bindE_e h
 refine w_callc (args' := [.agg (Enc.cells (x3.1 : En)), .raw (.int .i64 s1.2.1)]) (r := .raw (.bool x4)) (right_sh x3.1 s1.2.1 x4 hx4) rfl rfl (stripL_cons (strip_c (clo_agg (Enc.clo _))) (stripL_cons rfl rfl)) (okTrimL_cons (okTrim_clo _ _ (clo_agg (Enc.clo _))) (by kernel_rfl)) (by dsimp only [aput, List.set]) ?_
 refine w_met rfl rfl ?_
 refine w_o (a := .raw (.bool (!x4))) ?_
 refine w_o (a := .raw (.bool (!x4))) ?_
 refine bif_e h (fun hc6 h => ?_) (fun hc6 h => ?_)
 refine w_o (a := .raw (.bool true)) (h := op_q (q_bool rfl hc6)) ?_
 refine w_po ?_
 refine w_po ?_
 refine w_po ?_
 refine w_po ?_
 refine w_o (a := .raw (.bool true)) ?_
 refine w_true rfl ?_
 refine loop_exit h (fun h => ?_)
 refine cut_done (o := or1) (s1.2.2.1, (Trc.mk s1.2.2.2.l (Ed.mk s1.2.2.2.e.k s1.2.2.2.e.c))) h ?_
 exact wm_trim (bl 73 132) 2 (by kernel_rfl) (Nat.le_of_ble_eq_true rfl) (okSt_of (okB_cons rfl (okB_cons (okTrimL_cons (okTrim_own (Enc.cloL _)) (by kernel_rfl)) rfl))) (by dsimp only [setAll, topAll, List.foldl, List.set]; exact (okTrimL_cons rfl (okTrimL_cons rfl (okTrimL_cons (by decide) (by kernel_rfl))))) (by kernel_rfl)
 refine w_o (a := .raw (.bool false)) (h := op_q (q_bool rfl hc6)) ?_
 refine w_met rfl rfl ?_
 refine w_o (a := .ptr 1 0) ?_
 refine w_met rfl rfl ?_
 refine w_o (a := (ownAV (List.length (s1.2.2.2.l : List En)) (Enc.cellsL (s1.2.2.2.l : List En)))) ?_
 refine w_met rfl rfl ?_
 refine w_o (a := .raw (.int .i64 (List.length s1.2.2.2.l : Int))) (h := op_q (q_lenO (α := En) (l := s1.2.2.2.l) rfl rfl rfl rfl rfl rfl)) ?_
 refine w_met rfl rfl ?_
 refine w_o (a := .raw (.bool ((List.length s1.2.2.2.l : Int) == 65536))) ?_
 refine w_o (a := .raw (.bool ((List.length s1.2.2.2.l : Int) == 65536))) ?_
 refine bif_e h (fun hc7 h => ?_) (fun hc7 h => ?_)
 refine w_condT hc7 rfl ?_
 refine loop_exit h (fun h => ?_)
 refine cut_done (o := or1) (s1.2.2.1, (Trc.mk s1.2.2.2.l (Ed.mk s1.2.2.2.e.k s1.2.2.2.e.c))) h ?_
 exact wm_trim (bl 73 132) 2 (by kernel_rfl) (Nat.le_of_ble_eq_true rfl) (okSt_of (okB_cons rfl (okB_cons (okTrimL_cons (okTrim_own (Enc.cloL _)) (by kernel_rfl)) rfl))) (by dsimp only [setAll, topAll, List.foldl, List.set]; exact (okTrimL_cons rfl (okTrimL_cons rfl (okTrimL_cons (by decide) (by kernel_rfl))))) (by kernel_rfl)
 refine w_condF hc7 rfl ?_
 refine w_seq (w_region ?_)
 refine w_o (a := .ptr 1 0) ?_
 refine w_o (a := (ownAV (List.length (s1.2.2.2.l : List En)) (Enc.cellsL (s1.2.2.2.l : List En)))) ?_
 refine w_o (a := .agg (Enc.cells (x3.1 : En))) ?_
 refine w_o (a := .list (List.length ([x3.1] : List En)) (Enc.cellsL ([x3.1] : List En)) .full) (h := op_q (q_lit (α := En) (l := [x3.1]) (cs := Enc.cells (x3.1 : En) ++ []) rfl (by rw [Enc.cons, Enc.nil]))) ?_
 obtain ⟨g3, h⟩ := chk_e h
 refine w_opm (a := (ownAV (List.length ((s1.2.2.2.l ++ [x3.1]) : List En)) (Enc.cellsL ((s1.2.2.2.l ++ [x3.1]) : List En)))) (σ'' := (ownSt [(27, [.list 0 [] .full, .raw (.int .u8 0), .raw (.int .i64 0)]), (27, [(ownAV (List.length (s1.2.2.2.l : List En)) (Enc.cellsL (s1.2.2.2.l : List En))), .raw (.int .u8 s1.2.2.2.e.k), .raw (.int .i64 s1.2.2.2.e.c)]), (25, (Enc.cells (x2.1 : Ed))), (41, (Enc.cells (x3.1 : En)))] 41 (List.length ((s1.2.2.2.l ++ [x3.1]) : List En)) 4)) rfl rfl rfl (op_append rfl rfl rfl rfl (append_ownE (α := En) (bs := [(27, [.list 0 [] .full, .raw (.int .u8 0), .raw (.int .i64 0)]), (27, [(ownAV (List.length (s1.2.2.2.l : List En)) (Enc.cellsL (s1.2.2.2.l : List En))), .raw (.int .u8 s1.2.2.2.e.k), .raw (.int .i64 s1.2.2.2.e.c)]), (25, (Enc.cells (x2.1 : Ed))), (41, (Enc.cells (x3.1 : En)))]) (a := s1.2.2.2.l) (b := [x3.1]) g3 rfl rfl rfl rfl rfl ⟨rfl, by decide⟩)) (by dsimp only [aput, List.set]) rfl ?_
 refine w_o (a := .ptr 1 0) ?_
 refine w_om (σ'' := (ownSt [(27, [.list 0 [] .full, .raw (.int .u8 0), .raw (.int .i64 0)]), (27, [(ownAV (List.length ((s1.2.2.2.l ++ [x3.1]) : List En)) (Enc.cellsL ((s1.2.2.2.l ++ [x3.1]) : List En))), .raw (.int .u8 s1.2.2.2.e.k), .raw (.int .i64 s1.2.2.2.e.c)]), (25, (Enc.cells (x2.1 : Ed))), (41, (Enc.cells (x3.1 : En)))] 41 (List.length ((s1.2.2.2.l ++ [x3.1]) : List En)) 4)) (h := op_storeO rfl rfl rfl rfl rfl (Nat.le_of_ble_eq_true rfl)) ?_
 refine w_seq (w_region ?_)
 refine w_o (a := .raw (.int .i64 s1.2.1)) ?_
 refine w_o (a := .ptr 3 2) ?_
 refine w_o (a := .raw (.int .i64 x3.1.to)) ?_
 refine w_o (a := .raw (.int .i64 (max s1.2.1 x3.1.to))) (h := op_q (q_max rfl rfl rfl rfl rfl)) ?_
 refine w_o (a := .raw (.string (bs x1.2.1))) ?_
 refine w_o (a := .raw (.int .i64 (max s1.2.1 x3.1.to))) ?_
 refine w_o (a := .raw (.string (bs x1.2.1))) ?_
 refine w_region (k0 := 0) (id := 17) ?_
 refine w_o (a := .raw (.int .i64 s1.2.2.1)) ?_
 obtain ⟨g4, h⟩ := chk_e h
 refine w_o (a := .raw (.int .i64 (s1.2.2.1 + 1))) (h := op_q (q_add rfl rfl rfl rfl g4.1 g4.2)) ?_
 refine w_o (a := .raw (.int .i64 (s1.2.2.1 + 1))) ?_
 refine loop_next (p := p1) (x1.2.1, (max s1.2.1 x3.1.to), (s1.2.2.1 + 1), (Trc.mk (s1.2.2.2.l ++ [x3.1]) (Ed.mk s1.2.2.2.e.k s1.2.2.2.e.c))) h ?_
 exact wm_trim (bl 73 229) 2 (by kernel_rfl) (Nat.le_of_ble_eq_true rfl) (okSt_of (okB_cons rfl (okB_cons (okTrimL_cons (okTrim_own (Enc.cloL _)) (by kernel_rfl)) rfl))) (by dsimp only [setAll, topAll, List.foldl, List.set]; exact (okTrimL_cons rfl (okTrimL_cons rfl (okTrimL_cons (by decide) (okTrimL_cons rfl (okTrimL_cons rfl (okTrimL_cons (by decide) (by kernel_rfl)))))))) (by kernel_rfl)
 intro j1 h
 refine w_start (by dsimp only [setAll, topAll, List.foldl, List.set]) rfl ?_
 refine w_seq (w_region ?_)
 refine w_qs (.agg (Enc.cells ((Trc.mk [] (Ed.mk 0 0)) : Trc))) (a0 := (trcR (Trc.mk [] (Ed.mk 0 0)) .full)) rfl rfl rfl (by kernel_rfl) (strip_trcR _ _) (by dsimp only [aput, List.set]) ?_
 refine w_o (a := .raw (.int .i64 j1.1)) ?_
 refine w_om (σ'' := (ownSt [(27, (Enc.cells ((Trc.mk [] (Ed.mk 0 0)) : Trc))), (27, [(ownAV (List.length (j1.2.l : List En)) (Enc.cellsL (j1.2.l : List En))), .raw (.int .u8 j1.2.e.k), .raw (.int .i64 j1.2.e.c)])] 41 (List.length (j1.2.l : List En)) 4)) (h := op_storeW (n := 3) rfl rfl rfl rfl rfl rfl rfl rfl (by decide)) ?_
 refine w_o (a := .raw (.int .i64 j1.1)) ?_
 refine w_o (a := .raw (.int .i64 332)) ?_
 exact end_pureF (fun (r : (Trc × Int × Int)) => (.tup [.agg (Enc.cells (r.1 : Trc)), .raw (.int .i64 r.2.1), .raw (.int .i64 r.2.2)] : AV)) h (a := .tup [.agg (Enc.cells ((Trc.mk [] (Ed.mk 0 0)) : Trc)), .raw (.int .i64 j1.1), .raw (.int .i64 332)]) rfl (show okTrimL _ _ = true from (okTrimL_cons (okTrim_clo _ _ (clo_agg (Enc.clo _))) (by kernel_rfl))) (show AV.tup (stripL _) = _ from congrArg AV.tup (stripL_cons (strip_c (clo_agg (Enc.clo _))) (stripL_cons rfl (stripL_cons rfl rfl))))
end Go.Ab

