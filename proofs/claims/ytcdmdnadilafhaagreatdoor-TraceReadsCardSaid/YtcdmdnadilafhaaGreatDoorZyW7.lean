/-
  trace: Check, Taken, Lost, At.
-/
import Derived.Test.YtcdmdnadilafhaaGreatDoorZyEn2
import Derived.Test.YtcdmdnadilafhaaGreatDoorZyBd
import Derived.Test.YtcdmdnadilafhaaGreatDoorZyQc
import Derived.Test.YtcdmdnadilafhaaGreatDoorZdQo
set_option linter.unusedSimpArgs false
set_option linter.unusedVariables false
namespace Go.Ab
open Go Go.RowKit Go.Fwd Go.Proofs
def F_right (e : En) (a : Int) : Option Bool :=
  (bif (e.k == 1) then (bif (decide (e = (En.mk 1 0 0 e.b))) then (some (decide ((List.length e.b : Int) ≤ 512))) else (some false)) else (cutE (τ := Bool) (bif (e.k == 2) then (some (Sum.inl ((e.k == 2)))) else (some (Sum.inl ((e.k == 3))))) (fun j1 => (bif j1 then (bif (decide (e = (En.mk e.k a e.to []))) then (bif (decide (e.to ≥ a)) then (bif (decide (e.to ≤ 1073741824)) then (bif (e.k == 2) then (some true) else (some (decide (e.to > a)))) else (some false)) else (some false)) else (some false)) else (some false)))))
theorem ent29 : Ent Tryz.prog 29 := enters_of Tryz.func29 (by kernel_rfl) rfl
set_option maxRecDepth 100000 in
set_option maxHeartbeats 4000000 in
theorem right_sh (e : En) (a : Int) (r : Bool) (h : F_right e a = some r) : Pure (ITP Tryz.prog) Tryz.prog 29 [.agg (Enc.cells (e : En)), .raw (.int .i64 a)] (.raw (.bool r)) := by
 obtain ⟨d, hd⟩ : ∃ d, Tryz.f29.body = some d := ⟨_, rfl⟩
 refine pure_of mix Tryz.func29 hd ent29 ?_
 cases hd
 unfold F_right at h
 refine w_start (by dsimp only [abeginS, Tryz.f29, List.length_cons, List.length_nil, Nat.zero_add, Nat.reduceAdd, Nat.reduceSub, List.replicate, List.cons_append, List.nil_append]) (by dsimp only [St.empty]) ?_
 refine w_seq (w_region ?_)
 refine w_om (a := .ptr 0 0) (σ'' := ⟨[(41, (Enc.cells (e : En)))], [], [], 0, false⟩) ?_
 refine w_o (a := .raw (.bool false)) ?_
 refine w_seq ?_
 refine w_seq (w_region ?_)
 refine w_o (a := .ptr 0 0) ?_
 refine w_o (a := .raw (.int .u8 e.k)) ?_
 refine w_block ?_
 refine w_seq (w_region ?_)
 refine w_o (a := .raw (.bool (e.k == 1))) ?_
 refine w_o (a := .raw (.bool (e.k == 1))) ?_
 refine bif_e h (fun hc1 h => ?_) (fun hc1 h => ?_)
 refine w_condT hc1 rfl ?_
 refine w_seq (w_region ?_)
 refine w_o (a := .agg (Enc.cells (e : En))) ?_
 refine w_o (a := .ptr 0 3) ?_
 refine w_o (a := .raw (.string (bs e.b))) ?_
 refine w_o (a := .agg (Enc.cells ((En.mk 1 0 0 e.b) : En))) ?_
 refine w_run (.raw (.bool (decide (e = (En.mk 1 0 0 e.b))))) rfl rfl rfl (rs_eqEn e (En.mk 1 0 0 e.b) rfl rfl rfl) (by dsimp only [aput, List.set]) ?_
 refine bif_e h (fun hc2 h => ?_) (fun hc2 h => ?_)
 refine w_o (a := .raw (.bool true)) (h := op_q (q_bool rfl hc2)) ?_
 refine w_met rfl rfl ?_
 refine w_o (a := .ptr 0 3) ?_
 refine w_met rfl rfl ?_
 refine w_o (a := .raw (.string (bs e.b))) ?_
 refine w_met rfl rfl ?_
 refine w_o (a := .raw (.int .i64 (List.length e.b : Int))) (h := op_q (q_lenS rfl rfl rfl)) ?_
 refine w_met rfl rfl ?_
 refine w_o (a := .raw (.bool (decide ((List.length e.b : Int) ≤ 512)))) ?_
 refine w_o (a := .raw (.bool (decide ((List.length e.b : Int) ≤ 512)))) ?_
 refine w_o (a := .raw (.bool (decide ((List.length e.b : Int) ≤ 512)))) ?_
 exact end_pureF (fun (r : Bool) => (.raw (.bool r) : AV)) h (a := .raw (.bool (decide ((List.length e.b : Int) ≤ 512)))) rfl rfl rfl
 refine w_o (a := .raw (.bool false)) (h := op_q (q_bool rfl hc2)) ?_
 refine w_po ?_
 refine w_po ?_
 refine w_po ?_
 refine w_po ?_
 refine w_o (a := .raw (.bool false)) ?_
 refine w_o (a := .raw (.bool false)) ?_
 exact end_pureF (fun (r : Bool) => (.raw (.bool r) : AV)) h (a := .raw (.bool false)) rfl rfl rfl
 refine w_condF hc1 rfl ?_
 refine w_cutF h [0, 3, 4, 5, 6, 7, 8, 9, 10, 11, 12, 13, 14, 15, 16, 17, 18, 19, 20, 21, 22, 23, 24, 25, 26, 27, 28, 29, 30, 31, 32, 33, 34, 35, 36, 37, 38, 39, 40, 41, 42, 43, 44, 45, 46, 47, 48, 49, 50, 51, 52] (fun j1 => [(20, .raw (.bool j1))]) (fun j1 => ⟨[(41, (Enc.cells (e : En)))], [], [], 0, false⟩) ?_ ?_
 intro or1 h hr1
 refine w_seq (w_region ?_)
 refine w_o (a := .raw (.bool (e.k == 2))) ?_
 refine w_o (a := .raw (.bool (e.k == 2))) ?_
 refine bif_e h (fun hc3 h => ?_) (fun hc3 h => ?_)
 refine w_condT hc3 rfl ?_
 refine cut_done (o := or1) ((e.k == 2)) h ?_
 exact wm_of (bl 53 1048582) (by kernel_rfl) (by kernel_rfl)
 refine w_condF hc3 rfl ?_
 refine w_region (k0 := 0) (id := 5) ?_
 refine w_o (a := .raw (.bool (e.k == 3))) ?_
 refine w_o (a := .raw (.bool (e.k == 3))) ?_
 refine cut_done (o := or1) ((e.k == 3)) h ?_
 exact wm_of (bl 53 1048582) (by kernel_rfl) (by kernel_rfl)
 intro j1 h
 refine w_start (by dsimp only [setAll, topAll, List.foldl, List.set]) rfl ?_
 refine bif_e h (fun hc4 h => ?_) (fun hc4 h => ?_)
 refine w_condT hc4 rfl ?_
 refine w_seq (w_region ?_)
 refine w_o (a := .agg (Enc.cells (e : En))) ?_
 refine w_o (a := .ptr 0 0) ?_
 refine w_o (a := .raw (.int .u8 e.k)) ?_
 refine w_o (a := .raw (.int .i64 a)) ?_
 refine w_o (a := .ptr 0 2) ?_
 refine w_o (a := .raw (.int .i64 e.to)) ?_
 refine w_o (a := .agg (Enc.cells ((En.mk e.k a e.to []) : En))) ?_
 refine w_run (.raw (.bool (decide (e = (En.mk e.k a e.to []))))) rfl rfl rfl (rs_eqEn e (En.mk e.k a e.to []) rfl rfl rfl) (by dsimp only [aput, List.set]) ?_
 refine bif_e h (fun hc5 h => ?_) (fun hc5 h => ?_)
 refine w_o (a := .raw (.bool true)) (h := op_q (q_bool rfl hc5)) ?_
 refine w_met rfl rfl ?_
 refine w_o (a := .ptr 0 2) ?_
 refine w_met rfl rfl ?_
 refine w_o (a := .raw (.int .i64 e.to)) ?_
 refine w_met rfl rfl ?_
 refine w_o (a := .raw (.int .i64 a)) ?_
 refine w_met rfl rfl ?_
 refine w_o (a := .raw (.bool (decide (e.to ≥ a)))) ?_
 refine w_o (a := .raw (.bool (decide (e.to ≥ a)))) ?_
 refine bif_e h (fun hc6 h => ?_) (fun hc6 h => ?_)
 refine w_o (a := .raw (.bool true)) (h := op_q (q_bool rfl hc6)) ?_
 refine w_met rfl rfl ?_
 refine w_o (a := .ptr 0 2) ?_
 refine w_met rfl rfl ?_
 refine w_o (a := .raw (.int .i64 e.to)) ?_
 refine w_met rfl rfl ?_
 refine w_o (a := .raw (.bool (decide (e.to ≤ 1073741824)))) ?_
 refine w_o (a := .raw (.bool (decide (e.to ≤ 1073741824)))) ?_
 refine bif_e h (fun hc7 h => ?_) (fun hc7 h => ?_)
 refine w_o (a := .raw (.bool true)) (h := op_q (q_bool rfl hc7)) ?_
 refine w_met rfl rfl ?_
 refine w_o (a := .ptr 0 0) ?_
 refine w_met rfl rfl ?_
 refine w_o (a := .raw (.int .u8 e.k)) ?_
 refine w_met rfl rfl ?_
 refine w_o (a := .raw (.bool (e.k == 2))) ?_
 refine w_met rfl rfl ?_
 refine bif_e h (fun hc8 h => ?_) (fun hc8 h => ?_)
 refine w_o (a := .raw (.bool true)) (h := op_q (q_bool rfl hc8)) ?_
 refine w_po ?_
 refine w_po ?_
 refine w_po ?_
 refine w_po ?_
 refine w_met rfl rfl ?_
 refine w_o (a := .raw (.bool true)) ?_
 refine w_o (a := .raw (.bool true)) ?_
 refine w_o (a := .raw (.bool true)) ?_
 exact end_pureF (fun (r : Bool) => (.raw (.bool r) : AV)) h (a := .raw (.bool true)) rfl rfl rfl
 refine w_o (a := .raw (.bool false)) (h := op_q (q_bool rfl hc8)) ?_
 refine w_met rfl rfl ?_
 refine w_o (a := .ptr 0 2) ?_
 refine w_met rfl rfl ?_
 refine w_o (a := .raw (.int .i64 e.to)) ?_
 refine w_met rfl rfl ?_
 refine w_o (a := .raw (.int .i64 a)) ?_
 refine w_met rfl rfl ?_
 refine w_o (a := .raw (.bool (decide (e.to > a)))) ?_
 refine w_met rfl rfl ?_
 refine w_o (a := .raw (.bool (decide (e.to > a)))) ?_
 refine w_o (a := .raw (.bool (decide (e.to > a)))) ?_
 refine w_o (a := .raw (.bool (decide (e.to > a)))) ?_
 exact end_pureF (fun (r : Bool) => (.raw (.bool r) : AV)) h (a := .raw (.bool (decide (e.to > a)))) rfl rfl rfl
 refine w_o (a := .raw (.bool false)) (h := op_q (q_bool rfl hc7)) ?_
 refine w_po ?_
 refine w_po ?_
 refine w_po ?_
 refine w_po ?_
 refine w_po ?_
 refine w_po ?_
 refine w_po ?_
 refine w_po ?_
 refine w_po ?_
 refine w_o (a := .raw (.bool false)) ?_
 refine w_o (a := .raw (.bool false)) ?_
 exact end_pureF (fun (r : Bool) => (.raw (.bool r) : AV)) h (a := .raw (.bool false)) rfl rfl rfl
 refine w_o (a := .raw (.bool false)) (h := op_q (q_bool rfl hc6)) ?_
 refine w_po ?_
 refine w_po ?_
 refine w_po ?_
 refine w_o (a := .raw (.bool false)) ?_
 refine w_o (a := .raw (.bool false)) ?_
 refine w_po ?_
 refine w_po ?_
 refine w_po ?_
 refine w_po ?_
 refine w_po ?_
 refine w_po ?_
 refine w_po ?_
 refine w_po ?_
 refine w_po ?_
 refine w_o (a := .raw (.bool false)) ?_
 refine w_o (a := .raw (.bool false)) ?_
 exact end_pureF (fun (r : Bool) => (.raw (.bool r) : AV)) h (a := .raw (.bool false)) rfl rfl rfl
 refine w_o (a := .raw (.bool false)) (h := op_q (q_bool rfl hc5)) ?_
 refine w_po ?_
 refine w_po ?_
 refine w_po ?_
 refine w_po ?_
 refine w_o (a := .raw (.bool false)) ?_
 refine w_o (a := .raw (.bool false)) ?_
 refine w_po ?_
 refine w_po ?_
 refine w_po ?_
 refine w_o (a := .raw (.bool false)) ?_
 refine w_o (a := .raw (.bool false)) ?_
 refine w_po ?_
 refine w_po ?_
 refine w_po ?_
 refine w_po ?_
 refine w_po ?_
 refine w_po ?_
 refine w_po ?_
 refine w_po ?_
 refine w_po ?_
 refine w_o (a := .raw (.bool false)) ?_
 refine w_o (a := .raw (.bool false)) ?_
 exact end_pureF (fun (r : Bool) => (.raw (.bool r) : AV)) h (a := .raw (.bool false)) rfl rfl rfl
 refine w_condF hc4 rfl ?_
 refine w_seq (w_region ?_)
 refine w_o (a := .raw (.bool false)) ?_
 exact end_pureF (fun (r : Bool) => (.raw (.bool r) : AV)) h (a := .raw (.bool false)) rfl rfl rfl
def F_ended (e : Ed) : Option Bool :=
  (bif (e.k == 2) then (bif (decide (e.c ≥ 0)) then (some (decide (e.c ≤ 255))) else (some false)) else (chk (0 ≤ e.k ∧ e.k < 256) (letE (nameE e.k) (fun x1 => (bif (!(x1 == ([] : List UInt8))) then (some (e.c == 0)) else (some false))))))
theorem ent43 : Ent Tryz.prog 43 := enters_of Tryz.func43 (by kernel_rfl) rfl
set_option maxRecDepth 100000 in
set_option maxHeartbeats 4000000 in
theorem ended_sh (e : Ed) (r : Bool) (h : F_ended e = some r) : Pure (ITP Tryz.prog) Tryz.prog 43 [.agg (Enc.cells (e : Ed))] (.raw (.bool r)) := by
 obtain ⟨d, hd⟩ : ∃ d, Tryz.f43.body = some d := ⟨_, rfl⟩
 refine pure_of mix Tryz.func43 hd ent43 ?_
 cases hd
 unfold F_ended at h
 refine w_start (by dsimp only [abeginS, Tryz.f43, List.length_cons, List.length_nil, Nat.zero_add, Nat.reduceAdd, Nat.reduceSub, List.replicate, List.cons_append, List.nil_append]) (by dsimp only [St.empty]) ?_
 refine w_seq (w_region ?_)
 refine w_om (a := .ptr 0 0) (σ'' := ⟨[(25, (Enc.cells (e : Ed)))], [], [], 0, false⟩) ?_
 refine w_o (a := .raw (.bool false)) ?_
 refine w_seq ?_
 refine w_seq (w_region ?_)
 refine w_o (a := .ptr 0 0) ?_
 refine w_o (a := .raw (.int .u8 e.k)) ?_
 refine w_o (a := .raw (.bool (e.k == 2))) ?_
 refine bif_e h (fun hc1 h => ?_) (fun hc1 h => ?_)
 refine w_condT hc1 rfl ?_
 refine w_seq (w_region ?_)
 refine w_o (a := .ptr 0 1) ?_
 refine w_o (a := .raw (.int .i64 e.c)) ?_
 refine w_o (a := .raw (.bool (decide (e.c ≥ 0)))) ?_
 refine bif_e h (fun hc2 h => ?_) (fun hc2 h => ?_)
 refine w_o (a := .raw (.bool true)) (h := op_q (q_bool rfl hc2)) ?_
 refine w_met rfl rfl ?_
 refine w_o (a := .ptr 0 1) ?_
 refine w_met rfl rfl ?_
 refine w_o (a := .raw (.int .i64 e.c)) ?_
 refine w_met rfl rfl ?_
 refine w_o (a := .raw (.bool (decide (e.c ≤ 255)))) ?_
 refine w_o (a := .raw (.bool (decide (e.c ≤ 255)))) ?_
 refine w_o (a := .raw (.bool (decide (e.c ≤ 255)))) ?_
 exact end_pureF (fun (r : Bool) => (.raw (.bool r) : AV)) h (a := .raw (.bool (decide (e.c ≤ 255)))) rfl rfl rfl
 refine w_o (a := .raw (.bool false)) (h := op_q (q_bool rfl hc2)) ?_
 refine w_po ?_
 refine w_po ?_
 refine w_po ?_
 refine w_o (a := .raw (.bool false)) ?_
 refine w_o (a := .raw (.bool false)) ?_
 exact end_pureF (fun (r : Bool) => (.raw (.bool r) : AV)) h (a := .raw (.bool false)) rfl rfl rfl
 refine w_condF hc1 rfl ?_
 refine w_seq (w_region ?_)
 refine w_o (a := .ptr 0 0) ?_
 refine w_o (a := .raw (.int .u8 e.k)) ?_
 obtain ⟨g1, h⟩ := chk_e h
 obtain ⟨x1, hx1, h⟩ := letE_e h
 refine w_callc (args' := [.raw (.int .u8 e.k)]) (r := .raw (.string (bs x1))) (by rw [← hx1]; exact (name_pure e.k g1)) rfl rfl (stripL_cons rfl rfl) (by kernel_rfl) (by dsimp only [aput, List.set]) ?_
 refine w_o (a := .raw (.bool (!(x1 == ([] : List UInt8))))) (h := op_q (q_strne rfl rfl rfl)) ?_
 refine bif_e h (fun hc3 h => ?_) (fun hc3 h => ?_)
 refine w_o (a := .raw (.bool true)) (h := op_q (q_bool rfl hc3)) ?_
 refine w_met rfl rfl ?_
 refine w_o (a := .ptr 0 1) ?_
 refine w_met rfl rfl ?_
 refine w_o (a := .raw (.int .i64 e.c)) ?_
 refine w_met rfl rfl ?_
 refine w_o (a := .raw (.bool (e.c == 0))) ?_
 refine w_o (a := .raw (.bool (e.c == 0))) ?_
 refine w_o (a := .raw (.bool (e.c == 0))) ?_
 exact end_pureF (fun (r : Bool) => (.raw (.bool r) : AV)) h (a := .raw (.bool (e.c == 0))) rfl rfl rfl
 refine w_o (a := .raw (.bool false)) (h := op_q (q_bool rfl hc3)) ?_
 refine w_po ?_
 refine w_po ?_
 refine w_po ?_
 refine w_o (a := .raw (.bool false)) ?_
 refine w_o (a := .raw (.bool false)) ?_
 exact end_pureF (fun (r : Bool) => (.raw (.bool r) : AV)) h (a := .raw (.bool false)) rfl rfl rfl
end Go.Ab

