/-
  trace: Check, Taken, Lost, At.
-/
import Derived.Test.YtcdmdnadilafhaaDoorZtQs
import Derived.Test.YtcdmdnadilafhaaDoorZtNm
set_option linter.unusedSimpArgs false
set_option linter.unusedVariables false
namespace Go.Ab
open Go Go.RowKit Go.Fwd Go.Proofs
def F_right (e : En) (a : Int) : Option Bool :=
  (bif (e.k == 1) then (bif (decide (e = (En.mk 1 0 0 e.b))) then (some (decide ((List.length e.b : Int) ≤ 512))) else (some false)) else (cutE (τ := Bool) (bif (e.k == 2) then (some (Sum.inl ((e.k == 2)))) else (some (Sum.inl ((e.k == 3))))) (fun j1 => (bif j1 then (bif (decide (e = (En.mk e.k a e.to []))) then (bif (decide (e.to ≥ a)) then (bif (decide (e.to ≤ 1073741824)) then (bif (e.k == 2) then (some true) else (some (decide (e.to > a)))) else (some false)) else (some false)) else (some false)) else (some false)))))
theorem ent40 : Ent Tryd.prog 40 := enters_of Tryd.func40 (by kernel_rfl) rfl
set_option maxRecDepth 100000 in
set_option maxHeartbeats 4000000 in
theorem right_sh (e : En) (a : Int) (r : Bool) (h : F_right e a = some r) : Pure (ITP Tryd.prog) Tryd.prog 40 [.agg (Enc.cells (e : En)), .raw (.int .i64 a)] (.raw (.bool r)) := by
 obtain ⟨d, hd⟩ : ∃ d, Tryd.f40.body = some d := ⟨_, rfl⟩
 refine pure_of mix Tryd.func40 hd ent40 ?_
 cases hd
 unfold F_right at h
 refine w_start (by dsimp only [abeginS, Tryd.f40, List.length_cons, List.length_nil, Nat.zero_add, Nat.reduceAdd, Nat.reduceSub, List.replicate, List.cons_append, List.nil_append]) (by dsimp only [St.empty]) ?_
 refine w_seq (w_region ?_)
 refine w_opm (a := .ptr 0 0) (σ'' := ⟨[(43, (Enc.cells (e : En)))], [], [], 0, false⟩) rfl rfl rfl rfl (by dsimp only [aput, List.set]) rfl ?_
 refine w_op (a := .raw (.bool false)) rfl rfl rfl rfl (by dsimp only [aput, List.set]) ?_
 refine w_seq ?_
 refine w_seq (w_region ?_)
 refine w_op (a := .ptr 0 0) rfl rfl rfl rfl (by dsimp only [aput, List.set]) ?_
 refine w_op (a := .raw (.int .u8 e.k)) rfl rfl rfl rfl (by dsimp only [aput, List.set]) ?_
 refine w_block ?_
 refine w_seq (w_region ?_)
 refine w_op (a := .raw (.bool (e.k == 1))) rfl rfl rfl rfl (by dsimp only [aput, List.set]) ?_
 refine w_op (a := .raw (.bool (e.k == 1))) rfl rfl rfl rfl (by dsimp only [aput, List.set]) ?_
 refine bif_e h (fun hc1 h => ?_) (fun hc1 h => ?_)
 ·
  refine w_condT hc1 rfl ?_
  refine w_seq (w_region ?_)
  refine w_op (a := .agg (Enc.cells (e : En))) rfl rfl rfl rfl (by dsimp only [aput, List.set]) ?_
  refine w_op (a := .ptr 0 3) rfl rfl rfl rfl (by dsimp only [aput, List.set]) ?_
  refine w_op (a := .raw (.string (bs e.b))) rfl rfl rfl rfl (by dsimp only [aput, List.set]) ?_
  refine w_op (a := .agg (Enc.cells ((En.mk 1 0 0 e.b) : En))) rfl rfl rfl rfl (by dsimp only [aput, List.set]) ?_
  refine w_run (.raw (.bool (decide (e = (En.mk 1 0 0 e.b))))) rfl rfl rfl (rs_eqEn e (En.mk 1 0 0 e.b) rfl rfl rfl) (by dsimp only [aput, List.set]) ?_
  refine bif_e h (fun hc2 h => ?_) (fun hc2 h => ?_)
  ·
   refine w_op (a := .raw (.bool true)) rfl rfl rfl (op_q (q_bool rfl hc2)) (by dsimp only [aput, List.set]) ?_
   refine w_met rfl rfl ?_
   refine w_op (a := .ptr 0 3) rfl rfl rfl rfl (by dsimp only [aput, List.set]) ?_
   refine w_met rfl rfl ?_
   refine w_op (a := .raw (.string (bs e.b))) rfl rfl rfl rfl (by dsimp only [aput, List.set]) ?_
   refine w_met rfl rfl ?_
   refine w_op (a := .raw (.int .i64 (List.length e.b : Int))) rfl rfl rfl (op_q (q_lenS rfl rfl rfl)) (by dsimp only [aput, List.set]) ?_
   refine w_met rfl rfl ?_
   refine w_op (a := .raw (.bool (decide ((List.length e.b : Int) ≤ 512)))) rfl rfl rfl rfl (by dsimp only [aput, List.set]) ?_
   refine w_op (a := .raw (.bool (decide ((List.length e.b : Int) ≤ 512)))) rfl rfl rfl rfl (by dsimp only [aput, List.set]) ?_
   refine w_op (a := .raw (.bool (decide ((List.length e.b : Int) ≤ 512)))) rfl rfl rfl rfl (by dsimp only [aput, List.set]) ?_
   exact end_pureF (fun (r : Bool) => (.raw (.bool r) : AV)) h (a := .raw (.bool (decide ((List.length e.b : Int) ≤ 512)))) rfl rfl rfl
  ·
   refine w_op (a := .raw (.bool false)) rfl rfl rfl (op_q (q_bool rfl hc2)) (by dsimp only [aput, List.set]) ?_
   refine w_pass rfl rfl (by decide) (by dsimp only [aput, List.set]) ?_
   refine w_pass rfl rfl (by decide) (by dsimp only [aput, List.set]) ?_
   refine w_pass rfl rfl (by decide) (by dsimp only [aput, List.set]) ?_
   refine w_pass rfl rfl (by decide) (by dsimp only [aput, List.set]) ?_
   refine w_op (a := .raw (.bool false)) rfl rfl rfl rfl (by dsimp only [aput, List.set]) ?_
   refine w_op (a := .raw (.bool false)) rfl rfl rfl rfl (by dsimp only [aput, List.set]) ?_
   exact end_pureF (fun (r : Bool) => (.raw (.bool r) : AV)) h (a := .raw (.bool false)) rfl rfl rfl
 ·
  refine w_condF hc1 rfl ?_
  refine w_cutF h [0, 3, 4, 5, 6, 7, 8, 9, 10, 11, 12, 13, 14, 15, 16, 17, 18, 19, 20, 21, 22, 23, 24, 25, 26, 27, 28, 29, 30, 31, 32, 33, 34, 35, 36, 37, 38, 39, 40, 41, 42, 43, 44, 45, 46, 47, 48, 49, 50, 51, 52] (fun j1 => [(20, .raw (.bool j1))]) (fun j1 => ⟨[(43, (Enc.cells (e : En)))], [], [], 0, false⟩) ?_ ?_
  ·
   intro or1 h hr1
   refine w_seq (w_region ?_)
   refine w_op (a := .raw (.bool (e.k == 2))) rfl rfl rfl rfl (by dsimp only [aput, List.set]) ?_
   refine w_op (a := .raw (.bool (e.k == 2))) rfl rfl rfl rfl (by dsimp only [aput, List.set]) ?_
   refine bif_e h (fun hc3 h => ?_) (fun hc3 h => ?_)
   ·
    refine w_condT hc3 rfl ?_
    refine cut_done (o := or1) ((e.k == 2)) h ?_
    exact wm_of [false, true, true, false, false, false, false, false, false, false, false, false, false, false, false, false, false, false, false, false, true, false, false, false, false, false, false, false, false, false, false, false, false, false, false, false, false, false, false, false, false, false, false, false, false, false, false, false, false, false, false, false, false] (by kernel_rfl) (by kernel_rfl)
   ·
    refine w_condF hc3 rfl ?_
    refine w_region (k0 := 0) (id := 5) ?_
    refine w_op (a := .raw (.bool (e.k == 3))) rfl rfl rfl rfl (by dsimp only [aput, List.set]) ?_
    refine w_op (a := .raw (.bool (e.k == 3))) rfl rfl rfl rfl (by dsimp only [aput, List.set]) ?_
    refine cut_done (o := or1) ((e.k == 3)) h ?_
    exact wm_of [false, true, true, false, false, false, false, false, false, false, false, false, false, false, false, false, false, false, false, false, true, false, false, false, false, false, false, false, false, false, false, false, false, false, false, false, false, false, false, false, false, false, false, false, false, false, false, false, false, false, false, false, false] (by kernel_rfl) (by kernel_rfl)
  ·
   intro j1 h
   refine w_start (by dsimp only [setAll, topAll, List.foldl, List.set]) rfl ?_
   refine bif_e h (fun hc4 h => ?_) (fun hc4 h => ?_)
   ·
    refine w_condT hc4 rfl ?_
    refine w_seq (w_region ?_)
    refine w_op (a := .agg (Enc.cells (e : En))) rfl rfl rfl rfl (by dsimp only [aput, List.set]) ?_
    refine w_op (a := .ptr 0 0) rfl rfl rfl rfl (by dsimp only [aput, List.set]) ?_
    refine w_op (a := .raw (.int .u8 e.k)) rfl rfl rfl rfl (by dsimp only [aput, List.set]) ?_
    refine w_op (a := .raw (.int .i64 a)) rfl rfl rfl rfl (by dsimp only [aput, List.set]) ?_
    refine w_op (a := .ptr 0 2) rfl rfl rfl rfl (by dsimp only [aput, List.set]) ?_
    refine w_op (a := .raw (.int .i64 e.to)) rfl rfl rfl rfl (by dsimp only [aput, List.set]) ?_
    refine w_op (a := .agg (Enc.cells ((En.mk e.k a e.to []) : En))) rfl rfl rfl rfl (by dsimp only [aput, List.set]) ?_
    refine w_run (.raw (.bool (decide (e = (En.mk e.k a e.to []))))) rfl rfl rfl (rs_eqEn e (En.mk e.k a e.to []) rfl rfl rfl) (by dsimp only [aput, List.set]) ?_
    refine bif_e h (fun hc5 h => ?_) (fun hc5 h => ?_)
    ·
     refine w_op (a := .raw (.bool true)) rfl rfl rfl (op_q (q_bool rfl hc5)) (by dsimp only [aput, List.set]) ?_
     refine w_met rfl rfl ?_
     refine w_op (a := .ptr 0 2) rfl rfl rfl rfl (by dsimp only [aput, List.set]) ?_
     refine w_met rfl rfl ?_
     refine w_op (a := .raw (.int .i64 e.to)) rfl rfl rfl rfl (by dsimp only [aput, List.set]) ?_
     refine w_met rfl rfl ?_
     refine w_op (a := .raw (.int .i64 a)) rfl rfl rfl rfl (by dsimp only [aput, List.set]) ?_
     refine w_met rfl rfl ?_
     refine w_op (a := .raw (.bool (decide (e.to ≥ a)))) rfl rfl rfl rfl (by dsimp only [aput, List.set]) ?_
     refine w_op (a := .raw (.bool (decide (e.to ≥ a)))) rfl rfl rfl rfl (by dsimp only [aput, List.set]) ?_
     refine bif_e h (fun hc6 h => ?_) (fun hc6 h => ?_)
     ·
      refine w_op (a := .raw (.bool true)) rfl rfl rfl (op_q (q_bool rfl hc6)) (by dsimp only [aput, List.set]) ?_
      refine w_met rfl rfl ?_
      refine w_op (a := .ptr 0 2) rfl rfl rfl rfl (by dsimp only [aput, List.set]) ?_
      refine w_met rfl rfl ?_
      refine w_op (a := .raw (.int .i64 e.to)) rfl rfl rfl rfl (by dsimp only [aput, List.set]) ?_
      refine w_met rfl rfl ?_
      refine w_op (a := .raw (.bool (decide (e.to ≤ 1073741824)))) rfl rfl rfl rfl (by dsimp only [aput, List.set]) ?_
      refine w_op (a := .raw (.bool (decide (e.to ≤ 1073741824)))) rfl rfl rfl rfl (by dsimp only [aput, List.set]) ?_
      refine bif_e h (fun hc7 h => ?_) (fun hc7 h => ?_)
      ·
       refine w_op (a := .raw (.bool true)) rfl rfl rfl (op_q (q_bool rfl hc7)) (by dsimp only [aput, List.set]) ?_
       refine w_met rfl rfl ?_
       refine w_op (a := .ptr 0 0) rfl rfl rfl rfl (by dsimp only [aput, List.set]) ?_
       refine w_met rfl rfl ?_
       refine w_op (a := .raw (.int .u8 e.k)) rfl rfl rfl rfl (by dsimp only [aput, List.set]) ?_
       refine w_met rfl rfl ?_
       refine w_op (a := .raw (.bool (e.k == 2))) rfl rfl rfl rfl (by dsimp only [aput, List.set]) ?_
       refine w_met rfl rfl ?_
       refine bif_e h (fun hc8 h => ?_) (fun hc8 h => ?_)
       ·
        refine w_op (a := .raw (.bool true)) rfl rfl rfl (op_q (q_bool rfl hc8)) (by dsimp only [aput, List.set]) ?_
        refine w_pass rfl rfl (by decide) (by dsimp only [aput, List.set]) ?_
        refine w_pass rfl rfl (by decide) (by dsimp only [aput, List.set]) ?_
        refine w_pass rfl rfl (by decide) (by dsimp only [aput, List.set]) ?_
        refine w_pass rfl rfl (by decide) (by dsimp only [aput, List.set]) ?_
        refine w_met rfl rfl ?_
        refine w_op (a := .raw (.bool true)) rfl rfl rfl rfl (by dsimp only [aput, List.set]) ?_
        refine w_op (a := .raw (.bool true)) rfl rfl rfl rfl (by dsimp only [aput, List.set]) ?_
        refine w_op (a := .raw (.bool true)) rfl rfl rfl rfl (by dsimp only [aput, List.set]) ?_
        exact end_pureF (fun (r : Bool) => (.raw (.bool r) : AV)) h (a := .raw (.bool true)) rfl rfl rfl
       ·
        refine w_op (a := .raw (.bool false)) rfl rfl rfl (op_q (q_bool rfl hc8)) (by dsimp only [aput, List.set]) ?_
        refine w_met rfl rfl ?_
        refine w_op (a := .ptr 0 2) rfl rfl rfl rfl (by dsimp only [aput, List.set]) ?_
        refine w_met rfl rfl ?_
        refine w_op (a := .raw (.int .i64 e.to)) rfl rfl rfl rfl (by dsimp only [aput, List.set]) ?_
        refine w_met rfl rfl ?_
        refine w_op (a := .raw (.int .i64 a)) rfl rfl rfl rfl (by dsimp only [aput, List.set]) ?_
        refine w_met rfl rfl ?_
        refine w_op (a := .raw (.bool (decide (e.to > a)))) rfl rfl rfl rfl (by dsimp only [aput, List.set]) ?_
        refine w_met rfl rfl ?_
        refine w_op (a := .raw (.bool (decide (e.to > a)))) rfl rfl rfl rfl (by dsimp only [aput, List.set]) ?_
        refine w_op (a := .raw (.bool (decide (e.to > a)))) rfl rfl rfl rfl (by dsimp only [aput, List.set]) ?_
        refine w_op (a := .raw (.bool (decide (e.to > a)))) rfl rfl rfl rfl (by dsimp only [aput, List.set]) ?_
        exact end_pureF (fun (r : Bool) => (.raw (.bool r) : AV)) h (a := .raw (.bool (decide (e.to > a)))) rfl rfl rfl
      ·
       refine w_op (a := .raw (.bool false)) rfl rfl rfl (op_q (q_bool rfl hc7)) (by dsimp only [aput, List.set]) ?_
       refine w_pass rfl rfl (by decide) (by dsimp only [aput, List.set]) ?_
       refine w_pass rfl rfl (by decide) (by dsimp only [aput, List.set]) ?_
       refine w_pass rfl rfl (by decide) (by dsimp only [aput, List.set]) ?_
       refine w_pass rfl rfl (by decide) (by dsimp only [aput, List.set]) ?_
       refine w_pass rfl rfl (by decide) (by dsimp only [aput, List.set]) ?_
       refine w_pass rfl rfl (by decide) (by dsimp only [aput, List.set]) ?_
       refine w_pass rfl rfl (by decide) (by dsimp only [aput, List.set]) ?_
       refine w_pass rfl rfl (by decide) (by dsimp only [aput, List.set]) ?_
       refine w_pass rfl rfl (by decide) (by dsimp only [aput, List.set]) ?_
       refine w_op (a := .raw (.bool false)) rfl rfl rfl rfl (by dsimp only [aput, List.set]) ?_
       refine w_op (a := .raw (.bool false)) rfl rfl rfl rfl (by dsimp only [aput, List.set]) ?_
       exact end_pureF (fun (r : Bool) => (.raw (.bool r) : AV)) h (a := .raw (.bool false)) rfl rfl rfl
     ·
      refine w_op (a := .raw (.bool false)) rfl rfl rfl (op_q (q_bool rfl hc6)) (by dsimp only [aput, List.set]) ?_
      refine w_pass rfl rfl (by decide) (by dsimp only [aput, List.set]) ?_
      refine w_pass rfl rfl (by decide) (by dsimp only [aput, List.set]) ?_
      refine w_pass rfl rfl (by decide) (by dsimp only [aput, List.set]) ?_
      refine w_op (a := .raw (.bool false)) rfl rfl rfl rfl (by dsimp only [aput, List.set]) ?_
      refine w_op (a := .raw (.bool false)) rfl rfl rfl rfl (by dsimp only [aput, List.set]) ?_
      refine w_pass rfl rfl (by decide) (by dsimp only [aput, List.set]) ?_
      refine w_pass rfl rfl (by decide) (by dsimp only [aput, List.set]) ?_
      refine w_pass rfl rfl (by decide) (by dsimp only [aput, List.set]) ?_
      refine w_pass rfl rfl (by decide) (by dsimp only [aput, List.set]) ?_
      refine w_pass rfl rfl (by decide) (by dsimp only [aput, List.set]) ?_
      refine w_pass rfl rfl (by decide) (by dsimp only [aput, List.set]) ?_
      refine w_pass rfl rfl (by decide) (by dsimp only [aput, List.set]) ?_
      refine w_pass rfl rfl (by decide) (by dsimp only [aput, List.set]) ?_
      refine w_pass rfl rfl (by decide) (by dsimp only [aput, List.set]) ?_
      refine w_op (a := .raw (.bool false)) rfl rfl rfl rfl (by dsimp only [aput, List.set]) ?_
      refine w_op (a := .raw (.bool false)) rfl rfl rfl rfl (by dsimp only [aput, List.set]) ?_
      exact end_pureF (fun (r : Bool) => (.raw (.bool r) : AV)) h (a := .raw (.bool false)) rfl rfl rfl
    ·
     refine w_op (a := .raw (.bool false)) rfl rfl rfl (op_q (q_bool rfl hc5)) (by dsimp only [aput, List.set]) ?_
     refine w_pass rfl rfl (by decide) (by dsimp only [aput, List.set]) ?_
     refine w_pass rfl rfl (by decide) (by dsimp only [aput, List.set]) ?_
     refine w_pass rfl rfl (by decide) (by dsimp only [aput, List.set]) ?_
     refine w_pass rfl rfl (by decide) (by dsimp only [aput, List.set]) ?_
     refine w_op (a := .raw (.bool false)) rfl rfl rfl rfl (by dsimp only [aput, List.set]) ?_
     refine w_op (a := .raw (.bool false)) rfl rfl rfl rfl (by dsimp only [aput, List.set]) ?_
     refine w_pass rfl rfl (by decide) (by dsimp only [aput, List.set]) ?_
     refine w_pass rfl rfl (by decide) (by dsimp only [aput, List.set]) ?_
     refine w_pass rfl rfl (by decide) (by dsimp only [aput, List.set]) ?_
     refine w_op (a := .raw (.bool false)) rfl rfl rfl rfl (by dsimp only [aput, List.set]) ?_
     refine w_op (a := .raw (.bool false)) rfl rfl rfl rfl (by dsimp only [aput, List.set]) ?_
     refine w_pass rfl rfl (by decide) (by dsimp only [aput, List.set]) ?_
     refine w_pass rfl rfl (by decide) (by dsimp only [aput, List.set]) ?_
     refine w_pass rfl rfl (by decide) (by dsimp only [aput, List.set]) ?_
     refine w_pass rfl rfl (by decide) (by dsimp only [aput, List.set]) ?_
     refine w_pass rfl rfl (by decide) (by dsimp only [aput, List.set]) ?_
     refine w_pass rfl rfl (by decide) (by dsimp only [aput, List.set]) ?_
     refine w_pass rfl rfl (by decide) (by dsimp only [aput, List.set]) ?_
     refine w_pass rfl rfl (by decide) (by dsimp only [aput, List.set]) ?_
     refine w_pass rfl rfl (by decide) (by dsimp only [aput, List.set]) ?_
     refine w_op (a := .raw (.bool false)) rfl rfl rfl rfl (by dsimp only [aput, List.set]) ?_
     refine w_op (a := .raw (.bool false)) rfl rfl rfl rfl (by dsimp only [aput, List.set]) ?_
     exact end_pureF (fun (r : Bool) => (.raw (.bool r) : AV)) h (a := .raw (.bool false)) rfl rfl rfl
   ·
    refine w_condF hc4 rfl ?_
    refine w_seq (w_region ?_)
    refine w_op (a := .raw (.bool false)) rfl rfl rfl rfl (by dsimp only [aput, List.set]) ?_
    exact end_pureF (fun (r : Bool) => (.raw (.bool r) : AV)) h (a := .raw (.bool false)) rfl rfl rfl
def F_ended (e : Ed) : Option Bool :=
  (bif (e.k == 2) then (bif (decide (e.c ≥ 0)) then (some (decide (e.c ≤ 255))) else (some false)) else (chk (0 ≤ e.k ∧ e.k < 256) (letE (nameE e.k) (fun x1 => (bif (!(x1 == ([] : List UInt8))) then (some (e.c == 0)) else (some false))))))
theorem ent44 : Ent Tryd.prog 44 := enters_of Tryd.func44 (by kernel_rfl) rfl
set_option maxRecDepth 100000 in
set_option maxHeartbeats 4000000 in
theorem ended_sh (e : Ed) (r : Bool) (h : F_ended e = some r) : Pure (ITP Tryd.prog) Tryd.prog 44 [.agg (Enc.cells (e : Ed))] (.raw (.bool r)) := by
 obtain ⟨d, hd⟩ : ∃ d, Tryd.f44.body = some d := ⟨_, rfl⟩
 refine pure_of mix Tryd.func44 hd ent44 ?_
 cases hd
 unfold F_ended at h
 refine w_start (by dsimp only [abeginS, Tryd.f44, List.length_cons, List.length_nil, Nat.zero_add, Nat.reduceAdd, Nat.reduceSub, List.replicate, List.cons_append, List.nil_append]) (by dsimp only [St.empty]) ?_
 refine w_seq (w_region ?_)
 refine w_opm (a := .ptr 0 0) (σ'' := ⟨[(24, (Enc.cells (e : Ed)))], [], [], 0, false⟩) rfl rfl rfl rfl (by dsimp only [aput, List.set]) rfl ?_
 refine w_op (a := .raw (.bool false)) rfl rfl rfl rfl (by dsimp only [aput, List.set]) ?_
 refine w_seq ?_
 refine w_seq (w_region ?_)
 refine w_op (a := .ptr 0 0) rfl rfl rfl rfl (by dsimp only [aput, List.set]) ?_
 refine w_op (a := .raw (.int .u8 e.k)) rfl rfl rfl rfl (by dsimp only [aput, List.set]) ?_
 refine w_op (a := .raw (.bool (e.k == 2))) rfl rfl rfl rfl (by dsimp only [aput, List.set]) ?_
 refine bif_e h (fun hc1 h => ?_) (fun hc1 h => ?_)
 ·
  refine w_condT hc1 rfl ?_
  refine w_seq (w_region ?_)
  refine w_op (a := .ptr 0 1) rfl rfl rfl rfl (by dsimp only [aput, List.set]) ?_
  refine w_op (a := .raw (.int .i64 e.c)) rfl rfl rfl rfl (by dsimp only [aput, List.set]) ?_
  refine w_op (a := .raw (.bool (decide (e.c ≥ 0)))) rfl rfl rfl rfl (by dsimp only [aput, List.set]) ?_
  refine bif_e h (fun hc2 h => ?_) (fun hc2 h => ?_)
  ·
   refine w_op (a := .raw (.bool true)) rfl rfl rfl (op_q (q_bool rfl hc2)) (by dsimp only [aput, List.set]) ?_
   refine w_met rfl rfl ?_
   refine w_op (a := .ptr 0 1) rfl rfl rfl rfl (by dsimp only [aput, List.set]) ?_
   refine w_met rfl rfl ?_
   refine w_op (a := .raw (.int .i64 e.c)) rfl rfl rfl rfl (by dsimp only [aput, List.set]) ?_
   refine w_met rfl rfl ?_
   refine w_op (a := .raw (.bool (decide (e.c ≤ 255)))) rfl rfl rfl rfl (by dsimp only [aput, List.set]) ?_
   refine w_op (a := .raw (.bool (decide (e.c ≤ 255)))) rfl rfl rfl rfl (by dsimp only [aput, List.set]) ?_
   refine w_op (a := .raw (.bool (decide (e.c ≤ 255)))) rfl rfl rfl rfl (by dsimp only [aput, List.set]) ?_
   exact end_pureF (fun (r : Bool) => (.raw (.bool r) : AV)) h (a := .raw (.bool (decide (e.c ≤ 255)))) rfl rfl rfl
  ·
   refine w_op (a := .raw (.bool false)) rfl rfl rfl (op_q (q_bool rfl hc2)) (by dsimp only [aput, List.set]) ?_
   refine w_pass rfl rfl (by decide) (by dsimp only [aput, List.set]) ?_
   refine w_pass rfl rfl (by decide) (by dsimp only [aput, List.set]) ?_
   refine w_pass rfl rfl (by decide) (by dsimp only [aput, List.set]) ?_
   refine w_op (a := .raw (.bool false)) rfl rfl rfl rfl (by dsimp only [aput, List.set]) ?_
   refine w_op (a := .raw (.bool false)) rfl rfl rfl rfl (by dsimp only [aput, List.set]) ?_
   exact end_pureF (fun (r : Bool) => (.raw (.bool r) : AV)) h (a := .raw (.bool false)) rfl rfl rfl
 ·
  refine w_condF hc1 rfl ?_
  refine w_seq (w_region ?_)
  refine w_op (a := .ptr 0 0) rfl rfl rfl rfl (by dsimp only [aput, List.set]) ?_
  refine w_op (a := .raw (.int .u8 e.k)) rfl rfl rfl rfl (by dsimp only [aput, List.set]) ?_
  obtain ⟨g1, h⟩ := chk_e h
  obtain ⟨x1, hx1, h⟩ := letE_e h
  refine w_callc (args' := [.raw (.int .u8 e.k)]) (r := .raw (.string (bs x1))) (by rw [← hx1]; exact (name_pure e.k g1)) rfl rfl (stripL_cons rfl rfl) (okTrimL_cons rfl rfl) (by dsimp only [aput, List.set]) ?_
  refine w_op (a := .raw (.bool (!(x1 == ([] : List UInt8))))) rfl rfl rfl (op_q (q_strne rfl rfl rfl)) (by dsimp only [aput, List.set]) ?_
  refine bif_e h (fun hc3 h => ?_) (fun hc3 h => ?_)
  ·
   refine w_op (a := .raw (.bool true)) rfl rfl rfl (op_q (q_bool rfl hc3)) (by dsimp only [aput, List.set]) ?_
   refine w_met rfl rfl ?_
   refine w_op (a := .ptr 0 1) rfl rfl rfl rfl (by dsimp only [aput, List.set]) ?_
   refine w_met rfl rfl ?_
   refine w_op (a := .raw (.int .i64 e.c)) rfl rfl rfl rfl (by dsimp only [aput, List.set]) ?_
   refine w_met rfl rfl ?_
   refine w_op (a := .raw (.bool (e.c == 0))) rfl rfl rfl rfl (by dsimp only [aput, List.set]) ?_
   refine w_op (a := .raw (.bool (e.c == 0))) rfl rfl rfl rfl (by dsimp only [aput, List.set]) ?_
   refine w_op (a := .raw (.bool (e.c == 0))) rfl rfl rfl rfl (by dsimp only [aput, List.set]) ?_
   exact end_pureF (fun (r : Bool) => (.raw (.bool r) : AV)) h (a := .raw (.bool (e.c == 0))) rfl rfl rfl
  ·
   refine w_op (a := .raw (.bool false)) rfl rfl rfl (op_q (q_bool rfl hc3)) (by dsimp only [aput, List.set]) ?_
   refine w_pass rfl rfl (by decide) (by dsimp only [aput, List.set]) ?_
   refine w_pass rfl rfl (by decide) (by dsimp only [aput, List.set]) ?_
   refine w_pass rfl rfl (by decide) (by dsimp only [aput, List.set]) ?_
   refine w_op (a := .raw (.bool false)) rfl rfl rfl rfl (by dsimp only [aput, List.set]) ?_
   refine w_op (a := .raw (.bool false)) rfl rfl rfl rfl (by dsimp only [aput, List.set]) ?_
   exact end_pureF (fun (r : Bool) => (.raw (.bool r) : AV)) h (a := .raw (.bool false)) rfl rfl rfl
def F_check (fuel : Nat) (t : Trc) : Option (Int × Int) :=
  (bif (decide ((List.length t.l : Int) > 65536)) then (some ((-1), 5)) else (cutE (τ := Unit) (loopE (β := Int × Int) (fun s1 => (bif (decide (s1.2 < (List.length t.l : Int))) then (chk (0 ≤ s1.2 ∧ s1.2 < (List.length t.l : Int)) (letE (ix t.l s1.2) (fun x1 => (bindE (F_right x1 s1.1) (fun x2 => (bif (!x2) then (some (Sum.inr (Sum.inr (s1.2, 330)))) else (chk (-9223372036854775808 ≤ (s1.2 + 1) ∧ (s1.2 + 1) < 9223372036854775808) (some (Sum.inl ((max s1.1 x1.to), (s1.2 + 1))))))))))) else (some (Sum.inr (Sum.inl ()))))) fuel (0, 0)) (fun j1 => (bindE (F_ended t.e) (fun x3 => (bif (!x3) then (some ((-1), 331)) else (some ((-1), 0))))))))
theorem ent21 : Ent Tryd.prog 21 := enters_of Tryd.func21 (by kernel_rfl) rfl
set_option maxRecDepth 100000 in
set_option maxHeartbeats 4000000 in
theorem check_sh (fuel : Nat) (t : Trc) (r : (Int × Int)) (h : F_check fuel t = some r) : Pure (ITP Tryd.prog) Tryd.prog 21 [.agg (Enc.cells (t : Trc))] (.tup [.raw (.int .i64 r.1), .raw (.int .i64 r.2)]) := by
 obtain ⟨d, hd⟩ : ∃ d, Tryd.f21.body = some d := ⟨_, rfl⟩
 refine pure_of mix Tryd.func21 hd ent21 ?_
 cases hd
 unfold F_check at h
 refine w_start (by dsimp only [abeginS, Tryd.f21, List.length_cons, List.length_nil, Nat.zero_add, Nat.reduceAdd, Nat.reduceSub, List.replicate, List.cons_append, List.nil_append]) (by dsimp only [St.empty]) ?_
 refine w_seq (w_region ?_)
 refine w_opm (a := .ptr 0 0) (σ'' := ⟨[(26, (Enc.cells (t : Trc)))], [], [], 0, false⟩) rfl rfl rfl rfl (by dsimp only [aput, List.set]) rfl ?_
 refine w_op (a := .raw (.int .i64 0)) rfl rfl rfl rfl (by dsimp only [aput, List.set]) ?_
 refine w_op (a := .raw (.int .i64 0)) rfl rfl rfl rfl (by dsimp only [aput, List.set]) ?_
 refine w_seq ?_
 refine w_seq (w_region ?_)
 refine w_op (a := .ptr 0 0) rfl rfl rfl rfl (by dsimp only [aput, List.set]) ?_
 refine w_op (a := .list (List.length (t.l : List En)) (Enc.cellsL (t.l : List En)) .none) rfl rfl rfl rfl (by dsimp only [aput, List.set]) ?_
 refine w_op (a := .raw (.int .i64 (List.length t.l : Int))) rfl rfl rfl rfl (by dsimp only [aput, List.set]) ?_
 refine w_op (a := .raw (.bool (decide ((List.length t.l : Int) > 65536)))) rfl rfl rfl rfl (by dsimp only [aput, List.set]) ?_
 refine bif_e h (fun hc1 h => ?_) (fun hc1 h => ?_)
 ·
  refine w_condT hc1 rfl ?_
  refine w_seq (w_region ?_)
  refine w_op (a := .raw (.int .i64 (-1))) rfl rfl rfl rfl (by dsimp only [aput, List.set]) ?_
  refine w_op (a := .raw (.int .i64 5)) rfl rfl rfl rfl (by dsimp only [aput, List.set]) ?_
  exact end_pureF (fun (r : (Int × Int)) => (.tup [.raw (.int .i64 r.1), .raw (.int .i64 r.2)] : AV)) h (a := .tup [.raw (.int .i64 (-1)), .raw (.int .i64 5)]) rfl (show okTrimL _ _ = true from (okTrimL_cons rfl (okTrimL_cons rfl rfl))) (show AV.tup (stripL _) = _ from congrArg AV.tup (stripL_cons rfl (stripL_cons rfl rfl)))
 ·
  refine w_condF hc1 rfl ?_
  refine w_seq (w_region ?_)
  refine w_op (a := .raw (.int .i64 0)) rfl rfl rfl rfl (by dsimp only [aput, List.set]) ?_
  refine w_cutF h [0, 2, 3, 4, 5, 6, 7, 8, 9, 10, 11, 12, 13, 14, 15, 16, 17, 18, 19, 20, 21, 22, 23, 24, 25, 26, 27, 28, 29, 30, 31, 32] (fun j1 => []) (fun j1 => ⟨[(26, (Enc.cells (t : Trc)))], [], [], 0, false⟩) ?_ ?_
  ·
   intro or1 h hr1
   refine w_seq (w_region ?_)
   refine w_op (a := .ptr 0 0) rfl rfl rfl rfl (by dsimp only [aput, List.set]) ?_
   refine w_op (a := .list (List.length (t.l : List En)) (Enc.cellsL (t.l : List En)) .none) rfl rfl rfl rfl (by dsimp only [aput, List.set]) ?_
   refine w_op (a := .raw (.int .i64 (List.length t.l : Int))) rfl rfl rfl rfl (by dsimp only [aput, List.set]) ?_
   refine w_op (a := .raw (.int .i64 0)) rfl rfl rfl rfl (by dsimp only [aput, List.set]) ?_
   refine w_block ?_
   refine w_loopF h [0, 2, 3, 4, 5, 6, 7, 8, 9, 10, 11, 14, 15, 16, 17, 18, 19, 20, 21, 22, 23, 24, 25, 26, 27, 28, 29, 30, 31, 32] (fun s1 => [(4, .raw (.int .i64 s1.1)), (14, .raw (.int .i64 s1.2))]) (fun s1 => ⟨[(26, (Enc.cells (t : Trc)))], [], [], 0, false⟩) ?_ ?_
   ·
    exact wm_of [false, true, false, false, true, false, false, false, false, false, false, false, true, true, true, false, false, false, false, false, false, false, false, false, false, false, false, false, false, false, false, false, false] (by kernel_rfl) (by kernel_rfl)
   ·
    intro s1 p1 h
    refine w_start (by dsimp only [setAll, topAll, List.foldl, List.set]) rfl ?_
    refine w_seq (w_region ?_)
    refine w_op (a := .raw (.bool (decide (s1.2 < (List.length t.l : Int))))) rfl rfl rfl rfl (by dsimp only [aput, List.set]) ?_
    refine w_seq ?_
    refine bif_e h (fun hc2 h => ?_) (fun hc2 h => ?_)
    ·
     refine w_condT hc2 rfl ?_
     refine w_seq ?_
     refine w_block ?_
     refine w_seq (w_region ?_)
     refine w_op (a := .raw (.int .i64 s1.2)) rfl rfl rfl rfl (by dsimp only [aput, List.set]) ?_
     obtain ⟨g1, h⟩ := chk_e h
     obtain ⟨x1, hx1, h⟩ := letE_e h
     refine w_op (a := .iptr (Enc.cells x1 ++ Enc.cellsL (List.drop (Int.toNat s1.2 + 1) t.l))) rfl rfl rfl (op_q (by rw [← hx1]; exact (q_idx (α := En) (l := t.l) g1 rfl rfl rfl rfl rfl))) (by dsimp only [aput, List.set]) ?_
     refine w_op (a := .agg (Enc.cells (x1 : En))) rfl rfl rfl rfl (by dsimp only [aput, List.set]) ?_
     refine w_opm (a := .ptr 1 0) (σ'' := ⟨[(26, (Enc.cells (t : Trc))), (43, (Enc.cells ((En.mk 0 0 0 []) : En)))], [], [], 0, false⟩) rfl rfl rfl rfl (by dsimp only [aput, List.set]) rfl ?_
     refine w_op (a := .raw (.int .i64 s1.2)) rfl rfl rfl rfl (by dsimp only [aput, List.set]) ?_
     refine w_opm (σ'' := ⟨[(26, (Enc.cells (t : Trc))), (43, (Enc.cells (x1 : En)))], [], [], 0, false⟩) rfl rfl rfl (op_storeW (n := 4) rfl rfl rfl rfl rfl rfl rfl rfl (by decide)) (by dsimp only [aput, List.set]) rfl ?_
     refine w_seq ?_
     refine w_seq (w_region ?_)
     refine w_op (a := .agg (Enc.cells (x1 : En))) rfl rfl rfl rfl (by dsimp only [aput, List.set]) ?_
     refine w_op (a := .raw (.int .i64 s1.1)) rfl rfl rfl rfl (by dsimp only [aput, List.set]) ?_
     obtain ⟨x2, hx2, h⟩ := bindE_e h
     refine w_callc (args' := [.agg (Enc.cells (x1 : En)), .raw (.int .i64 s1.1)]) (r := .raw (.bool x2)) (right_sh x1 s1.1 x2 hx2) rfl rfl (stripL_cons (strip_c (clo_agg (Enc.clo _))) (stripL_cons rfl rfl)) (okTrimL_cons (okTrim_clo _ _ (clo_agg (Enc.clo _))) (okTrimL_cons rfl rfl)) (by dsimp only [aput, List.set]) ?_
     refine w_op (a := .raw (.bool (!x2))) rfl rfl rfl rfl (by dsimp only [aput, List.set]) ?_
     refine bif_e h (fun hc3 h => ?_) (fun hc3 h => ?_)
     ·
      refine w_condT hc3 rfl ?_
      refine w_seq (w_region ?_)
      refine w_op (a := .raw (.int .i64 s1.2)) rfl rfl rfl rfl (by dsimp only [aput, List.set]) ?_
      refine w_op (a := .raw (.int .i64 s1.2)) rfl rfl rfl rfl (by dsimp only [aput, List.set]) ?_
      refine w_op (a := .raw (.int .i64 330)) rfl rfl rfl rfl (by dsimp only [aput, List.set]) ?_
      refine loop_exit h (fun h => ?_)
      replace h := cut_inr h hr1
      exact end_pureF (fun (r : (Int × Int)) => (.tup [.raw (.int .i64 r.1), .raw (.int .i64 r.2)] : AV)) h (a := .tup [.raw (.int .i64 s1.2), .raw (.int .i64 330)]) rfl (show okTrimL _ _ = true from (okTrimL_cons rfl (okTrimL_cons rfl rfl))) (show AV.tup (stripL _) = _ from congrArg AV.tup (stripL_cons rfl (stripL_cons rfl rfl)))
     ·
      refine w_condF hc3 rfl ?_
      refine w_region (k0 := 0) (id := 9) ?_
      refine w_op (a := .raw (.int .i64 s1.1)) rfl rfl rfl rfl (by dsimp only [aput, List.set]) ?_
      refine w_op (a := .ptr 1 2) rfl rfl rfl rfl (by dsimp only [aput, List.set]) ?_
      refine w_op (a := .raw (.int .i64 x1.to)) rfl rfl rfl rfl (by dsimp only [aput, List.set]) ?_
      refine w_op (a := .raw (.int .i64 (max s1.1 x1.to))) rfl rfl rfl (op_q (q_max rfl rfl rfl rfl rfl)) (by dsimp only [aput, List.set]) ?_
      refine w_op (a := .raw (.int .i64 (max s1.1 x1.to))) rfl rfl rfl rfl (by dsimp only [aput, List.set]) ?_
      refine w_region (k0 := 0) (id := 10) ?_
      obtain ⟨g2, h⟩ := chk_e h
      refine w_op (a := .raw (.int .i64 (s1.2 + 1))) rfl rfl rfl (op_q (q_add rfl rfl rfl rfl g2.1 g2.2)) (by dsimp only [aput, List.set]) ?_
      refine w_op (a := .raw (.int .i64 (s1.2 + 1))) rfl rfl rfl rfl (by dsimp only [aput, List.set]) ?_
      refine loop_next (p := p1) ((max s1.1 x1.to), (s1.2 + 1)) h ?_
      exact wm_trim [false, true, false, false, true, false, false, false, false, false, false, false, true, true, true, false, false, false, false, false, false, false, false, false, false, false, false, false, false, false, false, false, false] 1 (by kernel_rfl) (Nat.le_of_ble_eq_true rfl) (okSt_of (okB_cons (okTrimL_clo _ _ (Enc.clo _)) rfl)) (by dsimp only [setAll, topAll, List.foldl, List.set]; exact (okTrimL_cons rfl (okTrimL_cons (by decide) (okTrimL_cons rfl (okTrimL_cons rfl (okTrimL_cons rfl (okTrimL_cons rfl (okTrimL_cons rfl (okTrimL_cons rfl (okTrimL_cons rfl (okTrimL_cons rfl (okTrimL_cons rfl (okTrimL_cons rfl (okTrimL_cons (okTrim_l (Enc.cloL _)) (okTrimL_cons rfl (okTrimL_cons rfl (okTrimL_cons rfl (okTrimL_cons rfl (okTrimL_cons rfl (okTrimL_cons rfl (okTrimL_cons rfl (okTrimL_cons rfl (okTrimL_cons rfl (okTrimL_cons rfl (okTrimL_cons rfl (okTrimL_cons rfl (okTrimL_cons rfl (okTrimL_cons rfl (okTrimL_cons rfl (okTrimL_cons rfl (okTrimL_cons rfl (okTrimL_cons rfl (okTrimL_cons rfl (okTrimL_cons rfl rfl)))))))))))))))))))))))))))))))))) (by kernel_rfl)
    ·
     refine w_condF hc2 rfl ?_
     refine loop_exit h (fun h => ?_)
     refine cut_done (o := or1) () h ?_
     exact wm_of [false, true, false, false, false, false, false, false, false, false, false, false, false, false, false, false, false, false, false, false, false, false, false, false, false, false, false, false, false, false, false, false, false] (by kernel_rfl) (by kernel_rfl)
  ·
   intro j1 h
   refine w_start (by dsimp only [setAll, topAll, List.foldl, List.set]) rfl ?_
   refine w_seq ?_
   refine w_seq (w_region ?_)
   refine w_op (a := .ptr 0 1) rfl rfl rfl rfl (by dsimp only [aput, List.set]) ?_
   refine w_op (a := .agg (Enc.cells (t.e : Ed))) rfl rfl rfl rfl (by dsimp only [aput, List.set]) ?_
   obtain ⟨x3, hx3, h⟩ := bindE_e h
   refine w_callc (args' := [.agg (Enc.cells (t.e : Ed))]) (r := .raw (.bool x3)) (ended_sh t.e x3 hx3) rfl rfl (stripL_cons (strip_c (clo_agg (Enc.clo _))) rfl) (okTrimL_cons (okTrim_clo _ _ (clo_agg (Enc.clo _))) rfl) (by dsimp only [aput, List.set]) ?_
   refine w_op (a := .raw (.bool (!x3))) rfl rfl rfl rfl (by dsimp only [aput, List.set]) ?_
   refine bif_e h (fun hc4 h => ?_) (fun hc4 h => ?_)
   ·
    refine w_condT hc4 rfl ?_
    refine w_seq (w_region ?_)
    refine w_op (a := .raw (.int .i64 (-1))) rfl rfl rfl rfl (by dsimp only [aput, List.set]) ?_
    refine w_op (a := .raw (.int .i64 331)) rfl rfl rfl rfl (by dsimp only [aput, List.set]) ?_
    exact end_pureF (fun (r : (Int × Int)) => (.tup [.raw (.int .i64 r.1), .raw (.int .i64 r.2)] : AV)) h (a := .tup [.raw (.int .i64 (-1)), .raw (.int .i64 331)]) rfl (show okTrimL _ _ = true from (okTrimL_cons rfl (okTrimL_cons rfl rfl))) (show AV.tup (stripL _) = _ from congrArg AV.tup (stripL_cons rfl (stripL_cons rfl rfl)))
   ·
    refine w_condF hc4 rfl ?_
    refine w_seq (w_region ?_)
    refine w_op (a := .raw (.int .i64 (-1))) rfl rfl rfl rfl (by dsimp only [aput, List.set]) ?_
    refine w_op (a := .raw (.int .i64 0)) rfl rfl rfl rfl (by dsimp only [aput, List.set]) ?_
    exact end_pureF (fun (r : (Int × Int)) => (.tup [.raw (.int .i64 r.1), .raw (.int .i64 r.2)] : AV)) h (a := .tup [.raw (.int .i64 (-1)), .raw (.int .i64 0)]) rfl (show okTrimL _ _ = true from (okTrimL_cons rfl (okTrimL_cons rfl rfl))) (show AV.tup (stripL _) = _ from congrArg AV.tup (stripL_cons rfl (stripL_cons rfl rfl)))
def F_isAt (e : En) : Option Bool :=
  (some true)
theorem ent43 : Ent Tryd.prog 43 := enters_of Tryd.func43 (by kernel_rfl) rfl
set_option maxRecDepth 100000 in
set_option maxHeartbeats 4000000 in
theorem isAt_sh (e : En) (r : Bool) (h : F_isAt e = some r) : Pure (ITP Tryd.prog) Tryd.prog 43 [.agg (Enc.cells (e : En))] (.raw (.bool r)) := by
 obtain ⟨d, hd⟩ : ∃ d, Tryd.f43.body = some d := ⟨_, rfl⟩
 refine pure_of mix Tryd.func43 hd ent43 ?_
 cases hd
 unfold F_isAt at h
 refine w_start (by dsimp only [abeginS, Tryd.f43, List.length_cons, List.length_nil, Nat.zero_add, Nat.reduceAdd, Nat.reduceSub, List.replicate, List.cons_append, List.nil_append]) (by dsimp only [St.empty]) ?_
 refine w_seq (w_region ?_)
 refine w_opm (a := .ptr 0 0) (σ'' := ⟨[(43, (Enc.cells (e : En)))], [], [], 0, false⟩) rfl rfl rfl rfl (by dsimp only [aput, List.set]) rfl ?_
 refine w_op (a := .raw (.bool false)) rfl rfl rfl rfl (by dsimp only [aput, List.set]) ?_
 refine w_seq (w_region ?_)
 refine w_op (a := .raw (.bool true)) rfl rfl rfl rfl (by dsimp only [aput, List.set]) ?_
 exact end_pureF (fun (r : Bool) => (.raw (.bool r) : AV)) h (a := .raw (.bool true)) rfl rfl rfl
def F_isTaken (e : En) : Option Bool :=
  (some (e.k == 2))
theorem ent45 : Ent Tryd.prog 45 := enters_of Tryd.func45 (by kernel_rfl) rfl
set_option maxRecDepth 100000 in
set_option maxHeartbeats 4000000 in
theorem isTaken_sh (e : En) (r : Bool) (h : F_isTaken e = some r) : Pure (ITP Tryd.prog) Tryd.prog 45 [.agg (Enc.cells (e : En))] (.raw (.bool r)) := by
 obtain ⟨d, hd⟩ : ∃ d, Tryd.f45.body = some d := ⟨_, rfl⟩
 refine pure_of mix Tryd.func45 hd ent45 ?_
 cases hd
 unfold F_isTaken at h
 refine w_start (by dsimp only [abeginS, Tryd.f45, List.length_cons, List.length_nil, Nat.zero_add, Nat.reduceAdd, Nat.reduceSub, List.replicate, List.cons_append, List.nil_append]) (by dsimp only [St.empty]) ?_
 refine w_seq (w_region ?_)
 refine w_opm (a := .ptr 0 0) (σ'' := ⟨[(43, (Enc.cells (e : En)))], [], [], 0, false⟩) rfl rfl rfl rfl (by dsimp only [aput, List.set]) rfl ?_
 refine w_op (a := .raw (.bool false)) rfl rfl rfl rfl (by dsimp only [aput, List.set]) ?_
 refine w_seq (w_region ?_)
 refine w_op (a := .ptr 0 0) rfl rfl rfl rfl (by dsimp only [aput, List.set]) ?_
 refine w_op (a := .raw (.int .u8 e.k)) rfl rfl rfl rfl (by dsimp only [aput, List.set]) ?_
 refine w_op (a := .raw (.bool (e.k == 2))) rfl rfl rfl rfl (by dsimp only [aput, List.set]) ?_
 refine w_op (a := .raw (.bool (e.k == 2))) rfl rfl rfl rfl (by dsimp only [aput, List.set]) ?_
 exact end_pureF (fun (r : Bool) => (.raw (.bool r) : AV)) h (a := .raw (.bool (e.k == 2))) rfl rfl rfl
def F_isLost (e : En) : Option Bool :=
  (some (e.k == 3))
theorem ent46 : Ent Tryd.prog 46 := enters_of Tryd.func46 (by kernel_rfl) rfl
set_option maxRecDepth 100000 in
set_option maxHeartbeats 4000000 in
theorem isLost_sh (e : En) (r : Bool) (h : F_isLost e = some r) : Pure (ITP Tryd.prog) Tryd.prog 46 [.agg (Enc.cells (e : En))] (.raw (.bool r)) := by
 obtain ⟨d, hd⟩ : ∃ d, Tryd.f46.body = some d := ⟨_, rfl⟩
 refine pure_of mix Tryd.func46 hd ent46 ?_
 cases hd
 unfold F_isLost at h
 refine w_start (by dsimp only [abeginS, Tryd.f46, List.length_cons, List.length_nil, Nat.zero_add, Nat.reduceAdd, Nat.reduceSub, List.replicate, List.cons_append, List.nil_append]) (by dsimp only [St.empty]) ?_
 refine w_seq (w_region ?_)
 refine w_opm (a := .ptr 0 0) (σ'' := ⟨[(43, (Enc.cells (e : En)))], [], [], 0, false⟩) rfl rfl rfl rfl (by dsimp only [aput, List.set]) rfl ?_
 refine w_op (a := .raw (.bool false)) rfl rfl rfl rfl (by dsimp only [aput, List.set]) ?_
 refine w_seq (w_region ?_)
 refine w_op (a := .ptr 0 0) rfl rfl rfl rfl (by dsimp only [aput, List.set]) ?_
 refine w_op (a := .raw (.int .u8 e.k)) rfl rfl rfl rfl (by dsimp only [aput, List.set]) ?_
 refine w_op (a := .raw (.bool (e.k == 3))) rfl rfl rfl rfl (by dsimp only [aput, List.set]) ?_
 refine w_op (a := .raw (.bool (e.k == 3))) rfl rfl rfl rfl (by dsimp only [aput, List.set]) ?_
 exact end_pureF (fun (r : Bool) => (.raw (.bool r) : AV)) h (a := .raw (.bool (e.k == 3))) rfl rfl rfl
def F_sumAt (fuel : Nat) (t : Trc) : Option Int :=
  (bindE (F_check fuel t) (fun x1 => (bif (x1.2 != 0) then (some 0) else (cutE (τ := Int) (loopE (β := Int × Int) (fun s1 => (bif (decide (s1.2 < (List.length t.l : Int))) then (cutE (τ := Int) (chk (0 ≤ s1.2 ∧ s1.2 < (List.length t.l : Int)) (letE (ix t.l s1.2) (fun x2 => (bindE (F_isAt x2) (fun x3 => (bif x3 then (chk (-9223372036854775808 ≤ (x2.to - x2.fr) ∧ (x2.to - x2.fr) < 9223372036854775808) (chk (-9223372036854775808 ≤ (s1.1 + (x2.to - x2.fr)) ∧ (s1.1 + (x2.to - x2.fr)) < 9223372036854775808) (some (Sum.inl ((s1.1 + (x2.to - x2.fr))))))) else (some (Sum.inl (s1.1))))))))) (fun j2 => (chk (-9223372036854775808 ≤ (s1.2 + 1) ∧ (s1.2 + 1) < 9223372036854775808) (some (Sum.inl (j2, (s1.2 + 1))))))) else (some (Sum.inr (Sum.inl (s1.1)))))) fuel (0, 0)) (fun j1 => (some j1))))))
theorem ent42 : Ent Tryd.prog 42 := enters_of Tryd.func42 (by kernel_rfl) rfl
set_option maxRecDepth 100000 in
set_option maxHeartbeats 4000000 in
theorem sumAt_sh (fuel : Nat) (t : Trc) (r : Int) (h : F_sumAt fuel t = some r) : Pure (ITP Tryd.prog) Tryd.prog 42 [.agg (Enc.cells (t : Trc)), .clos 43 []] (.raw (.int .i64 r)) := by
 obtain ⟨d, hd⟩ : ∃ d, Tryd.f42.body = some d := ⟨_, rfl⟩
 refine pure_of mix Tryd.func42 hd ent42 ?_
 cases hd
 unfold F_sumAt at h
 refine w_start (by dsimp only [abeginS, Tryd.f42, List.length_cons, List.length_nil, Nat.zero_add, Nat.reduceAdd, Nat.reduceSub, List.replicate, List.cons_append, List.nil_append]) (by dsimp only [St.empty]) ?_
 refine w_seq (w_region ?_)
 refine w_opm (a := .ptr 0 0) (σ'' := ⟨[(26, (Enc.cells (t : Trc)))], [], [], 0, false⟩) rfl rfl rfl rfl (by dsimp only [aput, List.set]) rfl ?_
 refine w_op (a := .raw (.int .i64 0)) rfl rfl rfl rfl (by dsimp only [aput, List.set]) ?_
 refine w_seq ?_
 refine w_seq (w_region ?_)
 refine w_op (a := .agg (Enc.cells (t : Trc))) rfl rfl rfl rfl (by dsimp only [aput, List.set]) ?_
 obtain ⟨x1, hx1, h⟩ := bindE_e h
 refine w_callc (args' := [.agg (Enc.cells (t : Trc))]) (r := .tup [.raw (.int .i64 x1.1), .raw (.int .i64 x1.2)]) (check_sh fuel t x1 hx1) rfl rfl (stripL_cons (strip_c (clo_agg (Enc.clo _))) rfl) (okTrimL_cons (okTrim_clo _ _ (clo_agg (Enc.clo _))) rfl) (by dsimp only [aput, List.set]) ?_
 refine w_op (a := .tup [.raw (.int .i64 x1.1), .raw (.int .i64 x1.2)]) rfl rfl rfl rfl (by dsimp only [aput, List.set]) ?_
 refine w_op (a := .raw (.int .i64 x1.1)) rfl rfl rfl rfl (by dsimp only [aput, List.set]) ?_
 refine w_op (a := .raw (.int .i64 x1.2)) rfl rfl rfl rfl (by dsimp only [aput, List.set]) ?_
 refine w_op (a := .raw (.int .i64 x1.1)) rfl rfl rfl rfl (by dsimp only [aput, List.set]) ?_
 refine w_op (a := .raw (.int .i64 x1.2)) rfl rfl rfl rfl (by dsimp only [aput, List.set]) ?_
 refine w_seq (w_region ?_)
 refine w_op (a := .raw (.int .i64 x1.2)) rfl rfl rfl rfl (by dsimp only [aput, List.set]) ?_
 refine w_op (a := .raw (.bool (x1.2 != 0))) rfl rfl rfl rfl (by dsimp only [aput, List.set]) ?_
 refine bif_e h (fun hc1 h => ?_) (fun hc1 h => ?_)
 ·
  refine w_condT hc1 rfl ?_
  refine w_seq (w_region ?_)
  refine w_op (a := .raw (.int .i64 0)) rfl rfl rfl rfl (by dsimp only [aput, List.set]) ?_
  exact end_pureF (fun (r : Int) => (.raw (.int .i64 r) : AV)) h (a := .raw (.int .i64 0)) rfl rfl rfl
 ·
  refine w_condF hc1 rfl ?_
  refine w_seq (w_region ?_)
  refine w_op (a := .raw (.int .i64 0)) rfl rfl rfl rfl (by dsimp only [aput, List.set]) ?_
  refine w_cutF h [0, 1, 2, 3, 4, 5, 6, 7, 8, 9, 10, 11, 12, 13, 14, 15, 16, 17, 18, 19, 20, 21, 22, 23, 24, 25, 26, 27, 28, 29, 30, 31, 32, 33, 34, 35] (fun j1 => [(7, .raw (.int .i64 j1))]) (fun j1 => ⟨[(26, (Enc.cells (t : Trc)))], [], [], 0, false⟩) ?_ ?_
  ·
   intro or1 h hr1
   refine w_seq (w_region ?_)
   refine w_op (a := .ptr 0 0) rfl rfl rfl rfl (by dsimp only [aput, List.set]) ?_
   refine w_op (a := .list (List.length (t.l : List En)) (Enc.cellsL (t.l : List En)) .none) rfl rfl rfl rfl (by dsimp only [aput, List.set]) ?_
   refine w_op (a := .raw (.int .i64 (List.length t.l : Int))) rfl rfl rfl rfl (by dsimp only [aput, List.set]) ?_
   refine w_op (a := .raw (.int .i64 0)) rfl rfl rfl rfl (by dsimp only [aput, List.set]) ?_
   refine w_block ?_
   refine w_loopF h [0, 2, 3, 4, 5, 6, 7, 8, 9, 10, 11, 12, 13, 14, 15, 16, 17, 20, 21, 22, 23, 24, 25, 26, 27, 28, 29, 30, 31, 32, 33, 34, 35] (fun s1 => [(7, .raw (.int .i64 s1.1)), (20, .raw (.int .i64 s1.2))]) (fun s1 => ⟨[(26, (Enc.cells (t : Trc)))], [], [], 0, false⟩) ?_ ?_
   ·
    exact wm_of [false, true, false, false, false, false, false, true, false, false, false, false, false, false, false, false, false, false, true, true, true, false, false, false, false, false, false, false, false, false, false, false, false, false, false, false] (by kernel_rfl) (by kernel_rfl)
   ·
    intro s1 p1 h
    refine w_start (by dsimp only [setAll, topAll, List.foldl, List.set]) rfl ?_
    refine w_seq (w_region ?_)
    refine w_op (a := .raw (.bool (decide (s1.2 < (List.length t.l : Int))))) rfl rfl rfl rfl (by dsimp only [aput, List.set]) ?_
    refine w_seq ?_
    refine bif_e h (fun hc2 h => ?_) (fun hc2 h => ?_)
    ·
     refine w_condT hc2 rfl ?_
     refine w_cutF h [7, 9, 21, 22, 23, 24, 25, 26, 27, 28, 29, 30, 31, 32, 33] (fun j2 => [(7, .raw (.int .i64 j2))]) (fun j2 => ⟨[(26, (Enc.cells (t : Trc)))], [], [], 0, false⟩) ?_ ?_
     ·
      intro or2 h hr2
      refine w_block ?_
      refine w_seq (w_region ?_)
      obtain ⟨g1, h⟩ := chk_e h
      obtain ⟨x2, hx2, h⟩ := letE_e h
      refine w_op (a := .iptr (Enc.cells x2 ++ Enc.cellsL (List.drop (Int.toNat s1.2 + 1) t.l))) rfl rfl rfl (op_q (by rw [← hx2]; exact (q_idx (α := En) (l := t.l) g1 rfl rfl rfl rfl rfl))) (by dsimp only [aput, List.set]) ?_
      refine w_op (a := .agg (Enc.cells (x2 : En))) rfl rfl rfl rfl (by dsimp only [aput, List.set]) ?_
      refine w_opm (a := .ptr 1 0) (σ'' := ⟨[(26, (Enc.cells (t : Trc))), (43, (Enc.cells ((En.mk 0 0 0 []) : En)))], [], [], 0, false⟩) rfl rfl rfl rfl (by dsimp only [aput, List.set]) rfl ?_
      refine w_opm (σ'' := ⟨[(26, (Enc.cells (t : Trc))), (43, (Enc.cells (x2 : En)))], [], [], 0, false⟩) rfl rfl rfl (op_storeW (n := 4) rfl rfl rfl rfl rfl rfl rfl rfl (by decide)) (by dsimp only [aput, List.set]) rfl ?_
      refine w_seq (w_region ?_)
      refine w_op (a := .clos 43 []) rfl rfl rfl rfl (by dsimp only [aput, List.set]) ?_
      refine w_op (a := .agg (Enc.cells (x2 : En))) rfl rfl rfl rfl (by dsimp only [aput, List.set]) ?_
      obtain ⟨x3, hx3, h⟩ := bindE_e h
      refine w_callc (args' := [.agg (Enc.cells (x2 : En))]) (r := .raw (.bool x3)) (isAt_sh x2 x3 hx3) rfl rfl (stripL_cons (strip_c (clo_agg (Enc.clo _))) rfl) (okTrimL_cons (okTrim_clo _ _ (clo_agg (Enc.clo _))) rfl) (by dsimp only [aput, List.set]) ?_
      refine bif_e h (fun hc3 h => ?_) (fun hc3 h => ?_)
      ·
       refine w_condT hc3 rfl ?_
       refine w_region (k0 := 0) (id := 9) ?_
       refine w_op (a := .raw (.int .i64 s1.1)) rfl rfl rfl rfl (by dsimp only [aput, List.set]) ?_
       refine w_op (a := .ptr 1 2) rfl rfl rfl rfl (by dsimp only [aput, List.set]) ?_
       refine w_op (a := .raw (.int .i64 x2.to)) rfl rfl rfl rfl (by dsimp only [aput, List.set]) ?_
       refine w_op (a := .ptr 1 1) rfl rfl rfl rfl (by dsimp only [aput, List.set]) ?_
       refine w_op (a := .raw (.int .i64 x2.fr)) rfl rfl rfl rfl (by dsimp only [aput, List.set]) ?_
       obtain ⟨g2, h⟩ := chk_e h
       refine w_op (a := .raw (.int .i64 (x2.to - x2.fr))) rfl rfl rfl (op_q (q_sub rfl rfl rfl rfl g2.1 g2.2)) (by dsimp only [aput, List.set]) ?_
       obtain ⟨g3, h⟩ := chk_e h
       refine w_op (a := .raw (.int .i64 (s1.1 + (x2.to - x2.fr)))) rfl rfl rfl (op_q (q_add rfl rfl rfl rfl g3.1 g3.2)) (by dsimp only [aput, List.set]) ?_
       refine w_op (a := .raw (.int .i64 (s1.1 + (x2.to - x2.fr)))) rfl rfl rfl rfl (by dsimp only [aput, List.set]) ?_
       refine cut_done (o := or2) ((s1.1 + (x2.to - x2.fr))) h ?_
       exact wm_trim [true, true, true, true, true, true, true, true, true, false, true, true, true, true, true, true, true, true, true, true, true, false, false, false, false, false, false, false, false, false, false, false, false, false, true, true] 1 (by kernel_rfl) (Nat.le_of_ble_eq_true rfl) (okSt_of (okB_cons (okTrimL_clo _ _ (Enc.clo _)) rfl)) (by dsimp only [setAll, topAll, List.foldl, List.set]; exact (okTrimL_cons rfl (okTrimL_cons (show okTrimL _ _ = true from rfl) (okTrimL_cons rfl (okTrimL_cons rfl (okTrimL_cons rfl (okTrimL_cons rfl (okTrimL_cons rfl (okTrimL_cons rfl (okTrimL_cons rfl (okTrimL_cons rfl (okTrimL_cons rfl (okTrimL_cons rfl (okTrimL_cons rfl (okTrimL_cons rfl (okTrimL_cons rfl (okTrimL_cons rfl (okTrimL_cons rfl (okTrimL_cons rfl (okTrimL_cons (okTrim_l (Enc.cloL _)) (okTrimL_cons rfl (okTrimL_cons rfl (okTrimL_cons rfl (okTrimL_cons rfl (okTrimL_cons rfl (okTrimL_cons rfl (okTrimL_cons rfl (okTrimL_cons rfl (okTrimL_cons rfl (okTrimL_cons rfl (okTrimL_cons rfl (okTrimL_cons rfl (okTrimL_cons rfl (okTrimL_cons rfl (okTrimL_cons rfl (okTrimL_cons rfl (okTrimL_cons rfl rfl))))))))))))))))))))))))))))))))))))) (by kernel_rfl)
      ·
       refine w_condF hc3 rfl ?_
       refine cut_done (o := or2) (s1.1) h ?_
       exact wm_trim [true, true, true, true, true, true, true, true, true, false, true, true, true, true, true, true, true, true, true, true, true, false, false, false, false, false, false, false, false, false, false, false, false, false, true, true] 1 (by kernel_rfl) (Nat.le_of_ble_eq_true rfl) (okSt_of (okB_cons (okTrimL_clo _ _ (Enc.clo _)) rfl)) (by dsimp only [setAll, topAll, List.foldl, List.set]; exact (okTrimL_cons rfl (okTrimL_cons (show okTrimL _ _ = true from rfl) (okTrimL_cons rfl (okTrimL_cons rfl (okTrimL_cons rfl (okTrimL_cons rfl (okTrimL_cons rfl (okTrimL_cons rfl (okTrimL_cons rfl (okTrimL_cons rfl (okTrimL_cons rfl (okTrimL_cons rfl (okTrimL_cons rfl (okTrimL_cons rfl (okTrimL_cons rfl (okTrimL_cons rfl (okTrimL_cons rfl (okTrimL_cons rfl (okTrimL_cons (okTrim_l (Enc.cloL _)) (okTrimL_cons rfl (okTrimL_cons rfl (okTrimL_cons rfl (okTrimL_cons rfl (okTrimL_cons rfl (okTrimL_cons rfl (okTrimL_cons rfl (okTrimL_cons rfl (okTrimL_cons rfl (okTrimL_cons rfl (okTrimL_cons rfl (okTrimL_cons rfl (okTrimL_cons rfl (okTrimL_cons rfl (okTrimL_cons rfl (okTrimL_cons rfl (okTrimL_cons rfl rfl))))))))))))))))))))))))))))))))))))) (by kernel_rfl)
     ·
      intro j2 h
      refine w_start (by dsimp only [setAll, topAll, List.foldl, List.set]) rfl ?_
      refine w_region (k0 := 0) (id := 10) ?_
      obtain ⟨g4, h⟩ := chk_e h
      refine w_op (a := .raw (.int .i64 (s1.2 + 1))) rfl rfl rfl (op_q (q_add rfl rfl rfl rfl g4.1 g4.2)) (by dsimp only [aput, List.set]) ?_
      refine w_op (a := .raw (.int .i64 (s1.2 + 1))) rfl rfl rfl rfl (by dsimp only [aput, List.set]) ?_
      refine loop_next (p := p1) (j2, (s1.2 + 1)) h ?_
      exact wm_of [false, true, false, false, false, false, false, true, false, false, false, false, false, false, false, false, false, false, true, true, true, false, false, false, false, false, false, false, false, false, false, false, false, false, false, false] (by kernel_rfl) (by kernel_rfl)
    ·
     refine w_condF hc2 rfl ?_
     refine loop_exit h (fun h => ?_)
     refine cut_done (o := or1) (s1.1) h ?_
     exact wm_of [false, false, false, false, false, false, false, true, false, false, false, false, false, false, false, false, false, false, false, false, false, false, false, false, false, false, false, false, false, false, false, false, false, false, false, false] (by kernel_rfl) (by kernel_rfl)
  ·
   intro j1 h
   refine w_start (by dsimp only [setAll, topAll, List.foldl, List.set]) rfl ?_
   refine w_seq (w_region ?_)
   refine w_op (a := .raw (.int .i64 j1)) rfl rfl rfl rfl (by dsimp only [aput, List.set]) ?_
   refine w_op (a := .raw (.int .i64 j1)) rfl rfl rfl rfl (by dsimp only [aput, List.set]) ?_
   exact end_pureF (fun (r : Int) => (.raw (.int .i64 r) : AV)) h (a := .raw (.int .i64 j1)) rfl rfl rfl
def F_sumTaken (fuel : Nat) (t : Trc) : Option Int :=
  (bindE (F_check fuel t) (fun x1 => (bif (x1.2 != 0) then (some 0) else (cutE (τ := Int) (loopE (β := Int × Int) (fun s1 => (bif (decide (s1.2 < (List.length t.l : Int))) then (cutE (τ := Int) (chk (0 ≤ s1.2 ∧ s1.2 < (List.length t.l : Int)) (letE (ix t.l s1.2) (fun x2 => (bindE (F_isTaken x2) (fun x3 => (bif x3 then (chk (-9223372036854775808 ≤ (x2.to - x2.fr) ∧ (x2.to - x2.fr) < 9223372036854775808) (chk (-9223372036854775808 ≤ (s1.1 + (x2.to - x2.fr)) ∧ (s1.1 + (x2.to - x2.fr)) < 9223372036854775808) (some (Sum.inl ((s1.1 + (x2.to - x2.fr))))))) else (some (Sum.inl (s1.1))))))))) (fun j2 => (chk (-9223372036854775808 ≤ (s1.2 + 1) ∧ (s1.2 + 1) < 9223372036854775808) (some (Sum.inl (j2, (s1.2 + 1))))))) else (some (Sum.inr (Sum.inl (s1.1)))))) fuel (0, 0)) (fun j1 => (some j1))))))
set_option maxRecDepth 100000 in
set_option maxHeartbeats 4000000 in
theorem sumTaken_sh (fuel : Nat) (t : Trc) (r : Int) (h : F_sumTaken fuel t = some r) : Pure (ITP Tryd.prog) Tryd.prog 42 [.agg (Enc.cells (t : Trc)), .clos 45 []] (.raw (.int .i64 r)) := by
 obtain ⟨d, hd⟩ : ∃ d, Tryd.f42.body = some d := ⟨_, rfl⟩
 refine pure_of mix Tryd.func42 hd ent42 ?_
 cases hd
 unfold F_sumTaken at h
 refine w_start (by dsimp only [abeginS, Tryd.f42, List.length_cons, List.length_nil, Nat.zero_add, Nat.reduceAdd, Nat.reduceSub, List.replicate, List.cons_append, List.nil_append]) (by dsimp only [St.empty]) ?_
 refine w_seq (w_region ?_)
 refine w_opm (a := .ptr 0 0) (σ'' := ⟨[(26, (Enc.cells (t : Trc)))], [], [], 0, false⟩) rfl rfl rfl rfl (by dsimp only [aput, List.set]) rfl ?_
 refine w_op (a := .raw (.int .i64 0)) rfl rfl rfl rfl (by dsimp only [aput, List.set]) ?_
 refine w_seq ?_
 refine w_seq (w_region ?_)
 refine w_op (a := .agg (Enc.cells (t : Trc))) rfl rfl rfl rfl (by dsimp only [aput, List.set]) ?_
 obtain ⟨x1, hx1, h⟩ := bindE_e h
 refine w_callc (args' := [.agg (Enc.cells (t : Trc))]) (r := .tup [.raw (.int .i64 x1.1), .raw (.int .i64 x1.2)]) (check_sh fuel t x1 hx1) rfl rfl (stripL_cons (strip_c (clo_agg (Enc.clo _))) rfl) (okTrimL_cons (okTrim_clo _ _ (clo_agg (Enc.clo _))) rfl) (by dsimp only [aput, List.set]) ?_
 refine w_op (a := .tup [.raw (.int .i64 x1.1), .raw (.int .i64 x1.2)]) rfl rfl rfl rfl (by dsimp only [aput, List.set]) ?_
 refine w_op (a := .raw (.int .i64 x1.1)) rfl rfl rfl rfl (by dsimp only [aput, List.set]) ?_
 refine w_op (a := .raw (.int .i64 x1.2)) rfl rfl rfl rfl (by dsimp only [aput, List.set]) ?_
 refine w_op (a := .raw (.int .i64 x1.1)) rfl rfl rfl rfl (by dsimp only [aput, List.set]) ?_
 refine w_op (a := .raw (.int .i64 x1.2)) rfl rfl rfl rfl (by dsimp only [aput, List.set]) ?_
 refine w_seq (w_region ?_)
 refine w_op (a := .raw (.int .i64 x1.2)) rfl rfl rfl rfl (by dsimp only [aput, List.set]) ?_
 refine w_op (a := .raw (.bool (x1.2 != 0))) rfl rfl rfl rfl (by dsimp only [aput, List.set]) ?_
 refine bif_e h (fun hc1 h => ?_) (fun hc1 h => ?_)
 ·
  refine w_condT hc1 rfl ?_
  refine w_seq (w_region ?_)
  refine w_op (a := .raw (.int .i64 0)) rfl rfl rfl rfl (by dsimp only [aput, List.set]) ?_
  exact end_pureF (fun (r : Int) => (.raw (.int .i64 r) : AV)) h (a := .raw (.int .i64 0)) rfl rfl rfl
 ·
  refine w_condF hc1 rfl ?_
  refine w_seq (w_region ?_)
  refine w_op (a := .raw (.int .i64 0)) rfl rfl rfl rfl (by dsimp only [aput, List.set]) ?_
  refine w_cutF h [0, 1, 2, 3, 4, 5, 6, 7, 8, 9, 10, 11, 12, 13, 14, 15, 16, 17, 18, 19, 20, 21, 22, 23, 24, 25, 26, 27, 28, 29, 30, 31, 32, 33, 34, 35] (fun j1 => [(7, .raw (.int .i64 j1))]) (fun j1 => ⟨[(26, (Enc.cells (t : Trc)))], [], [], 0, false⟩) ?_ ?_
  ·
   intro or1 h hr1
   refine w_seq (w_region ?_)
   refine w_op (a := .ptr 0 0) rfl rfl rfl rfl (by dsimp only [aput, List.set]) ?_
   refine w_op (a := .list (List.length (t.l : List En)) (Enc.cellsL (t.l : List En)) .none) rfl rfl rfl rfl (by dsimp only [aput, List.set]) ?_
   refine w_op (a := .raw (.int .i64 (List.length t.l : Int))) rfl rfl rfl rfl (by dsimp only [aput, List.set]) ?_
   refine w_op (a := .raw (.int .i64 0)) rfl rfl rfl rfl (by dsimp only [aput, List.set]) ?_
   refine w_block ?_
   refine w_loopF h [0, 2, 3, 4, 5, 6, 7, 8, 9, 10, 11, 12, 13, 14, 15, 16, 17, 20, 21, 22, 23, 24, 25, 26, 27, 28, 29, 30, 31, 32, 33, 34, 35] (fun s1 => [(7, .raw (.int .i64 s1.1)), (20, .raw (.int .i64 s1.2))]) (fun s1 => ⟨[(26, (Enc.cells (t : Trc)))], [], [], 0, false⟩) ?_ ?_
   ·
    exact wm_of [false, true, false, false, false, false, false, true, false, false, false, false, false, false, false, false, false, false, true, true, true, false, false, false, false, false, false, false, false, false, false, false, false, false, false, false] (by kernel_rfl) (by kernel_rfl)
   ·
    intro s1 p1 h
    refine w_start (by dsimp only [setAll, topAll, List.foldl, List.set]) rfl ?_
    refine w_seq (w_region ?_)
    refine w_op (a := .raw (.bool (decide (s1.2 < (List.length t.l : Int))))) rfl rfl rfl rfl (by dsimp only [aput, List.set]) ?_
    refine w_seq ?_
    refine bif_e h (fun hc2 h => ?_) (fun hc2 h => ?_)
    ·
     refine w_condT hc2 rfl ?_
     refine w_cutF h [7, 9, 21, 22, 23, 24, 25, 26, 27, 28, 29, 30, 31, 32, 33] (fun j2 => [(7, .raw (.int .i64 j2))]) (fun j2 => ⟨[(26, (Enc.cells (t : Trc)))], [], [], 0, false⟩) ?_ ?_
     ·
      intro or2 h hr2
      refine w_block ?_
      refine w_seq (w_region ?_)
      obtain ⟨g1, h⟩ := chk_e h
      obtain ⟨x2, hx2, h⟩ := letE_e h
      refine w_op (a := .iptr (Enc.cells x2 ++ Enc.cellsL (List.drop (Int.toNat s1.2 + 1) t.l))) rfl rfl rfl (op_q (by rw [← hx2]; exact (q_idx (α := En) (l := t.l) g1 rfl rfl rfl rfl rfl))) (by dsimp only [aput, List.set]) ?_
      refine w_op (a := .agg (Enc.cells (x2 : En))) rfl rfl rfl rfl (by dsimp only [aput, List.set]) ?_
      refine w_opm (a := .ptr 1 0) (σ'' := ⟨[(26, (Enc.cells (t : Trc))), (43, (Enc.cells ((En.mk 0 0 0 []) : En)))], [], [], 0, false⟩) rfl rfl rfl rfl (by dsimp only [aput, List.set]) rfl ?_
      refine w_opm (σ'' := ⟨[(26, (Enc.cells (t : Trc))), (43, (Enc.cells (x2 : En)))], [], [], 0, false⟩) rfl rfl rfl (op_storeW (n := 4) rfl rfl rfl rfl rfl rfl rfl rfl (by decide)) (by dsimp only [aput, List.set]) rfl ?_
      refine w_seq (w_region ?_)
      refine w_op (a := .clos 45 []) rfl rfl rfl rfl (by dsimp only [aput, List.set]) ?_
      refine w_op (a := .agg (Enc.cells (x2 : En))) rfl rfl rfl rfl (by dsimp only [aput, List.set]) ?_
      obtain ⟨x3, hx3, h⟩ := bindE_e h
      refine w_callc (args' := [.agg (Enc.cells (x2 : En))]) (r := .raw (.bool x3)) (isTaken_sh x2 x3 hx3) rfl rfl (stripL_cons (strip_c (clo_agg (Enc.clo _))) rfl) (okTrimL_cons (okTrim_clo _ _ (clo_agg (Enc.clo _))) rfl) (by dsimp only [aput, List.set]) ?_
      refine bif_e h (fun hc3 h => ?_) (fun hc3 h => ?_)
      ·
       refine w_condT hc3 rfl ?_
       refine w_region (k0 := 0) (id := 9) ?_
       refine w_op (a := .raw (.int .i64 s1.1)) rfl rfl rfl rfl (by dsimp only [aput, List.set]) ?_
       refine w_op (a := .ptr 1 2) rfl rfl rfl rfl (by dsimp only [aput, List.set]) ?_
       refine w_op (a := .raw (.int .i64 x2.to)) rfl rfl rfl rfl (by dsimp only [aput, List.set]) ?_
       refine w_op (a := .ptr 1 1) rfl rfl rfl rfl (by dsimp only [aput, List.set]) ?_
       refine w_op (a := .raw (.int .i64 x2.fr)) rfl rfl rfl rfl (by dsimp only [aput, List.set]) ?_
       obtain ⟨g2, h⟩ := chk_e h
       refine w_op (a := .raw (.int .i64 (x2.to - x2.fr))) rfl rfl rfl (op_q (q_sub rfl rfl rfl rfl g2.1 g2.2)) (by dsimp only [aput, List.set]) ?_
       obtain ⟨g3, h⟩ := chk_e h
       refine w_op (a := .raw (.int .i64 (s1.1 + (x2.to - x2.fr)))) rfl rfl rfl (op_q (q_add rfl rfl rfl rfl g3.1 g3.2)) (by dsimp only [aput, List.set]) ?_
       refine w_op (a := .raw (.int .i64 (s1.1 + (x2.to - x2.fr)))) rfl rfl rfl rfl (by dsimp only [aput, List.set]) ?_
       refine cut_done (o := or2) ((s1.1 + (x2.to - x2.fr))) h ?_
       exact wm_trim [true, true, true, true, true, true, true, true, true, false, true, true, true, true, true, true, true, true, true, true, true, false, false, false, false, false, false, false, false, false, false, false, false, false, true, true] 1 (by kernel_rfl) (Nat.le_of_ble_eq_true rfl) (okSt_of (okB_cons (okTrimL_clo _ _ (Enc.clo _)) rfl)) (by dsimp only [setAll, topAll, List.foldl, List.set]; exact (okTrimL_cons rfl (okTrimL_cons (show okTrimL _ _ = true from rfl) (okTrimL_cons rfl (okTrimL_cons rfl (okTrimL_cons rfl (okTrimL_cons rfl (okTrimL_cons rfl (okTrimL_cons rfl (okTrimL_cons rfl (okTrimL_cons rfl (okTrimL_cons rfl (okTrimL_cons rfl (okTrimL_cons rfl (okTrimL_cons rfl (okTrimL_cons rfl (okTrimL_cons rfl (okTrimL_cons rfl (okTrimL_cons rfl (okTrimL_cons (okTrim_l (Enc.cloL _)) (okTrimL_cons rfl (okTrimL_cons rfl (okTrimL_cons rfl (okTrimL_cons rfl (okTrimL_cons rfl (okTrimL_cons rfl (okTrimL_cons rfl (okTrimL_cons rfl (okTrimL_cons rfl (okTrimL_cons rfl (okTrimL_cons rfl (okTrimL_cons rfl (okTrimL_cons rfl (okTrimL_cons rfl (okTrimL_cons rfl (okTrimL_cons rfl (okTrimL_cons rfl rfl))))))))))))))))))))))))))))))))))))) (by kernel_rfl)
      ·
       refine w_condF hc3 rfl ?_
       refine cut_done (o := or2) (s1.1) h ?_
       exact wm_trim [true, true, true, true, true, true, true, true, true, false, true, true, true, true, true, true, true, true, true, true, true, false, false, false, false, false, false, false, false, false, false, false, false, false, true, true] 1 (by kernel_rfl) (Nat.le_of_ble_eq_true rfl) (okSt_of (okB_cons (okTrimL_clo _ _ (Enc.clo _)) rfl)) (by dsimp only [setAll, topAll, List.foldl, List.set]; exact (okTrimL_cons rfl (okTrimL_cons (show okTrimL _ _ = true from rfl) (okTrimL_cons rfl (okTrimL_cons rfl (okTrimL_cons rfl (okTrimL_cons rfl (okTrimL_cons rfl (okTrimL_cons rfl (okTrimL_cons rfl (okTrimL_cons rfl (okTrimL_cons rfl (okTrimL_cons rfl (okTrimL_cons rfl (okTrimL_cons rfl (okTrimL_cons rfl (okTrimL_cons rfl (okTrimL_cons rfl (okTrimL_cons rfl (okTrimL_cons (okTrim_l (Enc.cloL _)) (okTrimL_cons rfl (okTrimL_cons rfl (okTrimL_cons rfl (okTrimL_cons rfl (okTrimL_cons rfl (okTrimL_cons rfl (okTrimL_cons rfl (okTrimL_cons rfl (okTrimL_cons rfl (okTrimL_cons rfl (okTrimL_cons rfl (okTrimL_cons rfl (okTrimL_cons rfl (okTrimL_cons rfl (okTrimL_cons rfl (okTrimL_cons rfl (okTrimL_cons rfl rfl))))))))))))))))))))))))))))))))))))) (by kernel_rfl)
     ·
      intro j2 h
      refine w_start (by dsimp only [setAll, topAll, List.foldl, List.set]) rfl ?_
      refine w_region (k0 := 0) (id := 10) ?_
      obtain ⟨g4, h⟩ := chk_e h
      refine w_op (a := .raw (.int .i64 (s1.2 + 1))) rfl rfl rfl (op_q (q_add rfl rfl rfl rfl g4.1 g4.2)) (by dsimp only [aput, List.set]) ?_
      refine w_op (a := .raw (.int .i64 (s1.2 + 1))) rfl rfl rfl rfl (by dsimp only [aput, List.set]) ?_
      refine loop_next (p := p1) (j2, (s1.2 + 1)) h ?_
      exact wm_of [false, true, false, false, false, false, false, true, false, false, false, false, false, false, false, false, false, false, true, true, true, false, false, false, false, false, false, false, false, false, false, false, false, false, false, false] (by kernel_rfl) (by kernel_rfl)
    ·
     refine w_condF hc2 rfl ?_
     refine loop_exit h (fun h => ?_)
     refine cut_done (o := or1) (s1.1) h ?_
     exact wm_of [false, false, false, false, false, false, false, true, false, false, false, false, false, false, false, false, false, false, false, false, false, false, false, false, false, false, false, false, false, false, false, false, false, false, false, false] (by kernel_rfl) (by kernel_rfl)
  ·
   intro j1 h
   refine w_start (by dsimp only [setAll, topAll, List.foldl, List.set]) rfl ?_
   refine w_seq (w_region ?_)
   refine w_op (a := .raw (.int .i64 j1)) rfl rfl rfl rfl (by dsimp only [aput, List.set]) ?_
   refine w_op (a := .raw (.int .i64 j1)) rfl rfl rfl rfl (by dsimp only [aput, List.set]) ?_
   exact end_pureF (fun (r : Int) => (.raw (.int .i64 r) : AV)) h (a := .raw (.int .i64 j1)) rfl rfl rfl
def F_sumLost (fuel : Nat) (t : Trc) : Option Int :=
  (bindE (F_check fuel t) (fun x1 => (bif (x1.2 != 0) then (some 0) else (cutE (τ := Int) (loopE (β := Int × Int) (fun s1 => (bif (decide (s1.2 < (List.length t.l : Int))) then (cutE (τ := Int) (chk (0 ≤ s1.2 ∧ s1.2 < (List.length t.l : Int)) (letE (ix t.l s1.2) (fun x2 => (bindE (F_isLost x2) (fun x3 => (bif x3 then (chk (-9223372036854775808 ≤ (x2.to - x2.fr) ∧ (x2.to - x2.fr) < 9223372036854775808) (chk (-9223372036854775808 ≤ (s1.1 + (x2.to - x2.fr)) ∧ (s1.1 + (x2.to - x2.fr)) < 9223372036854775808) (some (Sum.inl ((s1.1 + (x2.to - x2.fr))))))) else (some (Sum.inl (s1.1))))))))) (fun j2 => (chk (-9223372036854775808 ≤ (s1.2 + 1) ∧ (s1.2 + 1) < 9223372036854775808) (some (Sum.inl (j2, (s1.2 + 1))))))) else (some (Sum.inr (Sum.inl (s1.1)))))) fuel (0, 0)) (fun j1 => (some j1))))))
set_option maxRecDepth 100000 in
set_option maxHeartbeats 4000000 in
theorem sumLost_sh (fuel : Nat) (t : Trc) (r : Int) (h : F_sumLost fuel t = some r) : Pure (ITP Tryd.prog) Tryd.prog 42 [.agg (Enc.cells (t : Trc)), .clos 46 []] (.raw (.int .i64 r)) := by
 obtain ⟨d, hd⟩ : ∃ d, Tryd.f42.body = some d := ⟨_, rfl⟩
 refine pure_of mix Tryd.func42 hd ent42 ?_
 cases hd
 unfold F_sumLost at h
 refine w_start (by dsimp only [abeginS, Tryd.f42, List.length_cons, List.length_nil, Nat.zero_add, Nat.reduceAdd, Nat.reduceSub, List.replicate, List.cons_append, List.nil_append]) (by dsimp only [St.empty]) ?_
 refine w_seq (w_region ?_)
 refine w_opm (a := .ptr 0 0) (σ'' := ⟨[(26, (Enc.cells (t : Trc)))], [], [], 0, false⟩) rfl rfl rfl rfl (by dsimp only [aput, List.set]) rfl ?_
 refine w_op (a := .raw (.int .i64 0)) rfl rfl rfl rfl (by dsimp only [aput, List.set]) ?_
 refine w_seq ?_
 refine w_seq (w_region ?_)
 refine w_op (a := .agg (Enc.cells (t : Trc))) rfl rfl rfl rfl (by dsimp only [aput, List.set]) ?_
 obtain ⟨x1, hx1, h⟩ := bindE_e h
 refine w_callc (args' := [.agg (Enc.cells (t : Trc))]) (r := .tup [.raw (.int .i64 x1.1), .raw (.int .i64 x1.2)]) (check_sh fuel t x1 hx1) rfl rfl (stripL_cons (strip_c (clo_agg (Enc.clo _))) rfl) (okTrimL_cons (okTrim_clo _ _ (clo_agg (Enc.clo _))) rfl) (by dsimp only [aput, List.set]) ?_
 refine w_op (a := .tup [.raw (.int .i64 x1.1), .raw (.int .i64 x1.2)]) rfl rfl rfl rfl (by dsimp only [aput, List.set]) ?_
 refine w_op (a := .raw (.int .i64 x1.1)) rfl rfl rfl rfl (by dsimp only [aput, List.set]) ?_
 refine w_op (a := .raw (.int .i64 x1.2)) rfl rfl rfl rfl (by dsimp only [aput, List.set]) ?_
 refine w_op (a := .raw (.int .i64 x1.1)) rfl rfl rfl rfl (by dsimp only [aput, List.set]) ?_
 refine w_op (a := .raw (.int .i64 x1.2)) rfl rfl rfl rfl (by dsimp only [aput, List.set]) ?_
 refine w_seq (w_region ?_)
 refine w_op (a := .raw (.int .i64 x1.2)) rfl rfl rfl rfl (by dsimp only [aput, List.set]) ?_
 refine w_op (a := .raw (.bool (x1.2 != 0))) rfl rfl rfl rfl (by dsimp only [aput, List.set]) ?_
 refine bif_e h (fun hc1 h => ?_) (fun hc1 h => ?_)
 ·
  refine w_condT hc1 rfl ?_
  refine w_seq (w_region ?_)
  refine w_op (a := .raw (.int .i64 0)) rfl rfl rfl rfl (by dsimp only [aput, List.set]) ?_
  exact end_pureF (fun (r : Int) => (.raw (.int .i64 r) : AV)) h (a := .raw (.int .i64 0)) rfl rfl rfl
 ·
  refine w_condF hc1 rfl ?_
  refine w_seq (w_region ?_)
  refine w_op (a := .raw (.int .i64 0)) rfl rfl rfl rfl (by dsimp only [aput, List.set]) ?_
  refine w_cutF h [0, 1, 2, 3, 4, 5, 6, 7, 8, 9, 10, 11, 12, 13, 14, 15, 16, 17, 18, 19, 20, 21, 22, 23, 24, 25, 26, 27, 28, 29, 30, 31, 32, 33, 34, 35] (fun j1 => [(7, .raw (.int .i64 j1))]) (fun j1 => ⟨[(26, (Enc.cells (t : Trc)))], [], [], 0, false⟩) ?_ ?_
  ·
   intro or1 h hr1
   refine w_seq (w_region ?_)
   refine w_op (a := .ptr 0 0) rfl rfl rfl rfl (by dsimp only [aput, List.set]) ?_
   refine w_op (a := .list (List.length (t.l : List En)) (Enc.cellsL (t.l : List En)) .none) rfl rfl rfl rfl (by dsimp only [aput, List.set]) ?_
   refine w_op (a := .raw (.int .i64 (List.length t.l : Int))) rfl rfl rfl rfl (by dsimp only [aput, List.set]) ?_
   refine w_op (a := .raw (.int .i64 0)) rfl rfl rfl rfl (by dsimp only [aput, List.set]) ?_
   refine w_block ?_
   refine w_loopF h [0, 2, 3, 4, 5, 6, 7, 8, 9, 10, 11, 12, 13, 14, 15, 16, 17, 20, 21, 22, 23, 24, 25, 26, 27, 28, 29, 30, 31, 32, 33, 34, 35] (fun s1 => [(7, .raw (.int .i64 s1.1)), (20, .raw (.int .i64 s1.2))]) (fun s1 => ⟨[(26, (Enc.cells (t : Trc)))], [], [], 0, false⟩) ?_ ?_
   ·
    exact wm_of [false, true, false, false, false, false, false, true, false, false, false, false, false, false, false, false, false, false, true, true, true, false, false, false, false, false, false, false, false, false, false, false, false, false, false, false] (by kernel_rfl) (by kernel_rfl)
   ·
    intro s1 p1 h
    refine w_start (by dsimp only [setAll, topAll, List.foldl, List.set]) rfl ?_
    refine w_seq (w_region ?_)
    refine w_op (a := .raw (.bool (decide (s1.2 < (List.length t.l : Int))))) rfl rfl rfl rfl (by dsimp only [aput, List.set]) ?_
    refine w_seq ?_
    refine bif_e h (fun hc2 h => ?_) (fun hc2 h => ?_)
    ·
     refine w_condT hc2 rfl ?_
     refine w_cutF h [7, 9, 21, 22, 23, 24, 25, 26, 27, 28, 29, 30, 31, 32, 33] (fun j2 => [(7, .raw (.int .i64 j2))]) (fun j2 => ⟨[(26, (Enc.cells (t : Trc)))], [], [], 0, false⟩) ?_ ?_
     ·
      intro or2 h hr2
      refine w_block ?_
      refine w_seq (w_region ?_)
      obtain ⟨g1, h⟩ := chk_e h
      obtain ⟨x2, hx2, h⟩ := letE_e h
      refine w_op (a := .iptr (Enc.cells x2 ++ Enc.cellsL (List.drop (Int.toNat s1.2 + 1) t.l))) rfl rfl rfl (op_q (by rw [← hx2]; exact (q_idx (α := En) (l := t.l) g1 rfl rfl rfl rfl rfl))) (by dsimp only [aput, List.set]) ?_
      refine w_op (a := .agg (Enc.cells (x2 : En))) rfl rfl rfl rfl (by dsimp only [aput, List.set]) ?_
      refine w_opm (a := .ptr 1 0) (σ'' := ⟨[(26, (Enc.cells (t : Trc))), (43, (Enc.cells ((En.mk 0 0 0 []) : En)))], [], [], 0, false⟩) rfl rfl rfl rfl (by dsimp only [aput, List.set]) rfl ?_
      refine w_opm (σ'' := ⟨[(26, (Enc.cells (t : Trc))), (43, (Enc.cells (x2 : En)))], [], [], 0, false⟩) rfl rfl rfl (op_storeW (n := 4) rfl rfl rfl rfl rfl rfl rfl rfl (by decide)) (by dsimp only [aput, List.set]) rfl ?_
      refine w_seq (w_region ?_)
      refine w_op (a := .clos 46 []) rfl rfl rfl rfl (by dsimp only [aput, List.set]) ?_
      refine w_op (a := .agg (Enc.cells (x2 : En))) rfl rfl rfl rfl (by dsimp only [aput, List.set]) ?_
      obtain ⟨x3, hx3, h⟩ := bindE_e h
      refine w_callc (args' := [.agg (Enc.cells (x2 : En))]) (r := .raw (.bool x3)) (isLost_sh x2 x3 hx3) rfl rfl (stripL_cons (strip_c (clo_agg (Enc.clo _))) rfl) (okTrimL_cons (okTrim_clo _ _ (clo_agg (Enc.clo _))) rfl) (by dsimp only [aput, List.set]) ?_
      refine bif_e h (fun hc3 h => ?_) (fun hc3 h => ?_)
      ·
       refine w_condT hc3 rfl ?_
       refine w_region (k0 := 0) (id := 9) ?_
       refine w_op (a := .raw (.int .i64 s1.1)) rfl rfl rfl rfl (by dsimp only [aput, List.set]) ?_
       refine w_op (a := .ptr 1 2) rfl rfl rfl rfl (by dsimp only [aput, List.set]) ?_
       refine w_op (a := .raw (.int .i64 x2.to)) rfl rfl rfl rfl (by dsimp only [aput, List.set]) ?_
       refine w_op (a := .ptr 1 1) rfl rfl rfl rfl (by dsimp only [aput, List.set]) ?_
       refine w_op (a := .raw (.int .i64 x2.fr)) rfl rfl rfl rfl (by dsimp only [aput, List.set]) ?_
       obtain ⟨g2, h⟩ := chk_e h
       refine w_op (a := .raw (.int .i64 (x2.to - x2.fr))) rfl rfl rfl (op_q (q_sub rfl rfl rfl rfl g2.1 g2.2)) (by dsimp only [aput, List.set]) ?_
       obtain ⟨g3, h⟩ := chk_e h
       refine w_op (a := .raw (.int .i64 (s1.1 + (x2.to - x2.fr)))) rfl rfl rfl (op_q (q_add rfl rfl rfl rfl g3.1 g3.2)) (by dsimp only [aput, List.set]) ?_
       refine w_op (a := .raw (.int .i64 (s1.1 + (x2.to - x2.fr)))) rfl rfl rfl rfl (by dsimp only [aput, List.set]) ?_
       refine cut_done (o := or2) ((s1.1 + (x2.to - x2.fr))) h ?_
       exact wm_trim [true, true, true, true, true, true, true, true, true, false, true, true, true, true, true, true, true, true, true, true, true, false, false, false, false, false, false, false, false, false, false, false, false, false, true, true] 1 (by kernel_rfl) (Nat.le_of_ble_eq_true rfl) (okSt_of (okB_cons (okTrimL_clo _ _ (Enc.clo _)) rfl)) (by dsimp only [setAll, topAll, List.foldl, List.set]; exact (okTrimL_cons rfl (okTrimL_cons (show okTrimL _ _ = true from rfl) (okTrimL_cons rfl (okTrimL_cons rfl (okTrimL_cons rfl (okTrimL_cons rfl (okTrimL_cons rfl (okTrimL_cons rfl (okTrimL_cons rfl (okTrimL_cons rfl (okTrimL_cons rfl (okTrimL_cons rfl (okTrimL_cons rfl (okTrimL_cons rfl (okTrimL_cons rfl (okTrimL_cons rfl (okTrimL_cons rfl (okTrimL_cons rfl (okTrimL_cons (okTrim_l (Enc.cloL _)) (okTrimL_cons rfl (okTrimL_cons rfl (okTrimL_cons rfl (okTrimL_cons rfl (okTrimL_cons rfl (okTrimL_cons rfl (okTrimL_cons rfl (okTrimL_cons rfl (okTrimL_cons rfl (okTrimL_cons rfl (okTrimL_cons rfl (okTrimL_cons rfl (okTrimL_cons rfl (okTrimL_cons rfl (okTrimL_cons rfl (okTrimL_cons rfl (okTrimL_cons rfl rfl))))))))))))))))))))))))))))))))))))) (by kernel_rfl)
      ·
       refine w_condF hc3 rfl ?_
       refine cut_done (o := or2) (s1.1) h ?_
       exact wm_trim [true, true, true, true, true, true, true, true, true, false, true, true, true, true, true, true, true, true, true, true, true, false, false, false, false, false, false, false, false, false, false, false, false, false, true, true] 1 (by kernel_rfl) (Nat.le_of_ble_eq_true rfl) (okSt_of (okB_cons (okTrimL_clo _ _ (Enc.clo _)) rfl)) (by dsimp only [setAll, topAll, List.foldl, List.set]; exact (okTrimL_cons rfl (okTrimL_cons (show okTrimL _ _ = true from rfl) (okTrimL_cons rfl (okTrimL_cons rfl (okTrimL_cons rfl (okTrimL_cons rfl (okTrimL_cons rfl (okTrimL_cons rfl (okTrimL_cons rfl (okTrimL_cons rfl (okTrimL_cons rfl (okTrimL_cons rfl (okTrimL_cons rfl (okTrimL_cons rfl (okTrimL_cons rfl (okTrimL_cons rfl (okTrimL_cons rfl (okTrimL_cons rfl (okTrimL_cons (okTrim_l (Enc.cloL _)) (okTrimL_cons rfl (okTrimL_cons rfl (okTrimL_cons rfl (okTrimL_cons rfl (okTrimL_cons rfl (okTrimL_cons rfl (okTrimL_cons rfl (okTrimL_cons rfl (okTrimL_cons rfl (okTrimL_cons rfl (okTrimL_cons rfl (okTrimL_cons rfl (okTrimL_cons rfl (okTrimL_cons rfl (okTrimL_cons rfl (okTrimL_cons rfl (okTrimL_cons rfl rfl))))))))))))))))))))))))))))))))))))) (by kernel_rfl)
     ·
      intro j2 h
      refine w_start (by dsimp only [setAll, topAll, List.foldl, List.set]) rfl ?_
      refine w_region (k0 := 0) (id := 10) ?_
      obtain ⟨g4, h⟩ := chk_e h
      refine w_op (a := .raw (.int .i64 (s1.2 + 1))) rfl rfl rfl (op_q (q_add rfl rfl rfl rfl g4.1 g4.2)) (by dsimp only [aput, List.set]) ?_
      refine w_op (a := .raw (.int .i64 (s1.2 + 1))) rfl rfl rfl rfl (by dsimp only [aput, List.set]) ?_
      refine loop_next (p := p1) (j2, (s1.2 + 1)) h ?_
      exact wm_of [false, true, false, false, false, false, false, true, false, false, false, false, false, false, false, false, false, false, true, true, true, false, false, false, false, false, false, false, false, false, false, false, false, false, false, false] (by kernel_rfl) (by kernel_rfl)
    ·
     refine w_condF hc2 rfl ?_
     refine loop_exit h (fun h => ?_)
     refine cut_done (o := or1) (s1.1) h ?_
     exact wm_of [false, false, false, false, false, false, false, true, false, false, false, false, false, false, false, false, false, false, false, false, false, false, false, false, false, false, false, false, false, false, false, false, false, false, false, false] (by kernel_rfl) (by kernel_rfl)
  ·
   intro j1 h
   refine w_start (by dsimp only [setAll, topAll, List.foldl, List.set]) rfl ?_
   refine w_seq (w_region ?_)
   refine w_op (a := .raw (.int .i64 j1)) rfl rfl rfl rfl (by dsimp only [aput, List.set]) ?_
   refine w_op (a := .raw (.int .i64 j1)) rfl rfl rfl rfl (by dsimp only [aput, List.set]) ?_
   exact end_pureF (fun (r : Int) => (.raw (.int .i64 r) : AV)) h (a := .raw (.int .i64 j1)) rfl rfl rfl
def F_taken (fuel : Nat) (t : Trc) : Option Int :=
  (bindE (F_sumTaken fuel t) (fun x1 => (some x1)))
theorem ent22 : Ent Tryd.prog 22 := enters_of Tryd.func22 (by kernel_rfl) rfl
set_option maxRecDepth 100000 in
set_option maxHeartbeats 4000000 in
theorem taken_sh (fuel : Nat) (t : Trc) (r : Int) (h : F_taken fuel t = some r) : Pure (ITP Tryd.prog) Tryd.prog 22 [.agg (Enc.cells (t : Trc))] (.raw (.int .i64 r)) := by
 obtain ⟨d, hd⟩ : ∃ d, Tryd.f22.body = some d := ⟨_, rfl⟩
 refine pure_of mix Tryd.func22 hd ent22 ?_
 cases hd
 unfold F_taken at h
 refine w_start (by dsimp only [abeginS, Tryd.f22, List.length_cons, List.length_nil, Nat.zero_add, Nat.reduceAdd, Nat.reduceSub, List.replicate, List.cons_append, List.nil_append]) (by dsimp only [St.empty]) ?_
 refine w_seq (w_region ?_)
 refine w_opm (a := .ptr 0 0) (σ'' := ⟨[(26, (Enc.cells (t : Trc)))], [], [], 0, false⟩) rfl rfl rfl rfl (by dsimp only [aput, List.set]) rfl ?_
 refine w_op (a := .raw (.int .i64 0)) rfl rfl rfl rfl (by dsimp only [aput, List.set]) ?_
 refine w_seq (w_region ?_)
 refine w_op (a := .agg (Enc.cells (t : Trc))) rfl rfl rfl rfl (by dsimp only [aput, List.set]) ?_
 obtain ⟨x1, hx1, h⟩ := bindE_e h
 refine w_callc (args' := [.agg (Enc.cells (t : Trc)), .clos 45 []]) (r := .raw (.int .i64 x1)) (sumTaken_sh fuel t x1 hx1) rfl rfl (stripL_cons (strip_c (clo_agg (Enc.clo _))) (stripL_cons (show AV.clos _ (stripL _) = _ from congrArg (AV.clos _) rfl) rfl)) (okTrimL_cons (okTrim_clo _ _ (clo_agg (Enc.clo _))) (okTrimL_cons (show okTrimL _ _ = true from rfl) rfl)) (by dsimp only [aput, List.set]) ?_
 refine w_op (a := .raw (.int .i64 x1)) rfl rfl rfl rfl (by dsimp only [aput, List.set]) ?_
 exact end_pureF (fun (r : Int) => (.raw (.int .i64 r) : AV)) h (a := .raw (.int .i64 x1)) rfl rfl rfl
def F_lost (fuel : Nat) (t : Trc) : Option Int :=
  (bindE (F_sumLost fuel t) (fun x1 => (some x1)))
theorem ent23 : Ent Tryd.prog 23 := enters_of Tryd.func23 (by kernel_rfl) rfl
set_option maxRecDepth 100000 in
set_option maxHeartbeats 4000000 in
theorem lost_sh (fuel : Nat) (t : Trc) (r : Int) (h : F_lost fuel t = some r) : Pure (ITP Tryd.prog) Tryd.prog 23 [.agg (Enc.cells (t : Trc))] (.raw (.int .i64 r)) := by
 obtain ⟨d, hd⟩ : ∃ d, Tryd.f23.body = some d := ⟨_, rfl⟩
 refine pure_of mix Tryd.func23 hd ent23 ?_
 cases hd
 unfold F_lost at h
 refine w_start (by dsimp only [abeginS, Tryd.f23, List.length_cons, List.length_nil, Nat.zero_add, Nat.reduceAdd, Nat.reduceSub, List.replicate, List.cons_append, List.nil_append]) (by dsimp only [St.empty]) ?_
 refine w_seq (w_region ?_)
 refine w_opm (a := .ptr 0 0) (σ'' := ⟨[(26, (Enc.cells (t : Trc)))], [], [], 0, false⟩) rfl rfl rfl rfl (by dsimp only [aput, List.set]) rfl ?_
 refine w_op (a := .raw (.int .i64 0)) rfl rfl rfl rfl (by dsimp only [aput, List.set]) ?_
 refine w_seq (w_region ?_)
 refine w_op (a := .agg (Enc.cells (t : Trc))) rfl rfl rfl rfl (by dsimp only [aput, List.set]) ?_
 obtain ⟨x1, hx1, h⟩ := bindE_e h
 refine w_callc (args' := [.agg (Enc.cells (t : Trc)), .clos 46 []]) (r := .raw (.int .i64 x1)) (sumLost_sh fuel t x1 hx1) rfl rfl (stripL_cons (strip_c (clo_agg (Enc.clo _))) (stripL_cons (show AV.clos _ (stripL _) = _ from congrArg (AV.clos _) rfl) rfl)) (okTrimL_cons (okTrim_clo _ _ (clo_agg (Enc.clo _))) (okTrimL_cons (show okTrimL _ _ = true from rfl) rfl)) (by dsimp only [aput, List.set]) ?_
 refine w_op (a := .raw (.int .i64 x1)) rfl rfl rfl rfl (by dsimp only [aput, List.set]) ?_
 exact end_pureF (fun (r : Int) => (.raw (.int .i64 r) : AV)) h (a := .raw (.int .i64 x1)) rfl rfl rfl
def F_at (fuel : Nat) (t : Trc) : Option Int :=
  (bindE (F_sumAt fuel t) (fun x1 => (some x1)))
theorem ent20 : Ent Tryd.prog 20 := enters_of Tryd.func20 (by kernel_rfl) rfl
set_option maxRecDepth 100000 in
set_option maxHeartbeats 4000000 in
theorem at_sh (fuel : Nat) (t : Trc) (r : Int) (h : F_at fuel t = some r) : Pure (ITP Tryd.prog) Tryd.prog 20 [.agg (Enc.cells (t : Trc))] (.raw (.int .i64 r)) := by
 obtain ⟨d, hd⟩ : ∃ d, Tryd.f20.body = some d := ⟨_, rfl⟩
 refine pure_of mix Tryd.func20 hd ent20 ?_
 cases hd
 unfold F_at at h
 refine w_start (by dsimp only [abeginS, Tryd.f20, List.length_cons, List.length_nil, Nat.zero_add, Nat.reduceAdd, Nat.reduceSub, List.replicate, List.cons_append, List.nil_append]) (by dsimp only [St.empty]) ?_
 refine w_seq (w_region ?_)
 refine w_opm (a := .ptr 0 0) (σ'' := ⟨[(26, (Enc.cells (t : Trc)))], [], [], 0, false⟩) rfl rfl rfl rfl (by dsimp only [aput, List.set]) rfl ?_
 refine w_op (a := .raw (.int .i64 0)) rfl rfl rfl rfl (by dsimp only [aput, List.set]) ?_
 refine w_seq (w_region ?_)
 refine w_op (a := .agg (Enc.cells (t : Trc))) rfl rfl rfl rfl (by dsimp only [aput, List.set]) ?_
 obtain ⟨x1, hx1, h⟩ := bindE_e h
 refine w_callc (args' := [.agg (Enc.cells (t : Trc)), .clos 43 []]) (r := .raw (.int .i64 x1)) (sumAt_sh fuel t x1 hx1) rfl rfl (stripL_cons (strip_c (clo_agg (Enc.clo _))) (stripL_cons (show AV.clos _ (stripL _) = _ from congrArg (AV.clos _) rfl) rfl)) (okTrimL_cons (okTrim_clo _ _ (clo_agg (Enc.clo _))) (okTrimL_cons (show okTrimL _ _ = true from rfl) rfl)) (by dsimp only [aput, List.set]) ?_
 refine w_op (a := .raw (.int .i64 x1)) rfl rfl rfl rfl (by dsimp only [aput, List.set]) ?_
 exact end_pureF (fun (r : Int) => (.raw (.int .i64 r) : AV)) h (a := .raw (.int .i64 x1)) rfl rfl rfl
end Go.Ab

