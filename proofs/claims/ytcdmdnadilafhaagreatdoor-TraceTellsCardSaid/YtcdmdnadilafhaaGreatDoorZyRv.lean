/-
  reparteeref02: what is said of one byte: the walks.
-/
import Derived.Test.YtcdmdnadilafhaaGreatDoorZyRb
set_option linter.unusedSimpArgs false
set_option linter.unusedVariables false
namespace Go.Ab
open Go Go.RowKit Go.Fwd Go.Proofs
def F_rhex (n : Int) (up : Bool) : Option Int :=
  (bif up then (chk (0 ≤ n ∧ n < (List.length ([48, 49, 50, 51, 52, 53, 54, 55, 56, 57, 65, 66, 67, 68, 69, 70] : List UInt8) : Int)) (letE (ix ([48, 49, 50, 51, 52, 53, 54, 55, 56, 57, 65, 66, 67, 68, 69, 70] : List UInt8) n) (fun x1 => (some (((x1).toNat : Nat) : Int))))) else (chk (0 ≤ n ∧ n < (List.length ([48, 49, 50, 51, 52, 53, 54, 55, 56, 57, 97, 98, 99, 100, 101, 102] : List UInt8) : Int)) (letE (ix ([48, 49, 50, 51, 52, 53, 54, 55, 56, 57, 97, 98, 99, 100, 101, 102] : List UInt8) n) (fun x2 => (some (((x2).toNat : Nat) : Int))))))
theorem ent110 : Ent Tryz.prog 110 := enters_of Tryz.func110 (by kernel_rfl) rfl
set_option maxRecDepth 100000 in
set_option maxHeartbeats 4000000 in
theorem rhex_sh (n : Int) (up : Bool) (r : Int) (h : F_rhex n up = some r) : Pure (ITP Tryz.prog) Tryz.prog 110 [.raw (.int .i64 n), .raw (.bool up)] (.raw (.int .u8 r)) := by
 obtain ⟨d, hd⟩ : ∃ d, Tryz.f110.body = some d := ⟨_, rfl⟩
 refine pure_of mix Tryz.func110 hd ent110 ?_
 cases hd
 unfold F_rhex at h
 refine w_start (by dsimp only [abeginS, Tryz.f110, List.length_cons, List.length_nil, Nat.zero_add, Nat.reduceAdd, Nat.reduceSub, List.replicate, List.cons_append, List.nil_append]) (by dsimp only [St.empty]) ?_
 refine w_seq (w_region ?_)
 refine w_op (a := .raw (.int .u8 0)) rfl rfl rfl rfl (by dsimp only [aput, List.set]) ?_
 refine w_seq ?_
 refine w_seq (w_region ?_)
 refine w_op (a := .raw (.bool up)) rfl rfl rfl rfl (by dsimp only [aput, List.set]) ?_
 refine bif_e h (fun hc1 h => ?_) (fun hc1 h => ?_)
 ·
  refine w_condT hc1 rfl ?_
  refine w_seq (w_region ?_)
  refine w_op (a := .raw (.int .i64 n)) rfl rfl rfl rfl (by dsimp only [aput, List.set]) ?_
  obtain ⟨g1, h⟩ := chk_e h
  obtain ⟨x1, hx1, h⟩ := letE_e h
  refine w_op (a := .raw (.int .u8 (((x1).toNat : Nat) : Int))) rfl rfl rfl (op_q (by rw [← hx1]; exact (q_sidx (l := ([48, 49, 50, 51, 52, 53, 54, 55, 56, 57, 65, 66, 67, 68, 69, 70] : List UInt8)) (n := n) g1 rfl rfl rfl rfl))) (by dsimp only [aput, List.set]) ?_
  refine w_op (a := .raw (.int .u8 (((x1).toNat : Nat) : Int))) rfl rfl rfl rfl (by dsimp only [aput, List.set]) ?_
  exact end_pureF (fun (r : Int) => (.raw (.int .u8 r) : AV)) h (a := .raw (.int .u8 (((x1).toNat : Nat) : Int))) rfl rfl rfl
 ·
  refine w_condF hc1 rfl ?_
  refine w_seq (w_region ?_)
  refine w_op (a := .raw (.int .i64 n)) rfl rfl rfl rfl (by dsimp only [aput, List.set]) ?_
  obtain ⟨g2, h⟩ := chk_e h
  obtain ⟨x2, hx2, h⟩ := letE_e h
  refine w_op (a := .raw (.int .u8 (((x2).toNat : Nat) : Int))) rfl rfl rfl (op_q (by rw [← hx2]; exact (q_sidx (l := ([48, 49, 50, 51, 52, 53, 54, 55, 56, 57, 97, 98, 99, 100, 101, 102] : List UInt8)) (n := n) g2 rfl rfl rfl rfl))) (by dsimp only [aput, List.set]) ?_
  refine w_op (a := .raw (.int .u8 (((x2).toNat : Nat) : Int))) rfl rfl rfl rfl (by dsimp only [aput, List.set]) ?_
  exact end_pureF (fun (r : Int) => (.raw (.int .u8 r) : AV)) h (a := .raw (.int .u8 (((x2).toNat : Nat) : Int))) rfl rfl rfl
def F_rmark (m : RSet) (c : Int) : Option Bool :=
  (cutE (τ := Unit) (bif (decide (c ≥ 48)) then (bif (decide (c ≤ 57)) then (some (Sum.inr false)) else (bif (decide (c ≥ 65)) then (bif (decide (c ≤ 90)) then (some (Sum.inr false)) else (bif (decide (c ≥ 97)) then (bif (decide (c ≤ 122)) then (some (Sum.inr false)) else (some (Sum.inl ()))) else (some (Sum.inl ())))) else (bif (decide (c ≥ 97)) then (bif (decide (c ≤ 122)) then (some (Sum.inr false)) else (some (Sum.inl ()))) else (some (Sum.inl ()))))) else (bif (decide (c ≥ 65)) then (bif (decide (c ≤ 90)) then (some (Sum.inr false)) else (bif (decide (c ≥ 97)) then (bif (decide (c ≤ 122)) then (some (Sum.inr false)) else (some (Sum.inl ()))) else (some (Sum.inl ())))) else (bif (decide (c ≥ 97)) then (bif (decide (c ≤ 122)) then (some (Sum.inr false)) else (some (Sum.inl ()))) else (some (Sum.inl ()))))) (fun j1 => (bif (decide (c > 31)) then (bif (decide (c < 127)) then (chk (0 ≤ c ∧ c < 256) (some ((rdA m c) == 1))) else (some false)) else (some false))))
theorem ent109 : Ent Tryz.prog 109 := enters_of Tryz.func109 (by kernel_rfl) rfl
set_option maxRecDepth 100000 in
set_option maxHeartbeats 4000000 in
theorem rmark_sh (m : RSet) (c : Int) (r : Bool) (h : F_rmark m c = some r) : Pure (ITP Tryz.prog) Tryz.prog 109 [.agg (Enc.cells (m : RSet)), .raw (.int .u8 c)] (.raw (.bool r)) := by
 obtain ⟨d, hd⟩ : ∃ d, Tryz.f109.body = some d := ⟨_, rfl⟩
 refine pure_of mix Tryz.func109 hd ent109 ?_
 cases hd
 unfold F_rmark at h
 refine w_start (by dsimp only [abeginS, Tryz.f109, List.length_cons, List.length_nil, Nat.zero_add, Nat.reduceAdd, Nat.reduceSub, List.replicate, List.cons_append, List.nil_append]) (by dsimp only [St.empty]) ?_
 refine w_seq (w_region ?_)
 refine w_opm (a := .ptr 0 0) (σ'' := ⟨[(128, (Enc.cells (m : RSet)))], [], [], 0, false⟩) rfl rfl rfl rfl (by dsimp only [aput, List.set]) rfl ?_
 refine w_op (a := .raw (.bool false)) rfl rfl rfl rfl (by dsimp only [aput, List.set]) ?_
 refine w_cutF h [0, 3, 4, 5, 6, 7, 8, 9, 10, 11, 12, 13, 14, 15, 16, 17, 18, 19, 20, 21, 22, 23, 24, 25, 26, 27, 28, 29, 30, 31, 32, 33, 34, 35, 36, 37, 38] (fun j1 => []) (fun j1 => ⟨[(128, (Enc.cells (m : RSet)))], [], [], 0, false⟩) ?_ ?_
 ·
  intro or1 h hr1
  refine w_seq (w_region ?_)
  refine w_op (a := .raw (.int .u8 c)) rfl rfl rfl rfl (by dsimp only [aput, List.set]) ?_
  refine w_op (a := .raw (.bool (decide (c ≥ 48)))) rfl rfl rfl rfl (by dsimp only [aput, List.set]) ?_
  refine bif_e h (fun hc1 h => ?_) (fun hc1 h => ?_)
  ·
   refine w_op (a := .raw (.bool true)) rfl rfl rfl (op_q (q_bool rfl hc1)) (by dsimp only [aput, List.set]) ?_
   refine w_met rfl rfl ?_
   refine w_op (a := .raw (.int .u8 c)) rfl rfl rfl rfl (by dsimp only [aput, List.set]) ?_
   refine w_met rfl rfl ?_
   refine w_op (a := .raw (.bool (decide (c ≤ 57)))) rfl rfl rfl rfl (by dsimp only [aput, List.set]) ?_
   refine w_op (a := .raw (.bool (decide (c ≤ 57)))) rfl rfl rfl rfl (by dsimp only [aput, List.set]) ?_
   refine bif_e h (fun hc2 h => ?_) (fun hc2 h => ?_)
   ·
    refine w_op (a := .raw (.bool true)) rfl rfl rfl (op_q (q_bool rfl hc2)) (by dsimp only [aput, List.set]) ?_
    refine w_pass rfl rfl (by decide) (by dsimp only [aput, List.set]) ?_
    refine w_pass rfl rfl (by decide) (by dsimp only [aput, List.set]) ?_
    refine w_pass rfl rfl (by decide) (by dsimp only [aput, List.set]) ?_
    refine w_pass rfl rfl (by decide) (by dsimp only [aput, List.set]) ?_
    refine w_pass rfl rfl (by decide) (by dsimp only [aput, List.set]) ?_
    refine w_pass rfl rfl (by decide) (by dsimp only [aput, List.set]) ?_
    refine w_op (a := .raw (.bool true)) rfl rfl rfl rfl (by dsimp only [aput, List.set]) ?_
    refine w_op (a := .raw (.bool true)) rfl rfl rfl rfl (by dsimp only [aput, List.set]) ?_
    refine w_pass rfl rfl (by decide) (by dsimp only [aput, List.set]) ?_
    refine w_pass rfl rfl (by decide) (by dsimp only [aput, List.set]) ?_
    refine w_pass rfl rfl (by decide) (by dsimp only [aput, List.set]) ?_
    refine w_pass rfl rfl (by decide) (by dsimp only [aput, List.set]) ?_
    refine w_pass rfl rfl (by decide) (by dsimp only [aput, List.set]) ?_
    refine w_pass rfl rfl (by decide) (by dsimp only [aput, List.set]) ?_
    refine w_op (a := .raw (.bool true)) rfl rfl rfl rfl (by dsimp only [aput, List.set]) ?_
    refine w_true rfl ?_
    refine w_seq (w_region ?_)
    refine w_op (a := .raw (.bool false)) rfl rfl rfl rfl (by dsimp only [aput, List.set]) ?_
    replace h := cut_inr h hr1
    exact end_pureF (fun (r : Bool) => (.raw (.bool r) : AV)) h (a := .raw (.bool false)) rfl rfl rfl
   ·
    refine w_op (a := .raw (.bool false)) rfl rfl rfl (op_q (q_bool rfl hc2)) (by dsimp only [aput, List.set]) ?_
    refine w_met rfl rfl ?_
    refine w_op (a := .raw (.int .u8 c)) rfl rfl rfl rfl (by dsimp only [aput, List.set]) ?_
    refine w_met rfl rfl ?_
    refine w_op (a := .raw (.bool (decide (c ≥ 65)))) rfl rfl rfl rfl (by dsimp only [aput, List.set]) ?_
    refine w_met rfl rfl ?_
    refine bif_e h (fun hc3 h => ?_) (fun hc3 h => ?_)
    ·
     refine w_op (a := .raw (.bool true)) rfl rfl rfl (op_q (q_bool rfl hc3)) (by dsimp only [aput, List.set]) ?_
     refine w_met rfl rfl ?_
     refine w_op (a := .raw (.int .u8 c)) rfl rfl rfl rfl (by dsimp only [aput, List.set]) ?_
     refine w_met rfl rfl ?_
     refine w_op (a := .raw (.bool (decide (c ≤ 90)))) rfl rfl rfl rfl (by dsimp only [aput, List.set]) ?_
     refine w_met rfl rfl ?_
     refine w_op (a := .raw (.bool (decide (c ≤ 90)))) rfl rfl rfl rfl (by dsimp only [aput, List.set]) ?_
     refine w_op (a := .raw (.bool (decide (c ≤ 90)))) rfl rfl rfl rfl (by dsimp only [aput, List.set]) ?_
     refine bif_e h (fun hc4 h => ?_) (fun hc4 h => ?_)
     ·
      refine w_op (a := .raw (.bool true)) rfl rfl rfl (op_q (q_bool rfl hc4)) (by dsimp only [aput, List.set]) ?_
      refine w_pass rfl rfl (by decide) (by dsimp only [aput, List.set]) ?_
      refine w_pass rfl rfl (by decide) (by dsimp only [aput, List.set]) ?_
      refine w_pass rfl rfl (by decide) (by dsimp only [aput, List.set]) ?_
      refine w_pass rfl rfl (by decide) (by dsimp only [aput, List.set]) ?_
      refine w_pass rfl rfl (by decide) (by dsimp only [aput, List.set]) ?_
      refine w_pass rfl rfl (by decide) (by dsimp only [aput, List.set]) ?_
      refine w_op (a := .raw (.bool true)) rfl rfl rfl rfl (by dsimp only [aput, List.set]) ?_
      refine w_true rfl ?_
      refine w_seq (w_region ?_)
      refine w_op (a := .raw (.bool false)) rfl rfl rfl rfl (by dsimp only [aput, List.set]) ?_
      replace h := cut_inr h hr1
      exact end_pureF (fun (r : Bool) => (.raw (.bool r) : AV)) h (a := .raw (.bool false)) rfl rfl rfl
     ·
      refine w_op (a := .raw (.bool false)) rfl rfl rfl (op_q (q_bool rfl hc4)) (by dsimp only [aput, List.set]) ?_
      refine w_met rfl rfl ?_
      refine w_op (a := .raw (.int .u8 c)) rfl rfl rfl rfl (by dsimp only [aput, List.set]) ?_
      refine w_met rfl rfl ?_
      refine w_op (a := .raw (.bool (decide (c ≥ 97)))) rfl rfl rfl rfl (by dsimp only [aput, List.set]) ?_
      refine w_met rfl rfl ?_
      refine bif_e h (fun hc5 h => ?_) (fun hc5 h => ?_)
      ·
       refine w_op (a := .raw (.bool true)) rfl rfl rfl (op_q (q_bool rfl hc5)) (by dsimp only [aput, List.set]) ?_
       refine w_met rfl rfl ?_
       refine w_op (a := .raw (.int .u8 c)) rfl rfl rfl rfl (by dsimp only [aput, List.set]) ?_
       refine w_met rfl rfl ?_
       refine w_op (a := .raw (.bool (decide (c ≤ 122)))) rfl rfl rfl rfl (by dsimp only [aput, List.set]) ?_
       refine w_met rfl rfl ?_
       refine w_op (a := .raw (.bool (decide (c ≤ 122)))) rfl rfl rfl rfl (by dsimp only [aput, List.set]) ?_
       refine w_op (a := .raw (.bool (decide (c ≤ 122)))) rfl rfl rfl rfl (by dsimp only [aput, List.set]) ?_
       refine bif_e h (fun hc6 h => ?_) (fun hc6 h => ?_)
       ·
        refine w_condT hc6 rfl ?_
        refine w_seq (w_region ?_)
        refine w_op (a := .raw (.bool false)) rfl rfl rfl rfl (by dsimp only [aput, List.set]) ?_
        replace h := cut_inr h hr1
        exact end_pureF (fun (r : Bool) => (.raw (.bool r) : AV)) h (a := .raw (.bool false)) rfl rfl rfl
       ·
        refine w_condF hc6 rfl ?_
        refine cut_done (o := or1) () h ?_
        exact wm_of [false, true, true, false, false, false, false, false, false, false, false, false, false, false, false, false, false, false, false, false, false, false, false, false, false, false, false, false, false, false, false, false, false, false, false, false, false, false, false] (by kernel_rfl) (by kernel_rfl)
      ·
       refine w_op (a := .raw (.bool false)) rfl rfl rfl (op_q (q_bool rfl hc5)) (by dsimp only [aput, List.set]) ?_
       refine w_pass rfl rfl (by decide) (by dsimp only [aput, List.set]) ?_
       refine w_pass rfl rfl (by decide) (by dsimp only [aput, List.set]) ?_
       refine w_met rfl rfl ?_
       refine w_op (a := .raw (.bool false)) rfl rfl rfl rfl (by dsimp only [aput, List.set]) ?_
       refine w_op (a := .raw (.bool false)) rfl rfl rfl rfl (by dsimp only [aput, List.set]) ?_
       refine w_false rfl ?_
       refine cut_done (o := or1) () h ?_
       exact wm_of [false, true, true, false, false, false, false, false, false, false, false, false, false, false, false, false, false, false, false, false, false, false, false, false, false, false, false, false, false, false, false, false, false, false, false, false, false, false, false] (by kernel_rfl) (by kernel_rfl)
    ·
     refine w_op (a := .raw (.bool false)) rfl rfl rfl (op_q (q_bool rfl hc3)) (by dsimp only [aput, List.set]) ?_
     refine w_pass rfl rfl (by decide) (by dsimp only [aput, List.set]) ?_
     refine w_pass rfl rfl (by decide) (by dsimp only [aput, List.set]) ?_
     refine w_met rfl rfl ?_
     refine w_op (a := .raw (.bool false)) rfl rfl rfl rfl (by dsimp only [aput, List.set]) ?_
     refine w_op (a := .raw (.bool false)) rfl rfl rfl rfl (by dsimp only [aput, List.set]) ?_
     refine w_op (a := .raw (.bool false)) rfl rfl rfl rfl (by dsimp only [aput, List.set]) ?_
     refine w_met rfl rfl ?_
     refine w_op (a := .raw (.int .u8 c)) rfl rfl rfl rfl (by dsimp only [aput, List.set]) ?_
     refine w_met rfl rfl ?_
     refine w_op (a := .raw (.bool (decide (c ≥ 97)))) rfl rfl rfl rfl (by dsimp only [aput, List.set]) ?_
     refine w_met rfl rfl ?_
     refine bif_e h (fun hc7 h => ?_) (fun hc7 h => ?_)
     ·
      refine w_op (a := .raw (.bool true)) rfl rfl rfl (op_q (q_bool rfl hc7)) (by dsimp only [aput, List.set]) ?_
      refine w_met rfl rfl ?_
      refine w_op (a := .raw (.int .u8 c)) rfl rfl rfl rfl (by dsimp only [aput, List.set]) ?_
      refine w_met rfl rfl ?_
      refine w_op (a := .raw (.bool (decide (c ≤ 122)))) rfl rfl rfl rfl (by dsimp only [aput, List.set]) ?_
      refine w_met rfl rfl ?_
      refine w_op (a := .raw (.bool (decide (c ≤ 122)))) rfl rfl rfl rfl (by dsimp only [aput, List.set]) ?_
      refine w_op (a := .raw (.bool (decide (c ≤ 122)))) rfl rfl rfl rfl (by dsimp only [aput, List.set]) ?_
      refine bif_e h (fun hc8 h => ?_) (fun hc8 h => ?_)
      ·
       refine w_condT hc8 rfl ?_
       refine w_seq (w_region ?_)
       refine w_op (a := .raw (.bool false)) rfl rfl rfl rfl (by dsimp only [aput, List.set]) ?_
       replace h := cut_inr h hr1
       exact end_pureF (fun (r : Bool) => (.raw (.bool r) : AV)) h (a := .raw (.bool false)) rfl rfl rfl
      ·
       refine w_condF hc8 rfl ?_
       refine cut_done (o := or1) () h ?_
       exact wm_of [false, true, true, false, false, false, false, false, false, false, false, false, false, false, false, false, false, false, false, false, false, false, false, false, false, false, false, false, false, false, false, false, false, false, false, false, false, false, false] (by kernel_rfl) (by kernel_rfl)
     ·
      refine w_op (a := .raw (.bool false)) rfl rfl rfl (op_q (q_bool rfl hc7)) (by dsimp only [aput, List.set]) ?_
      refine w_pass rfl rfl (by decide) (by dsimp only [aput, List.set]) ?_
      refine w_pass rfl rfl (by decide) (by dsimp only [aput, List.set]) ?_
      refine w_met rfl rfl ?_
      refine w_op (a := .raw (.bool false)) rfl rfl rfl rfl (by dsimp only [aput, List.set]) ?_
      refine w_op (a := .raw (.bool false)) rfl rfl rfl rfl (by dsimp only [aput, List.set]) ?_
      refine w_false rfl ?_
      refine cut_done (o := or1) () h ?_
      exact wm_of [false, true, true, false, false, false, false, false, false, false, false, false, false, false, false, false, false, false, false, false, false, false, false, false, false, false, false, false, false, false, false, false, false, false, false, false, false, false, false] (by kernel_rfl) (by kernel_rfl)
  ·
   refine w_op (a := .raw (.bool false)) rfl rfl rfl (op_q (q_bool rfl hc1)) (by dsimp only [aput, List.set]) ?_
   refine w_pass rfl rfl (by decide) (by dsimp only [aput, List.set]) ?_
   refine w_pass rfl rfl (by decide) (by dsimp only [aput, List.set]) ?_
   refine w_op (a := .raw (.bool false)) rfl rfl rfl rfl (by dsimp only [aput, List.set]) ?_
   refine w_op (a := .raw (.bool false)) rfl rfl rfl rfl (by dsimp only [aput, List.set]) ?_
   refine w_met rfl rfl ?_
   refine w_op (a := .raw (.int .u8 c)) rfl rfl rfl rfl (by dsimp only [aput, List.set]) ?_
   refine w_met rfl rfl ?_
   refine w_op (a := .raw (.bool (decide (c ≥ 65)))) rfl rfl rfl rfl (by dsimp only [aput, List.set]) ?_
   refine w_met rfl rfl ?_
   refine bif_e h (fun hc9 h => ?_) (fun hc9 h => ?_)
   ·
    refine w_op (a := .raw (.bool true)) rfl rfl rfl (op_q (q_bool rfl hc9)) (by dsimp only [aput, List.set]) ?_
    refine w_met rfl rfl ?_
    refine w_op (a := .raw (.int .u8 c)) rfl rfl rfl rfl (by dsimp only [aput, List.set]) ?_
    refine w_met rfl rfl ?_
    refine w_op (a := .raw (.bool (decide (c ≤ 90)))) rfl rfl rfl rfl (by dsimp only [aput, List.set]) ?_
    refine w_met rfl rfl ?_
    refine w_op (a := .raw (.bool (decide (c ≤ 90)))) rfl rfl rfl rfl (by dsimp only [aput, List.set]) ?_
    refine w_op (a := .raw (.bool (decide (c ≤ 90)))) rfl rfl rfl rfl (by dsimp only [aput, List.set]) ?_
    refine bif_e h (fun hc10 h => ?_) (fun hc10 h => ?_)
    ·
     refine w_op (a := .raw (.bool true)) rfl rfl rfl (op_q (q_bool rfl hc10)) (by dsimp only [aput, List.set]) ?_
     refine w_pass rfl rfl (by decide) (by dsimp only [aput, List.set]) ?_
     refine w_pass rfl rfl (by decide) (by dsimp only [aput, List.set]) ?_
     refine w_pass rfl rfl (by decide) (by dsimp only [aput, List.set]) ?_
     refine w_pass rfl rfl (by decide) (by dsimp only [aput, List.set]) ?_
     refine w_pass rfl rfl (by decide) (by dsimp only [aput, List.set]) ?_
     refine w_pass rfl rfl (by decide) (by dsimp only [aput, List.set]) ?_
     refine w_op (a := .raw (.bool true)) rfl rfl rfl rfl (by dsimp only [aput, List.set]) ?_
     refine w_true rfl ?_
     refine w_seq (w_region ?_)
     refine w_op (a := .raw (.bool false)) rfl rfl rfl rfl (by dsimp only [aput, List.set]) ?_
     replace h := cut_inr h hr1
     exact end_pureF (fun (r : Bool) => (.raw (.bool r) : AV)) h (a := .raw (.bool false)) rfl rfl rfl
    ·
     refine w_op (a := .raw (.bool false)) rfl rfl rfl (op_q (q_bool rfl hc10)) (by dsimp only [aput, List.set]) ?_
     refine w_met rfl rfl ?_
     refine w_op (a := .raw (.int .u8 c)) rfl rfl rfl rfl (by dsimp only [aput, List.set]) ?_
     refine w_met rfl rfl ?_
     refine w_op (a := .raw (.bool (decide (c ≥ 97)))) rfl rfl rfl rfl (by dsimp only [aput, List.set]) ?_
     refine w_met rfl rfl ?_
     refine bif_e h (fun hc11 h => ?_) (fun hc11 h => ?_)
     ·
      refine w_op (a := .raw (.bool true)) rfl rfl rfl (op_q (q_bool rfl hc11)) (by dsimp only [aput, List.set]) ?_
      refine w_met rfl rfl ?_
      refine w_op (a := .raw (.int .u8 c)) rfl rfl rfl rfl (by dsimp only [aput, List.set]) ?_
      refine w_met rfl rfl ?_
      refine w_op (a := .raw (.bool (decide (c ≤ 122)))) rfl rfl rfl rfl (by dsimp only [aput, List.set]) ?_
      refine w_met rfl rfl ?_
      refine w_op (a := .raw (.bool (decide (c ≤ 122)))) rfl rfl rfl rfl (by dsimp only [aput, List.set]) ?_
      refine w_op (a := .raw (.bool (decide (c ≤ 122)))) rfl rfl rfl rfl (by dsimp only [aput, List.set]) ?_
      refine bif_e h (fun hc12 h => ?_) (fun hc12 h => ?_)
      ·
       refine w_condT hc12 rfl ?_
       refine w_seq (w_region ?_)
       refine w_op (a := .raw (.bool false)) rfl rfl rfl rfl (by dsimp only [aput, List.set]) ?_
       replace h := cut_inr h hr1
       exact end_pureF (fun (r : Bool) => (.raw (.bool r) : AV)) h (a := .raw (.bool false)) rfl rfl rfl
      ·
       refine w_condF hc12 rfl ?_
       refine cut_done (o := or1) () h ?_
       exact wm_of [false, true, true, false, false, false, false, false, false, false, false, false, false, false, false, false, false, false, false, false, false, false, false, false, false, false, false, false, false, false, false, false, false, false, false, false, false, false, false] (by kernel_rfl) (by kernel_rfl)
     ·
      refine w_op (a := .raw (.bool false)) rfl rfl rfl (op_q (q_bool rfl hc11)) (by dsimp only [aput, List.set]) ?_
      refine w_pass rfl rfl (by decide) (by dsimp only [aput, List.set]) ?_
      refine w_pass rfl rfl (by decide) (by dsimp only [aput, List.set]) ?_
      refine w_met rfl rfl ?_
      refine w_op (a := .raw (.bool false)) rfl rfl rfl rfl (by dsimp only [aput, List.set]) ?_
      refine w_op (a := .raw (.bool false)) rfl rfl rfl rfl (by dsimp only [aput, List.set]) ?_
      refine w_false rfl ?_
      refine cut_done (o := or1) () h ?_
      exact wm_of [false, true, true, false, false, false, false, false, false, false, false, false, false, false, false, false, false, false, false, false, false, false, false, false, false, false, false, false, false, false, false, false, false, false, false, false, false, false, false] (by kernel_rfl) (by kernel_rfl)
   ·
    refine w_op (a := .raw (.bool false)) rfl rfl rfl (op_q (q_bool rfl hc9)) (by dsimp only [aput, List.set]) ?_
    refine w_pass rfl rfl (by decide) (by dsimp only [aput, List.set]) ?_
    refine w_pass rfl rfl (by decide) (by dsimp only [aput, List.set]) ?_
    refine w_met rfl rfl ?_
    refine w_op (a := .raw (.bool false)) rfl rfl rfl rfl (by dsimp only [aput, List.set]) ?_
    refine w_op (a := .raw (.bool false)) rfl rfl rfl rfl (by dsimp only [aput, List.set]) ?_
    refine w_op (a := .raw (.bool false)) rfl rfl rfl rfl (by dsimp only [aput, List.set]) ?_
    refine w_met rfl rfl ?_
    refine w_op (a := .raw (.int .u8 c)) rfl rfl rfl rfl (by dsimp only [aput, List.set]) ?_
    refine w_met rfl rfl ?_
    refine w_op (a := .raw (.bool (decide (c ≥ 97)))) rfl rfl rfl rfl (by dsimp only [aput, List.set]) ?_
    refine w_met rfl rfl ?_
    refine bif_e h (fun hc13 h => ?_) (fun hc13 h => ?_)
    ·
     refine w_op (a := .raw (.bool true)) rfl rfl rfl (op_q (q_bool rfl hc13)) (by dsimp only [aput, List.set]) ?_
     refine w_met rfl rfl ?_
     refine w_op (a := .raw (.int .u8 c)) rfl rfl rfl rfl (by dsimp only [aput, List.set]) ?_
     refine w_met rfl rfl ?_
     refine w_op (a := .raw (.bool (decide (c ≤ 122)))) rfl rfl rfl rfl (by dsimp only [aput, List.set]) ?_
     refine w_met rfl rfl ?_
     refine w_op (a := .raw (.bool (decide (c ≤ 122)))) rfl rfl rfl rfl (by dsimp only [aput, List.set]) ?_
     refine w_op (a := .raw (.bool (decide (c ≤ 122)))) rfl rfl rfl rfl (by dsimp only [aput, List.set]) ?_
     refine bif_e h (fun hc14 h => ?_) (fun hc14 h => ?_)
     ·
      refine w_condT hc14 rfl ?_
      refine w_seq (w_region ?_)
      refine w_op (a := .raw (.bool false)) rfl rfl rfl rfl (by dsimp only [aput, List.set]) ?_
      replace h := cut_inr h hr1
      exact end_pureF (fun (r : Bool) => (.raw (.bool r) : AV)) h (a := .raw (.bool false)) rfl rfl rfl
     ·
      refine w_condF hc14 rfl ?_
      refine cut_done (o := or1) () h ?_
      exact wm_of [false, true, true, false, false, false, false, false, false, false, false, false, false, false, false, false, false, false, false, false, false, false, false, false, false, false, false, false, false, false, false, false, false, false, false, false, false, false, false] (by kernel_rfl) (by kernel_rfl)
    ·
     refine w_op (a := .raw (.bool false)) rfl rfl rfl (op_q (q_bool rfl hc13)) (by dsimp only [aput, List.set]) ?_
     refine w_pass rfl rfl (by decide) (by dsimp only [aput, List.set]) ?_
     refine w_pass rfl rfl (by decide) (by dsimp only [aput, List.set]) ?_
     refine w_met rfl rfl ?_
     refine w_op (a := .raw (.bool false)) rfl rfl rfl rfl (by dsimp only [aput, List.set]) ?_
     refine w_op (a := .raw (.bool false)) rfl rfl rfl rfl (by dsimp only [aput, List.set]) ?_
     refine w_false rfl ?_
     refine cut_done (o := or1) () h ?_
     exact wm_of [false, true, true, false, false, false, false, false, false, false, false, false, false, false, false, false, false, false, false, false, false, false, false, false, false, false, false, false, false, false, false, false, false, false, false, false, false, false, false] (by kernel_rfl) (by kernel_rfl)
 ·
  intro j1 h
  refine w_start (by dsimp only [setAll, topAll, List.foldl, List.set]) rfl ?_
  refine w_seq (w_region ?_)
  refine w_op (a := .raw (.int .u8 c)) rfl rfl rfl rfl (by dsimp only [aput, List.set]) ?_
  refine w_op (a := .raw (.bool (decide (c > 31)))) rfl rfl rfl rfl (by dsimp only [aput, List.set]) ?_
  refine bif_e h (fun hc15 h => ?_) (fun hc15 h => ?_)
  ·
   refine w_op (a := .raw (.bool true)) rfl rfl rfl (op_q (q_bool rfl hc15)) (by dsimp only [aput, List.set]) ?_
   refine w_met rfl rfl ?_
   refine w_op (a := .raw (.int .u8 c)) rfl rfl rfl rfl (by dsimp only [aput, List.set]) ?_
   refine w_met rfl rfl ?_
   refine w_op (a := .raw (.bool (decide (c < 127)))) rfl rfl rfl rfl (by dsimp only [aput, List.set]) ?_
   refine w_op (a := .raw (.bool (decide (c < 127)))) rfl rfl rfl rfl (by dsimp only [aput, List.set]) ?_
   refine bif_e h (fun hc16 h => ?_) (fun hc16 h => ?_)
   ·
    refine w_op (a := .raw (.bool true)) rfl rfl rfl (op_q (q_bool rfl hc16)) (by dsimp only [aput, List.set]) ?_
    refine w_met rfl rfl ?_
    refine w_op (a := .raw (.int .u8 c)) rfl rfl rfl rfl (by dsimp only [aput, List.set]) ?_
    refine w_met rfl rfl ?_
    obtain ⟨g1, h⟩ := chk_e h
    refine w_op (a := .ptr 0 (0 + Int.toNat c * 1)) rfl rfl rfl (op_q (q_idxA g1 rfl rfl rfl rfl rfl)) (by dsimp only [aput, List.set]) ?_
    refine w_met rfl rfl ?_
    refine w_op (a := .raw (.int .i64 (rdA m c))) rfl rfl rfl (op_q (q_loadA m g1 rfl rfl rfl)) (by dsimp only [aput, List.set]) ?_
    refine w_met rfl rfl ?_
    refine w_op (a := .raw (.bool ((rdA m c) == 1))) rfl rfl rfl rfl (by dsimp only [aput, List.set]) ?_
    refine w_op (a := .raw (.bool ((rdA m c) == 1))) rfl rfl rfl rfl (by dsimp only [aput, List.set]) ?_
    refine w_op (a := .raw (.bool ((rdA m c) == 1))) rfl rfl rfl rfl (by dsimp only [aput, List.set]) ?_
    exact end_pureF (fun (r : Bool) => (.raw (.bool r) : AV)) h (a := .raw (.bool ((rdA m c) == 1))) rfl rfl rfl
   ·
    refine w_op (a := .raw (.bool false)) rfl rfl rfl (op_q (q_bool rfl hc16)) (by dsimp only [aput, List.set]) ?_
    refine w_pass rfl rfl (by decide) (by dsimp only [aput, List.set]) ?_
    refine w_pass rfl rfl (by decide) (by dsimp only [aput, List.set]) ?_
    refine w_pass rfl rfl (by decide) (by dsimp only [aput, List.set]) ?_
    refine w_pass rfl rfl (by decide) (by dsimp only [aput, List.set]) ?_
    refine w_op (a := .raw (.bool false)) rfl rfl rfl rfl (by dsimp only [aput, List.set]) ?_
    refine w_op (a := .raw (.bool false)) rfl rfl rfl rfl (by dsimp only [aput, List.set]) ?_
    exact end_pureF (fun (r : Bool) => (.raw (.bool r) : AV)) h (a := .raw (.bool false)) rfl rfl rfl
  ·
   refine w_op (a := .raw (.bool false)) rfl rfl rfl (op_q (q_bool rfl hc15)) (by dsimp only [aput, List.set]) ?_
   refine w_pass rfl rfl (by decide) (by dsimp only [aput, List.set]) ?_
   refine w_pass rfl rfl (by decide) (by dsimp only [aput, List.set]) ?_
   refine w_op (a := .raw (.bool false)) rfl rfl rfl rfl (by dsimp only [aput, List.set]) ?_
   refine w_op (a := .raw (.bool false)) rfl rfl rfl rfl (by dsimp only [aput, List.set]) ?_
   refine w_pass rfl rfl (by decide) (by dsimp only [aput, List.set]) ?_
   refine w_pass rfl rfl (by decide) (by dsimp only [aput, List.set]) ?_
   refine w_pass rfl rfl (by decide) (by dsimp only [aput, List.set]) ?_
   refine w_pass rfl rfl (by decide) (by dsimp only [aput, List.set]) ?_
   refine w_op (a := .raw (.bool false)) rfl rfl rfl rfl (by dsimp only [aput, List.set]) ?_
   refine w_op (a := .raw (.bool false)) rfl rfl rfl rfl (by dsimp only [aput, List.set]) ?_
   exact end_pureF (fun (r : Bool) => (.raw (.bool r) : AV)) h (a := .raw (.bool false)) rfl rfl rfl
def F_rbyte (c : Int) (m : RSet) : Option (List UInt8) :=
  (bif (c == 10) then (some ([92, 110] : List UInt8)) else (bif (c == 13) then (some ([92, 114] : List UInt8)) else (bif (c == 9) then (some ([92, 116] : List UInt8)) else (bif (decide (c < 32)) then (chk (-9223372036854775808 ≤ c ∧ c < 9223372036854775808) (bindE (F_rhex (IntKind.i64.wrap (Int.tdiv c 16)) false) (fun x1 => (chk (-9223372036854775808 ≤ c ∧ c < 9223372036854775808) (bindE (F_rhex (Int.tmod c 16) false) (fun x2 => (chk (0 ≤ x1 ∧ x1 < 256) (chk (0 ≤ x2 ∧ x2 < 256) (chk (List.length ([92, 120] : List UInt8) + List.length ([(u8of x1), (u8of x2)] : List UInt8) ≤ 9223372036854775807) (some (([92, 120] : List UInt8) ++ ([(u8of x1), (u8of x2)] : List UInt8)))))))))))) else (bif (decide (c > 126)) then (chk (-9223372036854775808 ≤ c ∧ c < 9223372036854775808) (bindE (F_rhex (IntKind.i64.wrap (Int.tdiv c 16)) false) (fun x3 => (chk (-9223372036854775808 ≤ c ∧ c < 9223372036854775808) (bindE (F_rhex (Int.tmod c 16) false) (fun x4 => (chk (0 ≤ x3 ∧ x3 < 256) (chk (0 ≤ x4 ∧ x4 < 256) (chk (List.length ([92, 120] : List UInt8) + List.length ([(u8of x3), (u8of x4)] : List UInt8) ≤ 9223372036854775807) (some (([92, 120] : List UInt8) ++ ([(u8of x3), (u8of x4)] : List UInt8)))))))))))) else (bindE (F_rmark m c) (fun x5 => (bif x5 then (chk (0 ≤ c ∧ c < 256) (chk (List.length ([92] : List UInt8) + List.length ([(u8of c)] : List UInt8) ≤ 9223372036854775807) (some (([92] : List UInt8) ++ ([(u8of c)] : List UInt8))))) else (bif (c == 92) then (chk (0 ≤ c ∧ c < 256) (chk (List.length ([92] : List UInt8) + List.length ([(u8of c)] : List UInt8) ≤ 9223372036854775807) (some (([92] : List UInt8) ++ ([(u8of c)] : List UInt8))))) else (chk (0 ≤ c ∧ c < 256) (some ([(u8of c)] : List UInt8))))))))))))
theorem ent99 : Ent Tryz.prog 99 := enters_of Tryz.func99 (by kernel_rfl) rfl
set_option maxRecDepth 100000 in
set_option maxHeartbeats 4000000 in
theorem rbyte_sh (c : Int) (m : RSet) (r : (List UInt8)) (h : F_rbyte c m = some r) : Pure (ITP Tryz.prog) Tryz.prog 99 [.raw (.int .u8 c), .agg (Enc.cells (m : RSet))] (.raw (.string (bs r))) := by
 obtain ⟨d, hd⟩ : ∃ d, Tryz.f99.body = some d := ⟨_, rfl⟩
 refine pure_of mix Tryz.func99 hd ent99 ?_
 cases hd
 unfold F_rbyte at h
 refine w_start (by dsimp only [abeginS, Tryz.f99, List.length_cons, List.length_nil, Nat.zero_add, Nat.reduceAdd, Nat.reduceSub, List.replicate, List.cons_append, List.nil_append]) (by dsimp only [St.empty]) ?_
 refine w_seq (w_region ?_)
 refine w_opm (a := .ptr 0 0) (σ'' := ⟨[(128, (Enc.cells (m : RSet)))], [], [], 0, false⟩) rfl rfl rfl rfl (by dsimp only [aput, List.set]) rfl ?_
 refine w_op (a := .raw (.string (bs ([] : List UInt8)))) rfl rfl rfl rfl (by dsimp only [aput, List.set]) ?_
 refine w_seq ?_
 refine w_seq (w_region ?_)
 refine w_op (a := .raw (.int .u8 c)) rfl rfl rfl rfl (by dsimp only [aput, List.set]) ?_
 refine w_op (a := .raw (.bool (c == 10))) rfl rfl rfl rfl (by dsimp only [aput, List.set]) ?_
 refine bif_e h (fun hc1 h => ?_) (fun hc1 h => ?_)
 ·
  refine w_condT hc1 rfl ?_
  refine w_seq (w_region ?_)
  refine w_op (a := .raw (.string (bs ([92, 110] : List UInt8)))) rfl rfl rfl rfl (by dsimp only [aput, List.set]) ?_
  exact end_pureF (fun (r : (List UInt8)) => (.raw (.string (bs r)) : AV)) h (a := .raw (.string (bs ([92, 110] : List UInt8)))) rfl rfl rfl
 ·
  refine w_condF hc1 rfl ?_
  refine w_seq ?_
  refine w_seq (w_region ?_)
  refine w_op (a := .raw (.int .u8 c)) rfl rfl rfl rfl (by dsimp only [aput, List.set]) ?_
  refine w_op (a := .raw (.bool (c == 13))) rfl rfl rfl rfl (by dsimp only [aput, List.set]) ?_
  refine bif_e h (fun hc2 h => ?_) (fun hc2 h => ?_)
  ·
   refine w_condT hc2 rfl ?_
   refine w_seq (w_region ?_)
   refine w_op (a := .raw (.string (bs ([92, 114] : List UInt8)))) rfl rfl rfl rfl (by dsimp only [aput, List.set]) ?_
   exact end_pureF (fun (r : (List UInt8)) => (.raw (.string (bs r)) : AV)) h (a := .raw (.string (bs ([92, 114] : List UInt8)))) rfl rfl rfl
  ·
   refine w_condF hc2 rfl ?_
   refine w_seq ?_
   refine w_seq (w_region ?_)
   refine w_op (a := .raw (.int .u8 c)) rfl rfl rfl rfl (by dsimp only [aput, List.set]) ?_
   refine w_op (a := .raw (.bool (c == 9))) rfl rfl rfl rfl (by dsimp only [aput, List.set]) ?_
   refine bif_e h (fun hc3 h => ?_) (fun hc3 h => ?_)
   ·
    refine w_condT hc3 rfl ?_
    refine w_seq (w_region ?_)
    refine w_op (a := .raw (.string (bs ([92, 116] : List UInt8)))) rfl rfl rfl rfl (by dsimp only [aput, List.set]) ?_
    exact end_pureF (fun (r : (List UInt8)) => (.raw (.string (bs r)) : AV)) h (a := .raw (.string (bs ([92, 116] : List UInt8)))) rfl rfl rfl
   ·
    refine w_condF hc3 rfl ?_
    refine w_seq ?_
    refine w_seq (w_region ?_)
    refine w_op (a := .raw (.int .u8 c)) rfl rfl rfl rfl (by dsimp only [aput, List.set]) ?_
    refine w_op (a := .raw (.bool (decide (c < 32)))) rfl rfl rfl rfl (by dsimp only [aput, List.set]) ?_
    refine bif_e h (fun hc4 h => ?_) (fun hc4 h => ?_)
    ·
     refine w_op (a := .raw (.bool true)) rfl rfl rfl (op_q (q_bool rfl hc4)) (by dsimp only [aput, List.set]) ?_
     refine w_pass rfl rfl (by decide) (by dsimp only [aput, List.set]) ?_
     refine w_pass rfl rfl (by decide) (by dsimp only [aput, List.set]) ?_
     refine w_op (a := .raw (.bool true)) rfl rfl rfl rfl (by dsimp only [aput, List.set]) ?_
     refine w_true rfl ?_
     refine w_seq (w_region ?_)
     refine w_op (a := .raw (.int .u8 c)) rfl rfl rfl rfl (by dsimp only [aput, List.set]) ?_
     obtain ⟨g1, h⟩ := chk_e h
     refine w_op (a := .raw (.int .i64 c)) rfl rfl rfl (op_q (q_conv64 g1 rfl rfl rfl)) (by dsimp only [aput, List.set]) ?_
     refine w_op (a := .raw (.int .i64 (IntKind.i64.wrap (Int.tdiv c 16)))) rfl rfl rfl rfl (by dsimp only [aput, List.set]) ?_
     obtain ⟨x1, hx1, h⟩ := bindE_e h
     refine w_callc (args' := [.raw (.int .i64 (IntKind.i64.wrap (Int.tdiv c 16))), .raw (.bool false)]) (r := .raw (.int .u8 x1)) (rhex_sh (IntKind.i64.wrap (Int.tdiv c 16)) false x1 hx1) rfl rfl (stripL_cons rfl (stripL_cons rfl rfl)) (okTrimL_cons rfl (okTrimL_cons rfl rfl)) (by dsimp only [aput, List.set]) ?_
     refine w_op (a := .raw (.int .u8 c)) rfl rfl rfl rfl (by dsimp only [aput, List.set]) ?_
     obtain ⟨g2, h⟩ := chk_e h
     refine w_op (a := .raw (.int .i64 c)) rfl rfl rfl (op_q (q_conv64 g2 rfl rfl rfl)) (by dsimp only [aput, List.set]) ?_
     refine w_op (a := .raw (.int .i64 (Int.tmod c 16))) rfl rfl rfl rfl (by dsimp only [aput, List.set]) ?_
     obtain ⟨x2, hx2, h⟩ := bindE_e h
     refine w_callc (args' := [.raw (.int .i64 (Int.tmod c 16)), .raw (.bool false)]) (r := .raw (.int .u8 x2)) (rhex_sh (Int.tmod c 16) false x2 hx2) rfl rfl (stripL_cons rfl (stripL_cons rfl rfl)) (okTrimL_cons rfl (okTrimL_cons rfl rfl)) (by dsimp only [aput, List.set]) ?_
     obtain ⟨g3, h⟩ := chk_e h
     obtain ⟨g4, h⟩ := chk_e h
     refine w_op (a := .list (List.length (([(u8of x1), (u8of x2)] : List UInt8) : List UInt8)) (Enc.cellsL (([(u8of x1), (u8of x2)] : List UInt8) : List UInt8)) .full) rfl rfl rfl (op_q (q_lit (α := UInt8) (l := ([(u8of x1), (u8of x2)] : List UInt8)) (cs := [.raw (.int .u8 x1), .raw (.int .u8 x2)]) rfl (by show List.map _ _ = _; simp only [List.map_cons, List.map_nil, u8c g3, u8c g4]))) (by dsimp only [aput, List.set]) ?_
     refine w_op (a := .raw (.string (bs ([(u8of x1), (u8of x2)] : List UInt8)))) rfl rfl rfl (op_q (q_bstr (l := ([(u8of x1), (u8of x2)] : List UInt8)) rfl rfl ⟨rfl, rfl⟩ rfl)) (by dsimp only [aput, List.set]) ?_
     obtain ⟨g5, h⟩ := chk_e h
     refine w_op (a := .raw (.string (bs (([92, 120] : List UInt8) ++ ([(u8of x1), (u8of x2)] : List UInt8))))) rfl rfl rfl (op_q (q_stradd g5 rfl rfl rfl)) (by dsimp only [aput, List.set]) ?_
     refine w_op (a := .raw (.string (bs (([92, 120] : List UInt8) ++ ([(u8of x1), (u8of x2)] : List UInt8))))) rfl rfl rfl rfl (by dsimp only [aput, List.set]) ?_
     exact end_pureF (fun (r : (List UInt8)) => (.raw (.string (bs r)) : AV)) h (a := .raw (.string (bs (([92, 120] : List UInt8) ++ ([(u8of x1), (u8of x2)] : List UInt8))))) rfl rfl rfl
    ·
     refine w_op (a := .raw (.bool false)) rfl rfl rfl (op_q (q_bool rfl hc4)) (by dsimp only [aput, List.set]) ?_
     refine w_met rfl rfl ?_
     refine w_op (a := .raw (.int .u8 c)) rfl rfl rfl rfl (by dsimp only [aput, List.set]) ?_
     refine w_met rfl rfl ?_
     refine w_op (a := .raw (.bool (decide (c > 126)))) rfl rfl rfl rfl (by dsimp only [aput, List.set]) ?_
     refine w_op (a := .raw (.bool (decide (c > 126)))) rfl rfl rfl rfl (by dsimp only [aput, List.set]) ?_
     refine bif_e h (fun hc5 h => ?_) (fun hc5 h => ?_)
     ·
      refine w_condT hc5 rfl ?_
      refine w_seq (w_region ?_)
      refine w_op (a := .raw (.int .u8 c)) rfl rfl rfl rfl (by dsimp only [aput, List.set]) ?_
      obtain ⟨g6, h⟩ := chk_e h
      refine w_op (a := .raw (.int .i64 c)) rfl rfl rfl (op_q (q_conv64 g6 rfl rfl rfl)) (by dsimp only [aput, List.set]) ?_
      refine w_op (a := .raw (.int .i64 (IntKind.i64.wrap (Int.tdiv c 16)))) rfl rfl rfl rfl (by dsimp only [aput, List.set]) ?_
      obtain ⟨x3, hx3, h⟩ := bindE_e h
      refine w_callc (args' := [.raw (.int .i64 (IntKind.i64.wrap (Int.tdiv c 16))), .raw (.bool false)]) (r := .raw (.int .u8 x3)) (rhex_sh (IntKind.i64.wrap (Int.tdiv c 16)) false x3 hx3) rfl rfl (stripL_cons rfl (stripL_cons rfl rfl)) (okTrimL_cons rfl (okTrimL_cons rfl rfl)) (by dsimp only [aput, List.set]) ?_
      refine w_op (a := .raw (.int .u8 c)) rfl rfl rfl rfl (by dsimp only [aput, List.set]) ?_
      obtain ⟨g7, h⟩ := chk_e h
      refine w_op (a := .raw (.int .i64 c)) rfl rfl rfl (op_q (q_conv64 g7 rfl rfl rfl)) (by dsimp only [aput, List.set]) ?_
      refine w_op (a := .raw (.int .i64 (Int.tmod c 16))) rfl rfl rfl rfl (by dsimp only [aput, List.set]) ?_
      obtain ⟨x4, hx4, h⟩ := bindE_e h
      refine w_callc (args' := [.raw (.int .i64 (Int.tmod c 16)), .raw (.bool false)]) (r := .raw (.int .u8 x4)) (rhex_sh (Int.tmod c 16) false x4 hx4) rfl rfl (stripL_cons rfl (stripL_cons rfl rfl)) (okTrimL_cons rfl (okTrimL_cons rfl rfl)) (by dsimp only [aput, List.set]) ?_
      obtain ⟨g8, h⟩ := chk_e h
      obtain ⟨g9, h⟩ := chk_e h
      refine w_op (a := .list (List.length (([(u8of x3), (u8of x4)] : List UInt8) : List UInt8)) (Enc.cellsL (([(u8of x3), (u8of x4)] : List UInt8) : List UInt8)) .full) rfl rfl rfl (op_q (q_lit (α := UInt8) (l := ([(u8of x3), (u8of x4)] : List UInt8)) (cs := [.raw (.int .u8 x3), .raw (.int .u8 x4)]) rfl (by show List.map _ _ = _; simp only [List.map_cons, List.map_nil, u8c g8, u8c g9]))) (by dsimp only [aput, List.set]) ?_
      refine w_op (a := .raw (.string (bs ([(u8of x3), (u8of x4)] : List UInt8)))) rfl rfl rfl (op_q (q_bstr (l := ([(u8of x3), (u8of x4)] : List UInt8)) rfl rfl ⟨rfl, rfl⟩ rfl)) (by dsimp only [aput, List.set]) ?_
      obtain ⟨g10, h⟩ := chk_e h
      refine w_op (a := .raw (.string (bs (([92, 120] : List UInt8) ++ ([(u8of x3), (u8of x4)] : List UInt8))))) rfl rfl rfl (op_q (q_stradd g10 rfl rfl rfl)) (by dsimp only [aput, List.set]) ?_
      refine w_op (a := .raw (.string (bs (([92, 120] : List UInt8) ++ ([(u8of x3), (u8of x4)] : List UInt8))))) rfl rfl rfl rfl (by dsimp only [aput, List.set]) ?_
      exact end_pureF (fun (r : (List UInt8)) => (.raw (.string (bs r)) : AV)) h (a := .raw (.string (bs (([92, 120] : List UInt8) ++ ([(u8of x3), (u8of x4)] : List UInt8))))) rfl rfl rfl
     ·
      refine w_condF hc5 rfl ?_
      refine w_seq ?_
      refine w_seq (w_region ?_)
      refine w_op (a := .agg (Enc.cells (m : RSet))) rfl rfl rfl (op_q (q_loadArr m (by decide) rfl rfl rfl)) (by dsimp only [aput, List.set]) ?_
      refine w_op (a := .raw (.int .u8 c)) rfl rfl rfl rfl (by dsimp only [aput, List.set]) ?_
      obtain ⟨x5, hx5, h⟩ := bindE_e h
      refine w_callc (args' := [.agg (Enc.cells (m : RSet)), .raw (.int .u8 c)]) (r := .raw (.bool x5)) (rmark_sh m c x5 hx5) rfl rfl (stripL_cons (strip_c (clo_agg (Enc.clo _))) (stripL_cons rfl rfl)) (okTrimL_cons (okTrim_clo _ _ (clo_agg (Enc.clo _))) (okTrimL_cons rfl rfl)) (by dsimp only [aput, List.set]) ?_
      refine bif_e h (fun hc6 h => ?_) (fun hc6 h => ?_)
      ·
       refine w_op (a := .raw (.bool true)) rfl rfl rfl (op_q (q_bool rfl hc6)) (by dsimp only [aput, List.set]) ?_
       refine w_pass rfl rfl (by decide) (by dsimp only [aput, List.set]) ?_
       refine w_pass rfl rfl (by decide) (by dsimp only [aput, List.set]) ?_
       refine w_op (a := .raw (.bool true)) rfl rfl rfl rfl (by dsimp only [aput, List.set]) ?_
       refine w_true rfl ?_
       refine w_seq (w_region ?_)
       refine w_op (a := .raw (.int .u8 c)) rfl rfl rfl rfl (by dsimp only [aput, List.set]) ?_
       obtain ⟨g11, h⟩ := chk_e h
       refine w_op (a := .list (List.length (([(u8of c)] : List UInt8) : List UInt8)) (Enc.cellsL (([(u8of c)] : List UInt8) : List UInt8)) .full) rfl rfl rfl (op_q (q_lit (α := UInt8) (l := ([(u8of c)] : List UInt8)) (cs := [.raw (.int .u8 c)]) rfl (by show List.map _ _ = _; simp only [List.map_cons, List.map_nil, u8c g11]))) (by dsimp only [aput, List.set]) ?_
       refine w_op (a := .raw (.string (bs ([(u8of c)] : List UInt8)))) rfl rfl rfl (op_q (q_bstr (l := ([(u8of c)] : List UInt8)) rfl rfl ⟨rfl, rfl⟩ rfl)) (by dsimp only [aput, List.set]) ?_
       obtain ⟨g12, h⟩ := chk_e h
       refine w_op (a := .raw (.string (bs (([92] : List UInt8) ++ ([(u8of c)] : List UInt8))))) rfl rfl rfl (op_q (q_stradd g12 rfl rfl rfl)) (by dsimp only [aput, List.set]) ?_
       refine w_op (a := .raw (.string (bs (([92] : List UInt8) ++ ([(u8of c)] : List UInt8))))) rfl rfl rfl rfl (by dsimp only [aput, List.set]) ?_
       exact end_pureF (fun (r : (List UInt8)) => (.raw (.string (bs r)) : AV)) h (a := .raw (.string (bs (([92] : List UInt8) ++ ([(u8of c)] : List UInt8))))) rfl rfl rfl
      ·
       refine w_op (a := .raw (.bool false)) rfl rfl rfl (op_q (q_bool rfl hc6)) (by dsimp only [aput, List.set]) ?_
       refine w_met rfl rfl ?_
       refine w_op (a := .raw (.int .u8 c)) rfl rfl rfl rfl (by dsimp only [aput, List.set]) ?_
       refine w_met rfl rfl ?_
       refine w_op (a := .raw (.bool (c == 92))) rfl rfl rfl rfl (by dsimp only [aput, List.set]) ?_
       refine w_op (a := .raw (.bool (c == 92))) rfl rfl rfl rfl (by dsimp only [aput, List.set]) ?_
       refine bif_e h (fun hc7 h => ?_) (fun hc7 h => ?_)
       ·
        refine w_condT hc7 rfl ?_
        refine w_seq (w_region ?_)
        refine w_op (a := .raw (.int .u8 c)) rfl rfl rfl rfl (by dsimp only [aput, List.set]) ?_
        obtain ⟨g13, h⟩ := chk_e h
        refine w_op (a := .list (List.length (([(u8of c)] : List UInt8) : List UInt8)) (Enc.cellsL (([(u8of c)] : List UInt8) : List UInt8)) .full) rfl rfl rfl (op_q (q_lit (α := UInt8) (l := ([(u8of c)] : List UInt8)) (cs := [.raw (.int .u8 c)]) rfl (by show List.map _ _ = _; simp only [List.map_cons, List.map_nil, u8c g13]))) (by dsimp only [aput, List.set]) ?_
        refine w_op (a := .raw (.string (bs ([(u8of c)] : List UInt8)))) rfl rfl rfl (op_q (q_bstr (l := ([(u8of c)] : List UInt8)) rfl rfl ⟨rfl, rfl⟩ rfl)) (by dsimp only [aput, List.set]) ?_
        obtain ⟨g14, h⟩ := chk_e h
        refine w_op (a := .raw (.string (bs (([92] : List UInt8) ++ ([(u8of c)] : List UInt8))))) rfl rfl rfl (op_q (q_stradd g14 rfl rfl rfl)) (by dsimp only [aput, List.set]) ?_
        refine w_op (a := .raw (.string (bs (([92] : List UInt8) ++ ([(u8of c)] : List UInt8))))) rfl rfl rfl rfl (by dsimp only [aput, List.set]) ?_
        exact end_pureF (fun (r : (List UInt8)) => (.raw (.string (bs r)) : AV)) h (a := .raw (.string (bs (([92] : List UInt8) ++ ([(u8of c)] : List UInt8))))) rfl rfl rfl
       ·
        refine w_condF hc7 rfl ?_
        refine w_seq (w_region ?_)
        refine w_op (a := .raw (.int .u8 c)) rfl rfl rfl rfl (by dsimp only [aput, List.set]) ?_
        obtain ⟨g15, h⟩ := chk_e h
        refine w_op (a := .list (List.length (([(u8of c)] : List UInt8) : List UInt8)) (Enc.cellsL (([(u8of c)] : List UInt8) : List UInt8)) .full) rfl rfl rfl (op_q (q_lit (α := UInt8) (l := ([(u8of c)] : List UInt8)) (cs := [.raw (.int .u8 c)]) rfl (by show List.map _ _ = _; simp only [List.map_cons, List.map_nil, u8c g15]))) (by dsimp only [aput, List.set]) ?_
        refine w_op (a := .raw (.string (bs ([(u8of c)] : List UInt8)))) rfl rfl rfl (op_q (q_bstr (l := ([(u8of c)] : List UInt8)) rfl rfl ⟨rfl, rfl⟩ rfl)) (by dsimp only [aput, List.set]) ?_
        refine w_op (a := .raw (.string (bs ([(u8of c)] : List UInt8)))) rfl rfl rfl rfl (by dsimp only [aput, List.set]) ?_
        exact end_pureF (fun (r : (List UInt8)) => (.raw (.string (bs r)) : AV)) h (a := .raw (.string (bs ([(u8of c)] : List UInt8)))) rfl rfl rfl
end Go.Ab

