/-
  reparteeref02: what is said of one byte: the walks.
-/
import Derived.Test.YtcdmdnadilafhaaGreatDoorZyRb
import Derived.Test.YtcdmdnadilafhaaGreatDoorZdQo
set_option linter.unusedSimpArgs false
set_option linter.unusedVariables false
namespace Go.Ab
open Go Go.RowKit Go.Fwd Go.Proofs
def F_rhex (n : Int) (up : Bool) : Option Int :=
  (bif up then (chk (0 ≤ n ∧ n < (List.length ([48, 49, 50, 51, 52, 53, 54, 55, 56, 57, 65, 66, 67, 68, 69, 70] : List UInt8) : Int)) (letE (ix ([48, 49, 50, 51, 52, 53, 54, 55, 56, 57, 65, 66, 67, 68, 69, 70] : List UInt8) n) (fun x1 => (some (((x1).toNat : Nat) : Int))))) else (chk (0 ≤ n ∧ n < (List.length ([48, 49, 50, 51, 52, 53, 54, 55, 56, 57, 97, 98, 99, 100, 101, 102] : List UInt8) : Int)) (letE (ix ([48, 49, 50, 51, 52, 53, 54, 55, 56, 57, 97, 98, 99, 100, 101, 102] : List UInt8) n) (fun x2 => (some (((x2).toNat : Nat) : Int))))))
theorem ent110 : Ent Tryz.prog 110 := enters_of Tryz.func110 (by kernel_rfl) rfl
set_option maxRecDepth 100000 in
set_option maxHeartbeats 4000000 in
theorem rhex_sh (n : Int) (up : Bool) (r : Int) (h : F_rhex n up = some r) : Pure (ITP Tryz.prog) Tryz.prog 110 [.raw (.int .i64 n), .raw (.bool up)] (.raw (.int .u8 r)) := by
 obtain ⟨d, hd⟩ : ∃ d, Tryz.f110.body = some d := ⟨_, rfl⟩
 refine pure_of mix Tryz.func110 hd ent110 ?_
 cases hd
 unfold F_rhex at h
 refine w_start (by dsimp only [abeginS, Tryz.f110, List.length_cons, List.length_nil, Nat.zero_add, Nat.reduceAdd, Nat.reduceSub, List.replicate, List.cons_append, List.nil_append]) (by dsimp only [St.empty]) ?_
 refine w_seq (w_region ?_)
 refine w_o (a := .raw (.int .u8 0)) ?_
 refine w_seq ?_
 refine w_seq (w_region ?_)
 refine w_o (a := .raw (.bool up)) ?_
 refine bif_e h (fun hc1 h => ?_) (fun hc1 h => ?_)
 refine w_condT hc1 rfl ?_
 refine w_seq (w_region ?_)
 refine w_o (a := .raw (.int .i64 n)) ?_
 obtain ⟨g1, h⟩ := chk_e h
 obtain ⟨x1, hx1, h⟩ := letE_e h
 refine w_o (a := .raw (.int .u8 (((x1).toNat : Nat) : Int))) (h := op_q (by rw [← hx1]; exact (q_sidx (l := ([48, 49, 50, 51, 52, 53, 54, 55, 56, 57, 65, 66, 67, 68, 69, 70] : List UInt8)) (n := n) g1 rfl rfl rfl rfl))) ?_
 refine w_o (a := .raw (.int .u8 (((x1).toNat : Nat) : Int))) ?_
 exact end_pureF (fun (r : Int) => (.raw (.int .u8 r) : AV)) h (a := .raw (.int .u8 (((x1).toNat : Nat) : Int))) rfl rfl rfl
 refine w_condF hc1 rfl ?_
 refine w_seq (w_region ?_)
 refine w_o (a := .raw (.int .i64 n)) ?_
 obtain ⟨g2, h⟩ := chk_e h
 obtain ⟨x2, hx2, h⟩ := letE_e h
 refine w_o (a := .raw (.int .u8 (((x2).toNat : Nat) : Int))) (h := op_q (by rw [← hx2]; exact (q_sidx (l := ([48, 49, 50, 51, 52, 53, 54, 55, 56, 57, 97, 98, 99, 100, 101, 102] : List UInt8)) (n := n) g2 rfl rfl rfl rfl))) ?_
 refine w_o (a := .raw (.int .u8 (((x2).toNat : Nat) : Int))) ?_
 exact end_pureF (fun (r : Int) => (.raw (.int .u8 r) : AV)) h (a := .raw (.int .u8 (((x2).toNat : Nat) : Int))) rfl rfl rfl
def F_rmark (m : RSet) (c : Int) : Option Bool :=
  (cutE (τ := Unit) (bif (decide (c ≥ 48)) then (bif (decide (c ≤ 57)) then (some (Sum.inr false)) else (bif (decide (c ≥ 65)) then (bif (decide (c ≤ 90)) then (some (Sum.inr false)) else (bif (decide (c ≥ 97)) then (bif (decide (c ≤ 122)) then (some (Sum.inr false)) else (some (Sum.inl ()))) else (some (Sum.inl ())))) else (bif (decide (c ≥ 97)) then (bif (decide (c ≤ 122)) then (some (Sum.inr false)) else (some (Sum.inl ()))) else (some (Sum.inl ()))))) else (bif (decide (c ≥ 65)) then (bif (decide (c ≤ 90)) then (some (Sum.inr false)) else (bif (decide (c ≥ 97)) then (bif (decide (c ≤ 122)) then (some (Sum.inr false)) else (some (Sum.inl ()))) else (some (Sum.inl ())))) else (bif (decide (c ≥ 97)) then (bif (decide (c ≤ 122)) then (some (Sum.inr false)) else (some (Sum.inl ()))) else (some (Sum.inl ()))))) (fun j1 => (bif (decide (c > 31)) then (bif (decide (c < 127)) then (chk (0 ≤ c ∧ c < 256) (some ((rdA m c) == 1))) else (some false)) else (some false))))
theorem ent109 : Ent Tryz.prog 109 := enters_of Tryz.func109 (by kernel_rfl) rfl
set_option maxRecDepth 100000 in
set_option maxHeartbeats 4000000 in
theorem rmark_sh (m : RSet) (c : Int) (r : Bool) (h : F_rmark m c = some r) : Pure (ITP Tryz.prog) Tryz.prog 109 [.agg (Enc.cells (m : RSet)), .raw (.int .u8 c)] (.raw (.bool r)) := by
 obtain ⟨d, hd⟩ : ∃ d, Tryz.f109.body = some d := ⟨_, rfl⟩
 refine pure_of mix Tryz.func109 hd ent109 ?_
 cases hd
 unfold F_rmark at h
 refine w_start (by dsimp only [abeginS, Tryz.f109, List.length_cons, List.length_nil, Nat.zero_add, Nat.reduceAdd, Nat.reduceSub, List.replicate, List.cons_append, List.nil_append]) (by dsimp only [St.empty]) ?_
 refine w_seq (w_region ?_)
 refine w_om (a := .ptr 0 0) (σ'' := ⟨[(128, (Enc.cells (m : RSet)))], [], [], 0, false⟩) ?_
 refine w_o (a := .raw (.bool false)) ?_
 refine w_cutF h [0, 3, 4, 5, 6, 7, 8, 9, 10, 11, 12, 13, 14, 15, 16, 17, 18, 19, 20, 21, 22, 23, 24, 25, 26, 27, 28, 29, 30, 31, 32, 33, 34, 35, 36, 37, 38] (fun j1 => []) (fun j1 => ⟨[(128, (Enc.cells (m : RSet)))], [], [], 0, false⟩) ?_ ?_
 intro or1 h hr1
 refine w_seq (w_region ?_)
 refine w_o (a := .raw (.int .u8 c)) ?_
 refine w_o (a := .raw (.bool (decide (c ≥ 48)))) ?_
 refine bif_e h (fun hc1 h => ?_) (fun hc1 h => ?_)
 refine w_o (a := .raw (.bool true)) (h := op_q (q_bool rfl hc1)) ?_
 refine w_met rfl rfl ?_
 refine w_o (a := .raw (.int .u8 c)) ?_
 refine w_met rfl rfl ?_
 refine w_o (a := .raw (.bool (decide (c ≤ 57)))) ?_
 refine w_o (a := .raw (.bool (decide (c ≤ 57)))) ?_
 refine bif_e h (fun hc2 h => ?_) (fun hc2 h => ?_)
 refine w_o (a := .raw (.bool true)) (h := op_q (q_bool rfl hc2)) ?_
 refine w_po ?_
 refine w_po ?_
 refine w_po ?_
 refine w_po ?_
 refine w_po ?_
 refine w_po ?_
 refine w_o (a := .raw (.bool true)) ?_
 refine w_o (a := .raw (.bool true)) ?_
 refine w_po ?_
 refine w_po ?_
 refine w_po ?_
 refine w_po ?_
 refine w_po ?_
 refine w_po ?_
 refine w_o (a := .raw (.bool true)) ?_
 refine w_true rfl ?_
 refine w_seq (w_region ?_)
 refine w_o (a := .raw (.bool false)) ?_
 replace h := cut_inr h hr1
 exact end_pureF (fun (r : Bool) => (.raw (.bool r) : AV)) h (a := .raw (.bool false)) rfl rfl rfl
 refine w_o (a := .raw (.bool false)) (h := op_q (q_bool rfl hc2)) ?_
 refine w_met rfl rfl ?_
 refine w_o (a := .raw (.int .u8 c)) ?_
 refine w_met rfl rfl ?_
 refine w_o (a := .raw (.bool (decide (c ≥ 65)))) ?_
 refine w_met rfl rfl ?_
 refine bif_e h (fun hc3 h => ?_) (fun hc3 h => ?_)
 refine w_o (a := .raw (.bool true)) (h := op_q (q_bool rfl hc3)) ?_
 refine w_met rfl rfl ?_
 refine w_o (a := .raw (.int .u8 c)) ?_
 refine w_met rfl rfl ?_
 refine w_o (a := .raw (.bool (decide (c ≤ 90)))) ?_
 refine w_met rfl rfl ?_
 refine w_o (a := .raw (.bool (decide (c ≤ 90)))) ?_
 refine w_o (a := .raw (.bool (decide (c ≤ 90)))) ?_
 refine bif_e h (fun hc4 h => ?_) (fun hc4 h => ?_)
 refine w_o (a := .raw (.bool true)) (h := op_q (q_bool rfl hc4)) ?_
 refine w_po ?_
 refine w_po ?_
 refine w_po ?_
 refine w_po ?_
 refine w_po ?_
 refine w_po ?_
 refine w_o (a := .raw (.bool true)) ?_
 refine w_true rfl ?_
 refine w_seq (w_region ?_)
 refine w_o (a := .raw (.bool false)) ?_
 replace h := cut_inr h hr1
 exact end_pureF (fun (r : Bool) => (.raw (.bool r) : AV)) h (a := .raw (.bool false)) rfl rfl rfl
 refine w_o (a := .raw (.bool false)) (h := op_q (q_bool rfl hc4)) ?_
 refine w_met rfl rfl ?_
 refine w_o (a := .raw (.int .u8 c)) ?_
 refine w_met rfl rfl ?_
 refine w_o (a := .raw (.bool (decide (c ≥ 97)))) ?_
 refine w_met rfl rfl ?_
 refine bif_e h (fun hc5 h => ?_) (fun hc5 h => ?_)
 refine w_o (a := .raw (.bool true)) (h := op_q (q_bool rfl hc5)) ?_
 refine w_met rfl rfl ?_
 refine w_o (a := .raw (.int .u8 c)) ?_
 refine w_met rfl rfl ?_
 refine w_o (a := .raw (.bool (decide (c ≤ 122)))) ?_
 refine w_met rfl rfl ?_
 refine w_o (a := .raw (.bool (decide (c ≤ 122)))) ?_
 refine w_o (a := .raw (.bool (decide (c ≤ 122)))) ?_
 refine bif_e h (fun hc6 h => ?_) (fun hc6 h => ?_)
 refine w_condT hc6 rfl ?_
 refine w_seq (w_region ?_)
 refine w_o (a := .raw (.bool false)) ?_
 replace h := cut_inr h hr1
 exact end_pureF (fun (r : Bool) => (.raw (.bool r) : AV)) h (a := .raw (.bool false)) rfl rfl rfl
 refine w_condF hc6 rfl ?_
 refine cut_done (o := or1) () h ?_
 exact wm_of (bl 39 6) (by kernel_rfl) (by kernel_rfl)
 refine w_o (a := .raw (.bool false)) (h := op_q (q_bool rfl hc5)) ?_
 refine w_po ?_
 refine w_po ?_
 refine w_met rfl rfl ?_
 refine w_o (a := .raw (.bool false)) ?_
 refine w_o (a := .raw (.bool false)) ?_
 refine w_false rfl ?_
 refine cut_done (o := or1) () h ?_
 exact wm_of (bl 39 6) (by kernel_rfl) (by kernel_rfl)
 refine w_o (a := .raw (.bool false)) (h := op_q (q_bool rfl hc3)) ?_
 refine w_po ?_
 refine w_po ?_
 refine w_met rfl rfl ?_
 refine w_o (a := .raw (.bool false)) ?_
 refine w_o (a := .raw (.bool false)) ?_
 refine w_o (a := .raw (.bool false)) ?_
 refine w_met rfl rfl ?_
 refine w_o (a := .raw (.int .u8 c)) ?_
 refine w_met rfl rfl ?_
 refine w_o (a := .raw (.bool (decide (c ≥ 97)))) ?_
 refine w_met rfl rfl ?_
 refine bif_e h (fun hc7 h => ?_) (fun hc7 h => ?_)
 refine w_o (a := .raw (.bool true)) (h := op_q (q_bool rfl hc7)) ?_
 refine w_met rfl rfl ?_
 refine w_o (a := .raw (.int .u8 c)) ?_
 refine w_met rfl rfl ?_
 refine w_o (a := .raw (.bool (decide (c ≤ 122)))) ?_
 refine w_met rfl rfl ?_
 refine w_o (a := .raw (.bool (decide (c ≤ 122)))) ?_
 refine w_o (a := .raw (.bool (decide (c ≤ 122)))) ?_
 refine bif_e h (fun hc8 h => ?_) (fun hc8 h => ?_)
 refine w_condT hc8 rfl ?_
 refine w_seq (w_region ?_)
 refine w_o (a := .raw (.bool false)) ?_
 replace h := cut_inr h hr1
 exact end_pureF (fun (r : Bool) => (.raw (.bool r) : AV)) h (a := .raw (.bool false)) rfl rfl rfl
 refine w_condF hc8 rfl ?_
 refine cut_done (o := or1) () h ?_
 exact wm_of (bl 39 6) (by kernel_rfl) (by kernel_rfl)
 refine w_o (a := .raw (.bool false)) (h := op_q (q_bool rfl hc7)) ?_
 refine w_po ?_
 refine w_po ?_
 refine w_met rfl rfl ?_
 refine w_o (a := .raw (.bool false)) ?_
 refine w_o (a := .raw (.bool false)) ?_
 refine w_false rfl ?_
 refine cut_done (o := or1) () h ?_
 exact wm_of (bl 39 6) (by kernel_rfl) (by kernel_rfl)
 refine w_o (a := .raw (.bool false)) (h := op_q (q_bool rfl hc1)) ?_
 refine w_po ?_
 refine w_po ?_
 refine w_o (a := .raw (.bool false)) ?_
 refine w_o (a := .raw (.bool false)) ?_
 refine w_met rfl rfl ?_
 refine w_o (a := .raw (.int .u8 c)) ?_
 refine w_met rfl rfl ?_
 refine w_o (a := .raw (.bool (decide (c ≥ 65)))) ?_
 refine w_met rfl rfl ?_
 refine bif_e h (fun hc9 h => ?_) (fun hc9 h => ?_)
 refine w_o (a := .raw (.bool true)) (h := op_q (q_bool rfl hc9)) ?_
 refine w_met rfl rfl ?_
 refine w_o (a := .raw (.int .u8 c)) ?_
 refine w_met rfl rfl ?_
 refine w_o (a := .raw (.bool (decide (c ≤ 90)))) ?_
 refine w_met rfl rfl ?_
 refine w_o (a := .raw (.bool (decide (c ≤ 90)))) ?_
 refine w_o (a := .raw (.bool (decide (c ≤ 90)))) ?_
 refine bif_e h (fun hc10 h => ?_) (fun hc10 h => ?_)
 refine w_o (a := .raw (.bool true)) (h := op_q (q_bool rfl hc10)) ?_
 refine w_po ?_
 refine w_po ?_
 refine w_po ?_
 refine w_po ?_
 refine w_po ?_
 refine w_po ?_
 refine w_o (a := .raw (.bool true)) ?_
 refine w_true rfl ?_
 refine w_seq (w_region ?_)
 refine w_o (a := .raw (.bool false)) ?_
 replace h := cut_inr h hr1
 exact end_pureF (fun (r : Bool) => (.raw (.bool r) : AV)) h (a := .raw (.bool false)) rfl rfl rfl
 refine w_o (a := .raw (.bool false)) (h := op_q (q_bool rfl hc10)) ?_
 refine w_met rfl rfl ?_
 refine w_o (a := .raw (.int .u8 c)) ?_
 refine w_met rfl rfl ?_
 refine w_o (a := .raw (.bool (decide (c ≥ 97)))) ?_
 refine w_met rfl rfl ?_
 refine bif_e h (fun hc11 h => ?_) (fun hc11 h => ?_)
 refine w_o (a := .raw (.bool true)) (h := op_q (q_bool rfl hc11)) ?_
 refine w_met rfl rfl ?_
 refine w_o (a := .raw (.int .u8 c)) ?_
 refine w_met rfl rfl ?_
 refine w_o (a := .raw (.bool (decide (c ≤ 122)))) ?_
 refine w_met rfl rfl ?_
 refine w_o (a := .raw (.bool (decide (c ≤ 122)))) ?_
 refine w_o (a := .raw (.bool (decide (c ≤ 122)))) ?_
 refine bif_e h (fun hc12 h => ?_) (fun hc12 h => ?_)
 refine w_condT hc12 rfl ?_
 refine w_seq (w_region ?_)
 refine w_o (a := .raw (.bool false)) ?_
 replace h := cut_inr h hr1
 exact end_pureF (fun (r : Bool) => (.raw (.bool r) : AV)) h (a := .raw (.bool false)) rfl rfl rfl
 refine w_condF hc12 rfl ?_
 refine cut_done (o := or1) () h ?_
 exact wm_of (bl 39 6) (by kernel_rfl) (by kernel_rfl)
 refine w_o (a := .raw (.bool false)) (h := op_q (q_bool rfl hc11)) ?_
 refine w_po ?_
 refine w_po ?_
 refine w_met rfl rfl ?_
 refine w_o (a := .raw (.bool false)) ?_
 refine w_o (a := .raw (.bool false)) ?_
 refine w_false rfl ?_
 refine cut_done (o := or1) () h ?_
 exact wm_of (bl 39 6) (by kernel_rfl) (by kernel_rfl)
 refine w_o (a := .raw (.bool false)) (h := op_q (q_bool rfl hc9)) ?_
 refine w_po ?_
 refine w_po ?_
 refine w_met rfl rfl ?_
 refine w_o (a := .raw (.bool false)) ?_
 refine w_o (a := .raw (.bool false)) ?_
 refine w_o (a := .raw (.bool false)) ?_
 refine w_met rfl rfl ?_
 refine w_o (a := .raw (.int .u8 c)) ?_
 refine w_met rfl rfl ?_
 refine w_o (a := .raw (.bool (decide (c ≥ 97)))) ?_
 refine w_met rfl rfl ?_
 refine bif_e h (fun hc13 h => ?_) (fun hc13 h => ?_)
 refine w_o (a := .raw (.bool true)) (h := op_q (q_bool rfl hc13)) ?_
 refine w_met rfl rfl ?_
 refine w_o (a := .raw (.int .u8 c)) ?_
 refine w_met rfl rfl ?_
 refine w_o (a := .raw (.bool (decide (c ≤ 122)))) ?_
 refine w_met rfl rfl ?_
 refine w_o (a := .raw (.bool (decide (c ≤ 122)))) ?_
 refine w_o (a := .raw (.bool (decide (c ≤ 122)))) ?_
 refine bif_e h (fun hc14 h => ?_) (fun hc14 h => ?_)
 refine w_condT hc14 rfl ?_
 refine w_seq (w_region ?_)
 refine w_o (a := .raw (.bool false)) ?_
 replace h := cut_inr h hr1
 exact end_pureF (fun (r : Bool) => (.raw (.bool r) : AV)) h (a := .raw (.bool false)) rfl rfl rfl
 refine w_condF hc14 rfl ?_
 refine cut_done (o := or1) () h ?_
 exact wm_of (bl 39 6) (by kernel_rfl) (by kernel_rfl)
 refine w_o (a := .raw (.bool false)) (h := op_q (q_bool rfl hc13)) ?_
 refine w_po ?_
 refine w_po ?_
 refine w_met rfl rfl ?_
 refine w_o (a := .raw (.bool false)) ?_
 refine w_o (a := .raw (.bool false)) ?_
 refine w_false rfl ?_
 refine cut_done (o := or1) () h ?_
 exact wm_of (bl 39 6) (by kernel_rfl) (by kernel_rfl)
 intro j1 h
 refine w_start (by dsimp only [setAll, topAll, List.foldl, List.set]) rfl ?_
 refine w_seq (w_region ?_)
 refine w_o (a := .raw (.int .u8 c)) ?_
 refine w_o (a := .raw (.bool (decide (c > 31)))) ?_
 refine bif_e h (fun hc15 h => ?_) (fun hc15 h => ?_)
 refine w_o (a := .raw (.bool true)) (h := op_q (q_bool rfl hc15)) ?_
 refine w_met rfl rfl ?_
 refine w_o (a := .raw (.int .u8 c)) ?_
 refine w_met rfl rfl ?_
 refine w_o (a := .raw (.bool (decide (c < 127)))) ?_
 refine w_o (a := .raw (.bool (decide (c < 127)))) ?_
 refine bif_e h (fun hc16 h => ?_) (fun hc16 h => ?_)
 refine w_o (a := .raw (.bool true)) (h := op_q (q_bool rfl hc16)) ?_
 refine w_met rfl rfl ?_
 refine w_o (a := .raw (.int .u8 c)) ?_
 refine w_met rfl rfl ?_
 obtain ⟨g1, h⟩ := chk_e h
 refine w_o (a := .ptr 0 (0 + Int.toNat c * 1)) (h := op_q (q_idxA g1 rfl rfl rfl rfl rfl)) ?_
 refine w_met rfl rfl ?_
 refine w_o (a := .raw (.int .i64 (rdA m c))) (h := op_q (q_loadA m g1 rfl rfl rfl)) ?_
 refine w_met rfl rfl ?_
 refine w_o (a := .raw (.bool ((rdA m c) == 1))) ?_
 refine w_o (a := .raw (.bool ((rdA m c) == 1))) ?_
 refine w_o (a := .raw (.bool ((rdA m c) == 1))) ?_
 exact end_pureF (fun (r : Bool) => (.raw (.bool r) : AV)) h (a := .raw (.bool ((rdA m c) == 1))) rfl rfl rfl
 refine w_o (a := .raw (.bool false)) (h := op_q (q_bool rfl hc16)) ?_
 refine w_po ?_
 refine w_po ?_
 refine w_po ?_
 refine w_po ?_
 refine w_o (a := .raw (.bool false)) ?_
 refine w_o (a := .raw (.bool false)) ?_
 exact end_pureF (fun (r : Bool) => (.raw (.bool r) : AV)) h (a := .raw (.bool false)) rfl rfl rfl
 refine w_o (a := .raw (.bool false)) (h := op_q (q_bool rfl hc15)) ?_
 refine w_po ?_
 refine w_po ?_
 refine w_o (a := .raw (.bool false)) ?_
 refine w_o (a := .raw (.bool false)) ?_
 refine w_po ?_
 refine w_po ?_
 refine w_po ?_
 refine w_po ?_
 refine w_o (a := .raw (.bool false)) ?_
 refine w_o (a := .raw (.bool false)) ?_
 exact end_pureF (fun (r : Bool) => (.raw (.bool r) : AV)) h (a := .raw (.bool false)) rfl rfl rfl
def F_rbyte (c : Int) (m : RSet) : Option (List UInt8) :=
  (bif (c == 10) then (some ([92, 110] : List UInt8)) else (bif (c == 13) then (some ([92, 114] : List UInt8)) else (bif (c == 9) then (some ([92, 116] : List UInt8)) else (bif (decide (c < 32)) then (chk (-9223372036854775808 ≤ c ∧ c < 9223372036854775808) (bindE (F_rhex (IntKind.i64.wrap (Int.tdiv c 16)) false) (fun x1 => (chk (-9223372036854775808 ≤ c ∧ c < 9223372036854775808) (bindE (F_rhex (Int.tmod c 16) false) (fun x2 => (chk (0 ≤ x1 ∧ x1 < 256) (chk (0 ≤ x2 ∧ x2 < 256) (chk (List.length ([92, 120] : List UInt8) + List.length ([(u8of x1), (u8of x2)] : List UInt8) ≤ 9223372036854775807) (some (([92, 120] : List UInt8) ++ ([(u8of x1), (u8of x2)] : List UInt8)))))))))))) else (bif (decide (c > 126)) then (chk (-9223372036854775808 ≤ c ∧ c < 9223372036854775808) (bindE (F_rhex (IntKind.i64.wrap (Int.tdiv c 16)) false) (fun x3 => (chk (-9223372036854775808 ≤ c ∧ c < 9223372036854775808) (bindE (F_rhex (Int.tmod c 16) false) (fun x4 => (chk (0 ≤ x3 ∧ x3 < 256) (chk (0 ≤ x4 ∧ x4 < 256) (chk (List.length ([92, 120] : List UInt8) + List.length ([(u8of x3), (u8of x4)] : List UInt8) ≤ 9223372036854775807) (some (([92, 120] : List UInt8) ++ ([(u8of x3), (u8of x4)] : List UInt8)))))))))))) else (bindE (F_rmark m c) (fun x5 => (bif x5 then (chk (0 ≤ c ∧ c < 256) (chk (List.length ([92] : List UInt8) + List.length ([(u8of c)] : List UInt8) ≤ 9223372036854775807) (some (([92] : List UInt8) ++ ([(u8of c)] : List UInt8))))) else (bif (c == 92) then (chk (0 ≤ c ∧ c < 256) (chk (List.length ([92] : List UInt8) + List.length ([(u8of c)] : List UInt8) ≤ 9223372036854775807) (some (([92] : List UInt8) ++ ([(u8of c)] : List UInt8))))) else (chk (0 ≤ c ∧ c < 256) (some ([(u8of c)] : List UInt8))))))))))))
theorem ent99 : Ent Tryz.prog 99 := enters_of Tryz.func99 (by kernel_rfl) rfl
set_option maxRecDepth 100000 in
set_option maxHeartbeats 4000000 in
theorem rbyte_sh (c : Int) (m : RSet) (r : (List UInt8)) (h : F_rbyte c m = some r) : Pure (ITP Tryz.prog) Tryz.prog 99 [.raw (.int .u8 c), .agg (Enc.cells (m : RSet))] (.raw (.string (bs r))) := by
 obtain ⟨d, hd⟩ : ∃ d, Tryz.f99.body = some d := ⟨_, rfl⟩
 refine pure_of mix Tryz.func99 hd ent99 ?_
 cases hd
 unfold F_rbyte at h
 refine w_start (by dsimp only [abeginS, Tryz.f99, List.length_cons, List.length_nil, Nat.zero_add, Nat.reduceAdd, Nat.reduceSub, List.replicate, List.cons_append, List.nil_append]) (by dsimp only [St.empty]) ?_
 refine w_seq (w_region ?_)
 refine w_om (a := .ptr 0 0) (σ'' := ⟨[(128, (Enc.cells (m : RSet)))], [], [], 0, false⟩) ?_
 refine w_o (a := .raw (.string (bs ([] : List UInt8)))) ?_
 refine w_seq ?_
 refine w_seq (w_region ?_)
 refine w_o (a := .raw (.int .u8 c)) ?_
 refine w_o (a := .raw (.bool (c == 10))) ?_
 refine bif_e h (fun hc1 h => ?_) (fun hc1 h => ?_)
 refine w_condT hc1 rfl ?_
 refine w_seq (w_region ?_)
 refine w_o (a := .raw (.string (bs ([92, 110] : List UInt8)))) ?_
 exact end_pureF (fun (r : (List UInt8)) => (.raw (.string (bs r)) : AV)) h (a := .raw (.string (bs ([92, 110] : List UInt8)))) rfl rfl rfl
 refine w_condF hc1 rfl ?_
 refine w_seq ?_
 refine w_seq (w_region ?_)
 refine w_o (a := .raw (.int .u8 c)) ?_
 refine w_o (a := .raw (.bool (c == 13))) ?_
 refine bif_e h (fun hc2 h => ?_) (fun hc2 h => ?_)
 refine w_condT hc2 rfl ?_
 refine w_seq (w_region ?_)
 refine w_o (a := .raw (.string (bs ([92, 114] : List UInt8)))) ?_
 exact end_pureF (fun (r : (List UInt8)) => (.raw (.string (bs r)) : AV)) h (a := .raw (.string (bs ([92, 114] : List UInt8)))) rfl rfl rfl
 refine w_condF hc2 rfl ?_
 refine w_seq ?_
 refine w_seq (w_region ?_)
 refine w_o (a := .raw (.int .u8 c)) ?_
 refine w_o (a := .raw (.bool (c == 9))) ?_
 refine bif_e h (fun hc3 h => ?_) (fun hc3 h => ?_)
 refine w_condT hc3 rfl ?_
 refine w_seq (w_region ?_)
 refine w_o (a := .raw (.string (bs ([92, 116] : List UInt8)))) ?_
 exact end_pureF (fun (r : (List UInt8)) => (.raw (.string (bs r)) : AV)) h (a := .raw (.string (bs ([92, 116] : List UInt8)))) rfl rfl rfl
 refine w_condF hc3 rfl ?_
 refine w_seq ?_
 refine w_seq (w_region ?_)
 refine w_o (a := .raw (.int .u8 c)) ?_
 refine w_o (a := .raw (.bool (decide (c < 32)))) ?_
 refine bif_e h (fun hc4 h => ?_) (fun hc4 h => ?_)
 refine w_o (a := .raw (.bool true)) (h := op_q (q_bool rfl hc4)) ?_
 refine w_po ?_
 refine w_po ?_
 refine w_o (a := .raw (.bool true)) ?_
 refine w_true rfl ?_
 refine w_seq (w_region ?_)
 refine w_o (a := .raw (.int .u8 c)) ?_
 obtain ⟨g1, h⟩ := chk_e h
 refine w_o (a := .raw (.int .i64 c)) (h := op_q (q_conv64 g1 rfl rfl rfl)) ?_
 refine w_o (a := .raw (.int .i64 (IntKind.i64.wrap (Int.tdiv c 16)))) ?_
 obtain ⟨x1, hx1, h⟩ := bindE_e h
 refine w_callc (args' := [.raw (.int .i64 (IntKind.i64.wrap (Int.tdiv c 16))), .raw (.bool false)]) (r := .raw (.int .u8 x1)) (rhex_sh (IntKind.i64.wrap (Int.tdiv c 16)) false x1 hx1) rfl rfl (stripL_cons rfl (stripL_cons rfl rfl)) (by kernel_rfl) (by dsimp only [aput, List.set]) ?_
 refine w_o (a := .raw (.int .u8 c)) ?_
 obtain ⟨g2, h⟩ := chk_e h
 refine w_o (a := .raw (.int .i64 c)) (h := op_q (q_conv64 g2 rfl rfl rfl)) ?_
 refine w_o (a := .raw (.int .i64 (Int.tmod c 16))) ?_
 obtain ⟨x2, hx2, h⟩ := bindE_e h
 refine w_callc (args' := [.raw (.int .i64 (Int.tmod c 16)), .raw (.bool false)]) (r := .raw (.int .u8 x2)) (rhex_sh (Int.tmod c 16) false x2 hx2) rfl rfl (stripL_cons rfl (stripL_cons rfl rfl)) (by kernel_rfl) (by dsimp only [aput, List.set]) ?_
 obtain ⟨g3, h⟩ := chk_e h
 obtain ⟨g4, h⟩ := chk_e h
 refine w_o (a := .list (List.length (([(u8of x1), (u8of x2)] : List UInt8) : List UInt8)) (Enc.cellsL (([(u8of x1), (u8of x2)] : List UInt8) : List UInt8)) .full) (h := op_q (q_lit (α := UInt8) (l := ([(u8of x1), (u8of x2)] : List UInt8)) (cs := [.raw (.int .u8 x1), .raw (.int .u8 x2)]) rfl (by show List.map _ _ = _; simp only [List.map_cons, List.map_nil, u8c g3, u8c g4]))) ?_
 refine w_o (a := .raw (.string (bs ([(u8of x1), (u8of x2)] : List UInt8)))) (h := op_q (q_bstr (l := ([(u8of x1), (u8of x2)] : List UInt8)) rfl rfl ⟨rfl, rfl⟩ rfl)) ?_
 obtain ⟨g5, h⟩ := chk_e h
 refine w_o (a := .raw (.string (bs (([92, 120] : List UInt8) ++ ([(u8of x1), (u8of x2)] : List UInt8))))) (h := op_q (q_stradd g5 rfl rfl rfl)) ?_
 refine w_o (a := .raw (.string (bs (([92, 120] : List UInt8) ++ ([(u8of x1), (u8of x2)] : List UInt8))))) ?_
 exact end_pureF (fun (r : (List UInt8)) => (.raw (.string (bs r)) : AV)) h (a := .raw (.string (bs (([92, 120] : List UInt8) ++ ([(u8of x1), (u8of x2)] : List UInt8))))) rfl rfl rfl
 refine w_o (a := .raw (.bool false)) (h := op_q (q_bool rfl hc4)) ?_
 refine w_met rfl rfl ?_
 refine w_o (a := .raw (.int .u8 c)) ?_
 refine w_met rfl rfl ?_
 refine w_o (a := .raw (.bool (decide (c > 126)))) ?_
 refine w_o (a := .raw (.bool (decide (c > 126)))) ?_
 refine bif_e h (fun hc5 h => ?_) (fun hc5 h => ?_)
 refine w_condT hc5 rfl ?_
 refine w_seq (w_region ?_)
 refine w_o (a := .raw (.int .u8 c)) ?_
 obtain ⟨g6, h⟩ := chk_e h
 refine w_o (a := .raw (.int .i64 c)) (h := op_q (q_conv64 g6 rfl rfl rfl)) ?_
 refine w_o (a := .raw (.int .i64 (IntKind.i64.wrap (Int.tdiv c 16)))) ?_
 obtain ⟨x3, hx3, h⟩ := bindE_e h
 refine w_callc (args' := [.raw (.int .i64 (IntKind.i64.wrap (Int.tdiv c 16))), .raw (.bool false)]) (r := .raw (.int .u8 x3)) (rhex_sh (IntKind.i64.wrap (Int.tdiv c 16)) false x3 hx3) rfl rfl (stripL_cons rfl (stripL_cons rfl rfl)) (by kernel_rfl) (by dsimp only [aput, List.set]) ?_
 refine w_o (a := .raw (.int .u8 c)) ?_
 obtain ⟨g7, h⟩ := chk_e h
 refine w_o (a := .raw (.int .i64 c)) (h := op_q (q_conv64 g7 rfl rfl rfl)) ?_
 refine w_o (a := .raw (.int .i64 (Int.tmod c 16))) ?_
 obtain ⟨x4, hx4, h⟩ := bindE_e h
 refine w_callc (args' := [.raw (.int .i64 (Int.tmod c 16)), .raw (.bool false)]) (r := .raw (.int .u8 x4)) (rhex_sh (Int.tmod c 16) false x4 hx4) rfl rfl (stripL_cons rfl (stripL_cons rfl rfl)) (by kernel_rfl) (by dsimp only [aput, List.set]) ?_
 obtain ⟨g8, h⟩ := chk_e h
 obtain ⟨g9, h⟩ := chk_e h
 refine w_o (a := .list (List.length (([(u8of x3), (u8of x4)] : List UInt8) : List UInt8)) (Enc.cellsL (([(u8of x3), (u8of x4)] : List UInt8) : List UInt8)) .full) (h := op_q (q_lit (α := UInt8) (l := ([(u8of x3), (u8of x4)] : List UInt8)) (cs := [.raw (.int .u8 x3), .raw (.int .u8 x4)]) rfl (by show List.map _ _ = _; simp only [List.map_cons, List.map_nil, u8c g8, u8c g9]))) ?_
 refine w_o (a := .raw (.string (bs ([(u8of x3), (u8of x4)] : List UInt8)))) (h := op_q (q_bstr (l := ([(u8of x3), (u8of x4)] : List UInt8)) rfl rfl ⟨rfl, rfl⟩ rfl)) ?_
 obtain ⟨g10, h⟩ := chk_e h
 refine w_o (a := .raw (.string (bs (([92, 120] : List UInt8) ++ ([(u8of x3), (u8of x4)] : List UInt8))))) (h := op_q (q_stradd g10 rfl rfl rfl)) ?_
 refine w_o (a := .raw (.string (bs (([92, 120] : List UInt8) ++ ([(u8of x3), (u8of x4)] : List UInt8))))) ?_
 exact end_pureF (fun (r : (List UInt8)) => (.raw (.string (bs r)) : AV)) h (a := .raw (.string (bs (([92, 120] : List UInt8) ++ ([(u8of x3), (u8of x4)] : List UInt8))))) rfl rfl rfl
 refine w_condF hc5 rfl ?_
 refine w_seq ?_
 refine w_seq (w_region ?_)
 refine w_o (a := .agg (Enc.cells (m : RSet))) (h := op_q (q_loadArr m (by decide) rfl rfl rfl)) ?_
 refine w_o (a := .raw (.int .u8 c)) ?_
 obtain ⟨x5, hx5, h⟩ := bindE_e h
 refine w_callc (args' := [.agg (Enc.cells (m : RSet)), .raw (.int .u8 c)]) (r := .raw (.bool x5)) (rmark_sh m c x5 hx5) rfl rfl (stripL_cons (strip_c (clo_agg (Enc.clo _))) (stripL_cons rfl rfl)) (okTrimL_cons (okTrim_clo _ _ (clo_agg (Enc.clo _))) (by kernel_rfl)) (by dsimp only [aput, List.set]) ?_
 refine bif_e h (fun hc6 h => ?_) (fun hc6 h => ?_)
 refine w_o (a := .raw (.bool true)) (h := op_q (q_bool rfl hc6)) ?_
 refine w_po ?_
 refine w_po ?_
 refine w_o (a := .raw (.bool true)) ?_
 refine w_true rfl ?_
 refine w_seq (w_region ?_)
 refine w_o (a := .raw (.int .u8 c)) ?_
 obtain ⟨g11, h⟩ := chk_e h
 refine w_o (a := .list (List.length (([(u8of c)] : List UInt8) : List UInt8)) (Enc.cellsL (([(u8of c)] : List UInt8) : List UInt8)) .full) (h := op_q (q_lit (α := UInt8) (l := ([(u8of c)] : List UInt8)) (cs := [.raw (.int .u8 c)]) rfl (by show List.map _ _ = _; simp only [List.map_cons, List.map_nil, u8c g11]))) ?_
 refine w_o (a := .raw (.string (bs ([(u8of c)] : List UInt8)))) (h := op_q (q_bstr (l := ([(u8of c)] : List UInt8)) rfl rfl ⟨rfl, rfl⟩ rfl)) ?_
 obtain ⟨g12, h⟩ := chk_e h
 refine w_o (a := .raw (.string (bs (([92] : List UInt8) ++ ([(u8of c)] : List UInt8))))) (h := op_q (q_stradd g12 rfl rfl rfl)) ?_
 refine w_o (a := .raw (.string (bs (([92] : List UInt8) ++ ([(u8of c)] : List UInt8))))) ?_
 exact end_pureF (fun (r : (List UInt8)) => (.raw (.string (bs r)) : AV)) h (a := .raw (.string (bs (([92] : List UInt8) ++ ([(u8of c)] : List UInt8))))) rfl rfl rfl
 refine w_o (a := .raw (.bool false)) (h := op_q (q_bool rfl hc6)) ?_
 refine w_met rfl rfl ?_
 refine w_o (a := .raw (.int .u8 c)) ?_
 refine w_met rfl rfl ?_
 refine w_o (a := .raw (.bool (c == 92))) ?_
 refine w_o (a := .raw (.bool (c == 92))) ?_
 refine bif_e h (fun hc7 h => ?_) (fun hc7 h => ?_)
 refine w_condT hc7 rfl ?_
 refine w_seq (w_region ?_)
 refine w_o (a := .raw (.int .u8 c)) ?_
 obtain ⟨g13, h⟩ := chk_e h
 refine w_o (a := .list (List.length (([(u8of c)] : List UInt8) : List UInt8)) (Enc.cellsL (([(u8of c)] : List UInt8) : List UInt8)) .full) (h := op_q (q_lit (α := UInt8) (l := ([(u8of c)] : List UInt8)) (cs := [.raw (.int .u8 c)]) rfl (by show List.map _ _ = _; simp only [List.map_cons, List.map_nil, u8c g13]))) ?_
 refine w_o (a := .raw (.string (bs ([(u8of c)] : List UInt8)))) (h := op_q (q_bstr (l := ([(u8of c)] : List UInt8)) rfl rfl ⟨rfl, rfl⟩ rfl)) ?_
 obtain ⟨g14, h⟩ := chk_e h
 refine w_o (a := .raw (.string (bs (([92] : List UInt8) ++ ([(u8of c)] : List UInt8))))) (h := op_q (q_stradd g14 rfl rfl rfl)) ?_
 refine w_o (a := .raw (.string (bs (([92] : List UInt8) ++ ([(u8of c)] : List UInt8))))) ?_
 exact end_pureF (fun (r : (List UInt8)) => (.raw (.string (bs r)) : AV)) h (a := .raw (.string (bs (([92] : List UInt8) ++ ([(u8of c)] : List UInt8))))) rfl rfl rfl
 refine w_condF hc7 rfl ?_
 refine w_seq (w_region ?_)
 refine w_o (a := .raw (.int .u8 c)) ?_
 obtain ⟨g15, h⟩ := chk_e h
 refine w_o (a := .list (List.length (([(u8of c)] : List UInt8) : List UInt8)) (Enc.cellsL (([(u8of c)] : List UInt8) : List UInt8)) .full) (h := op_q (q_lit (α := UInt8) (l := ([(u8of c)] : List UInt8)) (cs := [.raw (.int .u8 c)]) rfl (by show List.map _ _ = _; simp only [List.map_cons, List.map_nil, u8c g15]))) ?_
 refine w_o (a := .raw (.string (bs ([(u8of c)] : List UInt8)))) (h := op_q (q_bstr (l := ([(u8of c)] : List UInt8)) rfl rfl ⟨rfl, rfl⟩ rfl)) ?_
 refine w_o (a := .raw (.string (bs ([(u8of c)] : List UInt8)))) ?_
 exact end_pureF (fun (r : (List UInt8)) => (.raw (.string (bs r)) : AV)) h (a := .raw (.string (bs ([(u8of c)] : List UInt8)))) rfl rfl rfl
def F_forms (fuel : Nat) (c : Int) (m : RSet) : Option (List (List UInt8)) :=
  (cutE (τ := (List (List UInt8))) (bif (decide (c ≥ 32)) then (bif (decide (c ≤ 126)) then (bif (c != 92) then (bindE (F_rmark m c) (fun x1 => (bif (!x1) then (chk (0 ≤ c ∧ c < 256) (chk ((List.length ([] : List (List UInt8)) + List.length [([(u8of c)] : List UInt8)]) * 16 ≤ 140737488355328) (some (Sum.inl ((([] : List (List UInt8)) ++ [([(u8of c)] : List UInt8)])))))) else (some (Sum.inl (([] : (List (List UInt8))))))))) else (some (Sum.inl (([] : (List (List UInt8))))))) else (some (Sum.inl (([] : (List (List UInt8))))))) else (some (Sum.inl (([] : (List (List UInt8))))))) (fun j1 => (cutE (τ := (List (List UInt8))) (bindE (F_rmark m c) (fun x2 => (bif x2 then (chk (0 ≤ c ∧ c < 256) (chk (List.length ([92] : List UInt8) + List.length ([(u8of c)] : List UInt8) ≤ 9223372036854775807) (chk ((List.length j1 + List.length [(([92] : List UInt8) ++ ([(u8of c)] : List UInt8))]) * 16 ≤ 140737488355328) (some (Sum.inl ((j1 ++ [(([92] : List UInt8) ++ ([(u8of c)] : List UInt8))]))))))) else (bif (c == 92) then (chk (0 ≤ c ∧ c < 256) (chk (List.length ([92] : List UInt8) + List.length ([(u8of c)] : List UInt8) ≤ 9223372036854775807) (chk ((List.length j1 + List.length [(([92] : List UInt8) ++ ([(u8of c)] : List UInt8))]) * 16 ≤ 140737488355328) (some (Sum.inl ((j1 ++ [(([92] : List UInt8) ++ ([(u8of c)] : List UInt8))]))))))) else (some (Sum.inl (j1))))))) (fun j2 => (cutE (τ := (List (List UInt8))) (loopE (β := (List (List UInt8)) × Int) (fun s1 => (bif (decide (s1.2 < (List.length [([110] : List UInt8), ([114] : List UInt8), ([116] : List UInt8)] : Int))) then (cutE (τ := (List (List UInt8))) (chk (0 ≤ s1.2 ∧ s1.2 < (List.length [([110] : List UInt8), ([114] : List UInt8), ([116] : List UInt8)] : Int)) (letE (ix [([110] : List UInt8), ([114] : List UInt8), ([116] : List UInt8)] s1.2) (fun x3 => (chk (0 ≤ s1.2 ∧ s1.2 < (List.length ([10, 13, 9] : List UInt8) : Int)) (letE (ix ([10, 13, 9] : List UInt8) s1.2) (fun x4 => (bif (c == (((x4).toNat : Nat) : Int)) then (chk (List.length ([92] : List UInt8) + List.length x3 ≤ 9223372036854775807) (chk ((List.length s1.1 + List.length [(([92] : List UInt8) ++ x3)]) * 16 ≤ 140737488355328) (some (Sum.inl ((s1.1 ++ [(([92] : List UInt8) ++ x3)])))))) else (some (Sum.inl (s1.1)))))))))) (fun j4 => (chk (-9223372036854775808 ≤ (s1.2 + 1) ∧ (s1.2 + 1) < 9223372036854775808) (some (Sum.inl (j4, (s1.2 + 1))))))) else (some (Sum.inr (Sum.inl (s1.1)))))) fuel (j2, 0)) (fun j3 => (cutE (τ := (List (List UInt8))) (loopE (β := (List (List UInt8)) × Int) (fun s2 => (bif (decide (s2.2 < 4)) then (chk (-9223372036854775808 ≤ c ∧ c < 9223372036854775808) (bindE (F_rhex (IntKind.i64.wrap (Int.tdiv c 16)) ((Int.tmod s2.2 2) == 1)) (fun x5 => (chk (-9223372036854775808 ≤ c ∧ c < 9223372036854775808) (bindE (F_rhex (Int.tmod c 16) ((IntKind.i64.wrap (Int.tdiv s2.2 2)) == 1)) (fun x6 => (chk (0 ≤ x5 ∧ x5 < 256) (chk (0 ≤ x6 ∧ x6 < 256) (chk (List.length ([92, 120] : List UInt8) + List.length ([(u8of x5), (u8of x6)] : List UInt8) ≤ 9223372036854775807) (chk ((List.length s2.1 + List.length [(([92, 120] : List UInt8) ++ ([(u8of x5), (u8of x6)] : List UInt8))]) * 16 ≤ 140737488355328) (chk (-9223372036854775808 ≤ (s2.2 + 1) ∧ (s2.2 + 1) < 9223372036854775808) (some (Sum.inl ((s2.1 ++ [(([92, 120] : List UInt8) ++ ([(u8of x5), (u8of x6)] : List UInt8))]), (s2.2 + 1))))))))))))))) else (some (Sum.inr (Sum.inl (s2.1)))))) fuel (j3, 0)) (fun j5 => (some j5)))))))))
theorem ent97 : Ent Tryz.prog 97 := enters_of Tryz.func97 (by kernel_rfl) rfl
set_option maxRecDepth 100000 in
set_option maxHeartbeats 4000000 in
theorem forms_sh (fuel : Nat) (c : Int) (m : RSet) (r : (List (List UInt8))) (h : F_forms fuel c m = some r) : Pure (ITP Tryz.prog) Tryz.prog 97 [.raw (.int .u8 c), .agg (Enc.cells (m : RSet))] (.list (List.length (r : List (List UInt8))) (Enc.cellsL (r : List (List UInt8))) .none) := by
 obtain ⟨d, hd⟩ : ∃ d, Tryz.f97.body = some d := ⟨_, rfl⟩
 refine pure_of mix Tryz.func97 hd ent97 ?_
 cases hd
 unfold F_forms at h
 refine w_start (by dsimp only [abeginS, Tryz.f97, List.length_cons, List.length_nil, Nat.zero_add, Nat.reduceAdd, Nat.reduceSub, List.replicate, List.cons_append, List.nil_append]) (by dsimp only [St.empty]) ?_
 refine w_seq (w_region ?_)
 refine w_om (a := .ptr 0 0) (σ'' := ⟨[(128, (Enc.cells (m : RSet)))], [], [], 0, false⟩) ?_
 refine w_o (a := .list 0 [] .full) ?_
 refine w_seq (w_region ?_)
 refine w_o (a := .list 0 [] .full) ?_
 refine w_cutF h [1, 2, 4, 5, 6, 7, 8, 9, 10, 11, 12, 13, 14, 15, 16, 17, 18, 19, 20, 21, 22, 23, 24, 25, 26, 27, 28, 29, 30, 31, 32, 33, 34, 35, 36, 37, 38, 39, 40, 41, 42, 43, 44, 45, 46, 47, 48, 49, 50, 51, 52, 53, 54, 55, 56, 57, 58, 59, 60, 61, 62, 63, 64, 65, 66, 67, 68, 69, 70, 71, 72, 73, 74, 75, 76, 77, 78, 79, 80, 81, 82, 83, 84, 85, 86] (fun j1 => [(5, (ownAV (List.length (j1 : List (List UInt8))) (Enc.cellsL (j1 : List (List UInt8)))))]) (fun j1 => (ownSt [(128, (Enc.cells (m : RSet)))] 9 (List.length (j1 : List (List UInt8))) 1)) ?_ ?_
 intro or1 h hr1
 refine w_seq (w_region ?_)
 refine w_o (a := .raw (.int .u8 c)) ?_
 refine w_o (a := .raw (.bool (decide (c ≥ 32)))) ?_
 refine bif_e h (fun hc1 h => ?_) (fun hc1 h => ?_)
 refine w_o (a := .raw (.bool true)) (h := op_q (q_bool rfl hc1)) ?_
 refine w_met rfl rfl ?_
 refine w_o (a := .raw (.int .u8 c)) ?_
 refine w_met rfl rfl ?_
 refine w_o (a := .raw (.bool (decide (c ≤ 126)))) ?_
 refine w_o (a := .raw (.bool (decide (c ≤ 126)))) ?_
 refine bif_e h (fun hc2 h => ?_) (fun hc2 h => ?_)
 refine w_o (a := .raw (.bool true)) (h := op_q (q_bool rfl hc2)) ?_
 refine w_met rfl rfl ?_
 refine w_o (a := .raw (.int .u8 c)) ?_
 refine w_met rfl rfl ?_
 refine w_o (a := .raw (.bool (c != 92))) ?_
 refine w_o (a := .raw (.bool (c != 92))) ?_
 refine bif_e h (fun hc3 h => ?_) (fun hc3 h => ?_)
 refine w_o (a := .raw (.bool true)) (h := op_q (q_bool rfl hc3)) ?_
 refine w_met rfl rfl ?_
 refine w_o (a := .agg (Enc.cells (m : RSet))) (h := op_q (q_loadArr m (by decide) rfl rfl rfl)) ?_
 refine w_met rfl rfl ?_
 refine w_o (a := .raw (.int .u8 c)) ?_
 refine w_met rfl rfl ?_
 obtain ⟨x1, hx1, h⟩ := bindE_e h
 refine w_callc (args' := [.agg (Enc.cells (m : RSet)), .raw (.int .u8 c)]) (r := .raw (.bool x1)) (rmark_sh m c x1 hx1) rfl rfl (stripL_cons (strip_c (clo_agg (Enc.clo _))) (stripL_cons rfl rfl)) (okTrimL_cons (okTrim_clo _ _ (clo_agg (Enc.clo _))) (by kernel_rfl)) (by dsimp only [aput, List.set]) ?_
 refine w_met rfl rfl ?_
 refine w_o (a := .raw (.bool (!x1))) ?_
 refine w_o (a := .raw (.bool (!x1))) ?_
 refine bif_e h (fun hc4 h => ?_) (fun hc4 h => ?_)
 refine w_condT hc4 rfl ?_
 refine w_region (k0 := 0) (id := 3) ?_
 refine w_o (a := .list 0 [] .full) ?_
 refine w_o (a := .raw (.int .u8 c)) ?_
 obtain ⟨g1, h⟩ := chk_e h
 refine w_o (a := .list (List.length (([(u8of c)] : List UInt8) : List UInt8)) (Enc.cellsL (([(u8of c)] : List UInt8) : List UInt8)) .full) (h := op_q (q_lit (α := UInt8) (l := ([(u8of c)] : List UInt8)) (cs := [.raw (.int .u8 c)]) rfl (by show List.map _ _ = _; simp only [List.map_cons, List.map_nil, u8c g1]))) ?_
 refine w_o (a := .raw (.string (bs ([(u8of c)] : List UInt8)))) (h := op_q (q_bstr (l := ([(u8of c)] : List UInt8)) rfl rfl ⟨rfl, rfl⟩ rfl)) ?_
 refine w_o (a := .list (List.length ([([(u8of c)] : List UInt8)] : List (List UInt8))) (Enc.cellsL ([([(u8of c)] : List UInt8)] : List (List UInt8))) .full) (h := op_q (q_lit (α := (List UInt8)) (l := [([(u8of c)] : List UInt8)]) (cs := Enc.cells (([(u8of c)] : List UInt8) : (List UInt8)) ++ []) rfl (by rw [Enc.cons, Enc.nil]))) ?_
 obtain ⟨g2, h⟩ := chk_e h
 refine w_opm (a := (ownAV (List.length ((([] : List (List UInt8)) ++ [([(u8of c)] : List UInt8)]) : List (List UInt8))) (Enc.cellsL ((([] : List (List UInt8)) ++ [([(u8of c)] : List UInt8)]) : List (List UInt8))))) (σ'' := (ownSt [(128, (Enc.cells (m : RSet)))] 9 (List.length ((([] : List (List UInt8)) ++ [([(u8of c)] : List UInt8)]) : List (List UInt8))) 1)) rfl rfl rfl (op_append rfl rfl rfl rfl (append_ownE (α := (List UInt8)) (bs := [(128, (Enc.cells (m : RSet)))]) (a := ([] : List (List UInt8))) (b := [([(u8of c)] : List UInt8)]) g2 rfl rfl rfl rfl rfl ⟨rfl, by decide⟩)) (by dsimp only [aput, List.set]) rfl ?_
 refine w_o (a := (ownAV (List.length ((([] : List (List UInt8)) ++ [([(u8of c)] : List UInt8)]) : List (List UInt8))) (Enc.cellsL ((([] : List (List UInt8)) ++ [([(u8of c)] : List UInt8)]) : List (List UInt8))))) ?_
 refine cut_done (o := or1) ((([] : List (List UInt8)) ++ [([(u8of c)] : List UInt8)])) h ?_
 exact wm_of (bl 87 41) (by kernel_rfl) (by kernel_rfl)
 refine w_condF hc4 rfl ?_
 refine cut_done (o := or1) (([] : (List (List UInt8)))) h ?_
 exact wm_of (bl 87 41) (by kernel_rfl) (by kernel_rfl)
 refine w_o (a := .raw (.bool false)) (h := op_q (q_bool rfl hc3)) ?_
 refine w_po ?_
 refine w_po ?_
 refine w_po ?_
 refine w_po ?_
 refine w_o (a := .raw (.bool false)) ?_
 refine w_false rfl ?_
 refine cut_done (o := or1) (([] : (List (List UInt8)))) h ?_
 exact wm_of (bl 87 41) (by kernel_rfl) (by kernel_rfl)
 refine w_o (a := .raw (.bool false)) (h := op_q (q_bool rfl hc2)) ?_
 refine w_po ?_
 refine w_po ?_
 refine w_o (a := .raw (.bool false)) ?_
 refine w_o (a := .raw (.bool false)) ?_
 refine w_po ?_
 refine w_po ?_
 refine w_po ?_
 refine w_po ?_
 refine w_o (a := .raw (.bool false)) ?_
 refine w_false rfl ?_
 refine cut_done (o := or1) (([] : (List (List UInt8)))) h ?_
 exact wm_of (bl 87 41) (by kernel_rfl) (by kernel_rfl)
 refine w_o (a := .raw (.bool false)) (h := op_q (q_bool rfl hc1)) ?_
 refine w_po ?_
 refine w_po ?_
 refine w_o (a := .raw (.bool false)) ?_
 refine w_o (a := .raw (.bool false)) ?_
 refine w_po ?_
 refine w_po ?_
 refine w_o (a := .raw (.bool false)) ?_
 refine w_o (a := .raw (.bool false)) ?_
 refine w_po ?_
 refine w_po ?_
 refine w_po ?_
 refine w_po ?_
 refine w_o (a := .raw (.bool false)) ?_
 refine w_false rfl ?_
 refine cut_done (o := or1) (([] : (List (List UInt8)))) h ?_
 exact wm_of (bl 87 41) (by kernel_rfl) (by kernel_rfl)
 intro j1 h
 refine w_start (by dsimp only [setAll, topAll, List.foldl, List.set]) rfl ?_
 refine w_cutF h [3, 5, 31, 32, 33, 34, 35, 36, 37, 38, 39, 40, 41, 42, 43, 44] (fun j2 => [(5, (ownAV (List.length (j2 : List (List UInt8))) (Enc.cellsL (j2 : List (List UInt8)))))]) (fun j2 => (ownSt [(128, (Enc.cells (m : RSet)))] 9 (List.length (j2 : List (List UInt8))) 1)) ?_ ?_
 intro or2 h hr2
 refine w_seq (w_region ?_)
 refine w_o (a := .agg (Enc.cells (m : RSet))) (h := op_q (q_loadArr m (by decide) rfl rfl rfl)) ?_
 refine w_o (a := .raw (.int .u8 c)) ?_
 obtain ⟨x2, hx2, h⟩ := bindE_e h
 refine w_callc (args' := [.agg (Enc.cells (m : RSet)), .raw (.int .u8 c)]) (r := .raw (.bool x2)) (rmark_sh m c x2 hx2) rfl rfl (stripL_cons (strip_c (clo_agg (Enc.clo _))) (stripL_cons rfl rfl)) (okTrimL_cons (okTrim_clo _ _ (clo_agg (Enc.clo _))) (by kernel_rfl)) (by dsimp only [aput, List.set]) ?_
 refine bif_e h (fun hc5 h => ?_) (fun hc5 h => ?_)
 refine w_o (a := .raw (.bool true)) (h := op_q (q_bool rfl hc5)) ?_
 refine w_po ?_
 refine w_po ?_
 refine w_o (a := .raw (.bool true)) ?_
 refine w_true rfl ?_
 refine w_region (k0 := 0) (id := 5) ?_
 refine w_o (a := (ownAV (List.length (j1 : List (List UInt8))) (Enc.cellsL (j1 : List (List UInt8))))) ?_
 refine w_o (a := .raw (.int .u8 c)) ?_
 obtain ⟨g3, h⟩ := chk_e h
 refine w_o (a := .list (List.length (([(u8of c)] : List UInt8) : List UInt8)) (Enc.cellsL (([(u8of c)] : List UInt8) : List UInt8)) .full) (h := op_q (q_lit (α := UInt8) (l := ([(u8of c)] : List UInt8)) (cs := [.raw (.int .u8 c)]) rfl (by show List.map _ _ = _; simp only [List.map_cons, List.map_nil, u8c g3]))) ?_
 refine w_o (a := .raw (.string (bs ([(u8of c)] : List UInt8)))) (h := op_q (q_bstr (l := ([(u8of c)] : List UInt8)) rfl rfl ⟨rfl, rfl⟩ rfl)) ?_
 obtain ⟨g4, h⟩ := chk_e h
 refine w_o (a := .raw (.string (bs (([92] : List UInt8) ++ ([(u8of c)] : List UInt8))))) (h := op_q (q_stradd g4 rfl rfl rfl)) ?_
 refine w_o (a := .list (List.length ([(([92] : List UInt8) ++ ([(u8of c)] : List UInt8))] : List (List UInt8))) (Enc.cellsL ([(([92] : List UInt8) ++ ([(u8of c)] : List UInt8))] : List (List UInt8))) .full) (h := op_q (q_lit (α := (List UInt8)) (l := [(([92] : List UInt8) ++ ([(u8of c)] : List UInt8))]) (cs := Enc.cells ((([92] : List UInt8) ++ ([(u8of c)] : List UInt8)) : (List UInt8)) ++ []) rfl (by rw [Enc.cons, Enc.nil]))) ?_
 obtain ⟨g5, h⟩ := chk_e h
 refine w_opm (a := (ownAV (List.length ((j1 ++ [(([92] : List UInt8) ++ ([(u8of c)] : List UInt8))]) : List (List UInt8))) (Enc.cellsL ((j1 ++ [(([92] : List UInt8) ++ ([(u8of c)] : List UInt8))]) : List (List UInt8))))) (σ'' := (ownSt [(128, (Enc.cells (m : RSet)))] 9 (List.length ((j1 ++ [(([92] : List UInt8) ++ ([(u8of c)] : List UInt8))]) : List (List UInt8))) 1)) rfl rfl rfl (op_append rfl rfl rfl rfl (append_ownE (α := (List UInt8)) (bs := [(128, (Enc.cells (m : RSet)))]) (a := j1) (b := [(([92] : List UInt8) ++ ([(u8of c)] : List UInt8))]) g5 rfl rfl rfl rfl rfl ⟨rfl, by decide⟩)) (by dsimp only [aput, List.set]) rfl ?_
 refine w_o (a := (ownAV (List.length ((j1 ++ [(([92] : List UInt8) ++ ([(u8of c)] : List UInt8))]) : List (List UInt8))) (Enc.cellsL ((j1 ++ [(([92] : List UInt8) ++ ([(u8of c)] : List UInt8))]) : List (List UInt8))))) ?_
 refine cut_done (o := or2) ((j1 ++ [(([92] : List UInt8) ++ ([(u8of c)] : List UInt8))])) h ?_
 exact wm_of (bl 87 154742504910637352137785335) (by kernel_rfl) (by kernel_rfl)
 refine w_o (a := .raw (.bool false)) (h := op_q (q_bool rfl hc5)) ?_
 refine w_met rfl rfl ?_
 refine w_o (a := .raw (.int .u8 c)) ?_
 refine w_met rfl rfl ?_
 refine w_o (a := .raw (.bool (c == 92))) ?_
 refine w_o (a := .raw (.bool (c == 92))) ?_
 refine bif_e h (fun hc6 h => ?_) (fun hc6 h => ?_)
 refine w_condT hc6 rfl ?_
 refine w_region (k0 := 0) (id := 5) ?_
 refine w_o (a := (ownAV (List.length (j1 : List (List UInt8))) (Enc.cellsL (j1 : List (List UInt8))))) ?_
 refine w_o (a := .raw (.int .u8 c)) ?_
 obtain ⟨g6, h⟩ := chk_e h
 refine w_o (a := .list (List.length (([(u8of c)] : List UInt8) : List UInt8)) (Enc.cellsL (([(u8of c)] : List UInt8) : List UInt8)) .full) (h := op_q (q_lit (α := UInt8) (l := ([(u8of c)] : List UInt8)) (cs := [.raw (.int .u8 c)]) rfl (by show List.map _ _ = _; simp only [List.map_cons, List.map_nil, u8c g6]))) ?_
 refine w_o (a := .raw (.string (bs ([(u8of c)] : List UInt8)))) (h := op_q (q_bstr (l := ([(u8of c)] : List UInt8)) rfl rfl ⟨rfl, rfl⟩ rfl)) ?_
 obtain ⟨g7, h⟩ := chk_e h
 refine w_o (a := .raw (.string (bs (([92] : List UInt8) ++ ([(u8of c)] : List UInt8))))) (h := op_q (q_stradd g7 rfl rfl rfl)) ?_
 refine w_o (a := .list (List.length ([(([92] : List UInt8) ++ ([(u8of c)] : List UInt8))] : List (List UInt8))) (Enc.cellsL ([(([92] : List UInt8) ++ ([(u8of c)] : List UInt8))] : List (List UInt8))) .full) (h := op_q (q_lit (α := (List UInt8)) (l := [(([92] : List UInt8) ++ ([(u8of c)] : List UInt8))]) (cs := Enc.cells ((([92] : List UInt8) ++ ([(u8of c)] : List UInt8)) : (List UInt8)) ++ []) rfl (by rw [Enc.cons, Enc.nil]))) ?_
 obtain ⟨g8, h⟩ := chk_e h
 refine w_opm (a := (ownAV (List.length ((j1 ++ [(([92] : List UInt8) ++ ([(u8of c)] : List UInt8))]) : List (List UInt8))) (Enc.cellsL ((j1 ++ [(([92] : List UInt8) ++ ([(u8of c)] : List UInt8))]) : List (List UInt8))))) (σ'' := (ownSt [(128, (Enc.cells (m : RSet)))] 9 (List.length ((j1 ++ [(([92] : List UInt8) ++ ([(u8of c)] : List UInt8))]) : List (List UInt8))) 1)) rfl rfl rfl (op_append rfl rfl rfl rfl (append_ownE (α := (List UInt8)) (bs := [(128, (Enc.cells (m : RSet)))]) (a := j1) (b := [(([92] : List UInt8) ++ ([(u8of c)] : List UInt8))]) g8 rfl rfl rfl rfl rfl ⟨rfl, by decide⟩)) (by dsimp only [aput, List.set]) rfl ?_
 refine w_o (a := (ownAV (List.length ((j1 ++ [(([92] : List UInt8) ++ ([(u8of c)] : List UInt8))]) : List (List UInt8))) (Enc.cellsL ((j1 ++ [(([92] : List UInt8) ++ ([(u8of c)] : List UInt8))]) : List (List UInt8))))) ?_
 refine cut_done (o := or2) ((j1 ++ [(([92] : List UInt8) ++ ([(u8of c)] : List UInt8))])) h ?_
 exact wm_of (bl 87 154742504910637352137785335) (by kernel_rfl) (by kernel_rfl)
 refine w_condF hc6 rfl ?_
 refine cut_done (o := or2) (j1) h ?_
 exact wm_of (bl 87 154742504910637352137785335) (by kernel_rfl) (by kernel_rfl)
 intro j2 h
 refine w_start (by dsimp only [setAll, topAll, List.foldl, List.set]) rfl ?_
 refine w_cutF h [5, 6, 7, 45, 46, 47, 48, 49, 50, 51, 52, 53, 54, 55, 56, 57, 58, 59, 60, 61] (fun j3 => [(5, (ownAV (List.length (j3 : List (List UInt8))) (Enc.cellsL (j3 : List (List UInt8)))))]) (fun j3 => (ownSt [(128, (Enc.cells (m : RSet)))] 9 (List.length (j3 : List (List UInt8))) 1)) ?_ ?_
 intro or3 h hr3
 refine w_seq (w_region ?_)
 refine w_o (a := .list (List.length ([([110] : List UInt8), ([114] : List UInt8), ([116] : List UInt8)] : List (List UInt8))) (Enc.cellsL ([([110] : List UInt8), ([114] : List UInt8), ([116] : List UInt8)] : List (List UInt8))) .full) (h := op_q (q_lit (α := (List UInt8)) (l := [([110] : List UInt8), ([114] : List UInt8), ([116] : List UInt8)]) (cs := Enc.cells (([110] : List UInt8) : (List UInt8)) ++ (Enc.cells (([114] : List UInt8) : (List UInt8)) ++ (Enc.cells (([116] : List UInt8) : (List UInt8)) ++ []))) (by kernel_rfl) (by rw [Enc.cons, Enc.cons, Enc.cons, Enc.nil]))) ?_
 refine w_o (a := .raw (.int .i64 (List.length [([110] : List UInt8), ([114] : List UInt8), ([116] : List UInt8)] : Int))) ?_
 refine w_o (a := .raw (.int .i64 0)) ?_
 refine w_block ?_
 refine w_loopF h [5, 6, 7, 47, 48, 49, 50, 51, 52, 53, 54, 55, 56, 57, 58, 59, 60, 61] (fun s1 => [(5, (ownAV (List.length (s1.1 : List (List UInt8))) (Enc.cellsL (s1.1 : List (List UInt8))))), (47, .raw (.int .i64 s1.2))]) (fun s1 => (ownSt [(128, (Enc.cells (m : RSet)))] 9 (List.length (s1.1 : List (List UInt8))) 1)) ?_ ?_
 exact wm_of (bl 87 154742500299267990911713087) (by kernel_rfl) (by kernel_rfl)
 intro s1 p1 h
 refine w_start (by dsimp only [setAll, topAll, List.foldl, List.set]) rfl ?_
 refine w_seq (w_region ?_)
 refine w_o (a := .raw (.bool (decide (s1.2 < (List.length [([110] : List UInt8), ([114] : List UInt8), ([116] : List UInt8)] : Int))))) ?_
 refine w_seq ?_
 refine bif_e h (fun hc7 h => ?_) (fun hc7 h => ?_)
 refine w_condT hc7 rfl ?_
 refine w_cutF h [5, 6, 7, 48, 49, 50, 51, 52, 53, 54, 55, 56, 57, 58, 59, 60] (fun j4 => [(5, (ownAV (List.length (j4 : List (List UInt8))) (Enc.cellsL (j4 : List (List UInt8)))))]) (fun j4 => (ownSt [(128, (Enc.cells (m : RSet)))] 9 (List.length (j4 : List (List UInt8))) 1)) ?_ ?_
 intro or4 h hr4
 refine w_block ?_
 refine w_seq (w_region ?_)
 refine w_o (a := .raw (.int .i64 s1.2)) ?_
 obtain ⟨g9, h⟩ := chk_e h
 obtain ⟨x3, hx3, h⟩ := letE_e h
 refine w_o (a := .iptr (Enc.cells x3 ++ Enc.cellsL (List.drop (Int.toNat s1.2 + 1) [([110] : List UInt8), ([114] : List UInt8), ([116] : List UInt8)]))) (h := op_q (by rw [← hx3]; exact (q_idx (α := (List UInt8)) (l := [([110] : List UInt8), ([114] : List UInt8), ([116] : List UInt8)]) g9 rfl rfl rfl rfl rfl))) ?_
 refine w_o (a := .raw (.string (bs x3))) ?_
 refine w_o (a := .raw (.int .i64 s1.2)) ?_
 refine w_o (a := .raw (.string (bs x3))) ?_
 refine w_seq (w_region ?_)
 refine w_o (a := .raw (.int .u8 c)) ?_
 refine w_o (a := .raw (.int .i64 s1.2)) ?_
 obtain ⟨g10, h⟩ := chk_e h
 obtain ⟨x4, hx4, h⟩ := letE_e h
 refine w_o (a := .raw (.int .u8 (((x4).toNat : Nat) : Int))) (h := op_q (by rw [← hx4]; exact (q_sidx (l := ([10, 13, 9] : List UInt8)) (n := s1.2) g10 rfl rfl rfl rfl))) ?_
 refine w_o (a := .raw (.bool (c == (((x4).toNat : Nat) : Int)))) ?_
 refine bif_e h (fun hc8 h => ?_) (fun hc8 h => ?_)
 refine w_condT hc8 rfl ?_
 refine w_region (k0 := 0) (id := 10) ?_
 refine w_o (a := (ownAV (List.length (s1.1 : List (List UInt8))) (Enc.cellsL (s1.1 : List (List UInt8))))) ?_
 refine w_o (a := .raw (.string (bs x3))) ?_
 obtain ⟨g11, h⟩ := chk_e h
 refine w_o (a := .raw (.string (bs (([92] : List UInt8) ++ x3)))) (h := op_q (q_stradd g11 rfl rfl rfl)) ?_
 refine w_o (a := .list (List.length ([(([92] : List UInt8) ++ x3)] : List (List UInt8))) (Enc.cellsL ([(([92] : List UInt8) ++ x3)] : List (List UInt8))) .full) (h := op_q (q_lit (α := (List UInt8)) (l := [(([92] : List UInt8) ++ x3)]) (cs := Enc.cells ((([92] : List UInt8) ++ x3) : (List UInt8)) ++ []) rfl (by rw [Enc.cons, Enc.nil]))) ?_
 obtain ⟨g12, h⟩ := chk_e h
 refine w_opm (a := (ownAV (List.length ((s1.1 ++ [(([92] : List UInt8) ++ x3)]) : List (List UInt8))) (Enc.cellsL ((s1.1 ++ [(([92] : List UInt8) ++ x3)]) : List (List UInt8))))) (σ'' := (ownSt [(128, (Enc.cells (m : RSet)))] 9 (List.length ((s1.1 ++ [(([92] : List UInt8) ++ x3)]) : List (List UInt8))) 1)) rfl rfl rfl (op_append rfl rfl rfl rfl (append_ownE (α := (List UInt8)) (bs := [(128, (Enc.cells (m : RSet)))]) (a := s1.1) (b := [(([92] : List UInt8) ++ x3)]) g12 rfl rfl rfl rfl rfl ⟨rfl, by decide⟩)) (by dsimp only [aput, List.set]) rfl ?_
 refine w_o (a := (ownAV (List.length ((s1.1 ++ [(([92] : List UInt8) ++ x3)]) : List (List UInt8))) (Enc.cellsL ((s1.1 ++ [(([92] : List UInt8) ++ x3)]) : List (List UInt8))))) ?_
 refine cut_done (o := or4) ((s1.1 ++ [(([92] : List UInt8) ++ x3)])) h ?_
 exact wm_of (bl 87 154742502605111000125407039) (by kernel_rfl) (by kernel_rfl)
 refine w_condF hc8 rfl ?_
 refine cut_done (o := or4) (s1.1) h ?_
 exact wm_of (bl 87 154742502605111000125407039) (by kernel_rfl) (by kernel_rfl)
 intro j4 h
 refine w_start (by dsimp only [setAll, topAll, List.foldl, List.set]) rfl ?_
 refine w_region (k0 := 0) (id := 11) ?_
 obtain ⟨g13, h⟩ := chk_e h
 refine w_o (a := .raw (.int .i64 (s1.2 + 1))) (h := op_q (q_add rfl rfl rfl rfl g13.1 g13.2)) ?_
 refine w_o (a := .raw (.int .i64 (s1.2 + 1))) ?_
 refine loop_next (p := p1) (j4, (s1.2 + 1)) h ?_
 exact wm_of (bl 87 154742500299267990911713087) (by kernel_rfl) (by kernel_rfl)
 refine w_condF hc7 rfl ?_
 refine loop_exit h (fun h => ?_)
 refine cut_done (o := or3) (s1.1) h ?_
 exact wm_of (bl 87 154742500299021700307091263) (by kernel_rfl) (by kernel_rfl)
 intro j3 h
 refine w_start (by dsimp only [setAll, topAll, List.foldl, List.set]) rfl ?_
 refine w_cutF h [0, 5, 8, 62, 63, 64, 65, 66, 67, 68, 69, 70, 71, 72, 73, 74, 75, 76, 77, 78, 79, 80, 81, 82, 83, 84, 85] (fun j5 => [(5, (ownAV (List.length (j5 : List (List UInt8))) (Enc.cellsL (j5 : List (List UInt8)))))]) (fun j5 => (ownSt [(128, (Enc.cells (m : RSet)))] 9 (List.length (j5 : List (List UInt8))) 1)) ?_ ?_
 intro or5 h hr5
 refine w_seq (w_region ?_)
 refine w_o (a := .raw (.int .i64 0)) ?_
 refine w_block ?_
 refine w_loopF h [5, 8, 62, 63, 64, 65, 66, 67, 68, 69, 70, 71, 72, 73, 74, 75, 76, 77, 78, 79, 80, 81, 82, 83, 84, 85] (fun s2 => [(5, (ownAV (List.length (s2.1 : List (List UInt8))) (Enc.cellsL (s2.1 : List (List UInt8))))), (8, .raw (.int .i64 s2.2))]) (fun s2 => (ownSt [(128, (Enc.cells (m : RSet)))] 9 (List.length (s2.1 : List (List UInt8))) 1)) ?_ ?_
 exact wm_of (bl 87 77371257067022285608583167) (by kernel_rfl) (by kernel_rfl)
 intro s2 p2 h
 refine w_start (by dsimp only [setAll, topAll, List.foldl, List.set]) rfl ?_
 refine w_seq ?_
 refine w_seq (w_region ?_)
 refine w_o (a := .raw (.int .i64 s2.2)) ?_
 refine w_o (a := .raw (.bool (decide (s2.2 < 4)))) ?_
 refine bif_e h (fun hc9 h => ?_) (fun hc9 h => ?_)
 refine w_condT hc9 rfl ?_
 refine w_seq ?_
 refine w_block ?_
 refine w_region (k0 := 0) (id := 15) ?_
 refine w_o (a := (ownAV (List.length (s2.1 : List (List UInt8))) (Enc.cellsL (s2.1 : List (List UInt8))))) ?_
 refine w_o (a := .raw (.int .u8 c)) ?_
 obtain ⟨g14, h⟩ := chk_e h
 refine w_o (a := .raw (.int .i64 c)) (h := op_q (q_conv64 g14 rfl rfl rfl)) ?_
 refine w_o (a := .raw (.int .i64 (IntKind.i64.wrap (Int.tdiv c 16)))) ?_
 refine w_o (a := .raw (.int .i64 s2.2)) ?_
 refine w_o (a := .raw (.int .i64 (Int.tmod s2.2 2))) ?_
 refine w_o (a := .raw (.bool ((Int.tmod s2.2 2) == 1))) ?_
 obtain ⟨x5, hx5, h⟩ := bindE_e h
 refine w_callc (args' := [.raw (.int .i64 (IntKind.i64.wrap (Int.tdiv c 16))), .raw (.bool ((Int.tmod s2.2 2) == 1))]) (r := .raw (.int .u8 x5)) (rhex_sh (IntKind.i64.wrap (Int.tdiv c 16)) ((Int.tmod s2.2 2) == 1) x5 hx5) rfl rfl (stripL_cons rfl (stripL_cons rfl rfl)) (by kernel_rfl) (by dsimp only [aput, List.set]) ?_
 refine w_o (a := .raw (.int .u8 c)) ?_
 obtain ⟨g15, h⟩ := chk_e h
 refine w_o (a := .raw (.int .i64 c)) (h := op_q (q_conv64 g15 rfl rfl rfl)) ?_
 refine w_o (a := .raw (.int .i64 (Int.tmod c 16))) ?_
 refine w_o (a := .raw (.int .i64 s2.2)) ?_
 refine w_o (a := .raw (.int .i64 (IntKind.i64.wrap (Int.tdiv s2.2 2)))) ?_
 refine w_o (a := .raw (.bool ((IntKind.i64.wrap (Int.tdiv s2.2 2)) == 1))) ?_
 obtain ⟨x6, hx6, h⟩ := bindE_e h
 refine w_callc (args' := [.raw (.int .i64 (Int.tmod c 16)), .raw (.bool ((IntKind.i64.wrap (Int.tdiv s2.2 2)) == 1))]) (r := .raw (.int .u8 x6)) (rhex_sh (Int.tmod c 16) ((IntKind.i64.wrap (Int.tdiv s2.2 2)) == 1) x6 hx6) rfl rfl (stripL_cons rfl (stripL_cons rfl rfl)) (by kernel_rfl) (by dsimp only [aput, List.set]) ?_
 obtain ⟨g16, h⟩ := chk_e h
 obtain ⟨g17, h⟩ := chk_e h
 refine w_o (a := .list (List.length (([(u8of x5), (u8of x6)] : List UInt8) : List UInt8)) (Enc.cellsL (([(u8of x5), (u8of x6)] : List UInt8) : List UInt8)) .full) (h := op_q (q_lit (α := UInt8) (l := ([(u8of x5), (u8of x6)] : List UInt8)) (cs := [.raw (.int .u8 x5), .raw (.int .u8 x6)]) rfl (by show List.map _ _ = _; simp only [List.map_cons, List.map_nil, u8c g16, u8c g17]))) ?_
 refine w_o (a := .raw (.string (bs ([(u8of x5), (u8of x6)] : List UInt8)))) (h := op_q (q_bstr (l := ([(u8of x5), (u8of x6)] : List UInt8)) rfl rfl ⟨rfl, rfl⟩ rfl)) ?_
 obtain ⟨g18, h⟩ := chk_e h
 refine w_o (a := .raw (.string (bs (([92, 120] : List UInt8) ++ ([(u8of x5), (u8of x6)] : List UInt8))))) (h := op_q (q_stradd g18 rfl rfl rfl)) ?_
 refine w_o (a := .list (List.length ([(([92, 120] : List UInt8) ++ ([(u8of x5), (u8of x6)] : List UInt8))] : List (List UInt8))) (Enc.cellsL ([(([92, 120] : List UInt8) ++ ([(u8of x5), (u8of x6)] : List UInt8))] : List (List UInt8))) .full) (h := op_q (q_lit (α := (List UInt8)) (l := [(([92, 120] : List UInt8) ++ ([(u8of x5), (u8of x6)] : List UInt8))]) (cs := Enc.cells ((([92, 120] : List UInt8) ++ ([(u8of x5), (u8of x6)] : List UInt8)) : (List UInt8)) ++ []) rfl (by rw [Enc.cons, Enc.nil]))) ?_
 obtain ⟨g19, h⟩ := chk_e h
 refine w_opm (a := (ownAV (List.length ((s2.1 ++ [(([92, 120] : List UInt8) ++ ([(u8of x5), (u8of x6)] : List UInt8))]) : List (List UInt8))) (Enc.cellsL ((s2.1 ++ [(([92, 120] : List UInt8) ++ ([(u8of x5), (u8of x6)] : List UInt8))]) : List (List UInt8))))) (σ'' := (ownSt [(128, (Enc.cells (m : RSet)))] 9 (List.length ((s2.1 ++ [(([92, 120] : List UInt8) ++ ([(u8of x5), (u8of x6)] : List UInt8))]) : List (List UInt8))) 1)) rfl rfl rfl (op_append rfl rfl rfl rfl (append_ownE (α := (List UInt8)) (bs := [(128, (Enc.cells (m : RSet)))]) (a := s2.1) (b := [(([92, 120] : List UInt8) ++ ([(u8of x5), (u8of x6)] : List UInt8))]) g19 rfl rfl rfl rfl rfl ⟨rfl, by decide⟩)) (by dsimp only [aput, List.set]) rfl ?_
 refine w_o (a := (ownAV (List.length ((s2.1 ++ [(([92, 120] : List UInt8) ++ ([(u8of x5), (u8of x6)] : List UInt8))]) : List (List UInt8))) (Enc.cellsL ((s2.1 ++ [(([92, 120] : List UInt8) ++ ([(u8of x5), (u8of x6)] : List UInt8))]) : List (List UInt8))))) ?_
 refine w_region (k0 := 0) (id := 14) ?_
 refine w_o (a := .raw (.int .i64 s2.2)) ?_
 obtain ⟨g20, h⟩ := chk_e h
 refine w_o (a := .raw (.int .i64 (s2.2 + 1))) (h := op_q (q_add rfl rfl rfl rfl g20.1 g20.2)) ?_
 refine w_o (a := .raw (.int .i64 (s2.2 + 1))) ?_
 refine loop_next (p := p2) ((s2.1 ++ [(([92, 120] : List UInt8) ++ ([(u8of x5), (u8of x6)] : List UInt8))]), (s2.2 + 1)) h ?_
 exact wm_of (bl 87 77371257067022285608583167) (by kernel_rfl) (by kernel_rfl)
 refine w_condF hc9 rfl ?_
 refine loop_exit h (fun h => ?_)
 refine cut_done (o := or5) (s2.1) h ?_
 exact wm_of (bl 87 77371257067022285608582910) (by kernel_rfl) (by kernel_rfl)
 intro j5 h
 refine w_start (by dsimp only [setAll, topAll, List.foldl, List.set]) rfl ?_
 refine w_seq (w_region ?_)
 refine w_o (a := (ownAV (List.length (j5 : List (List UInt8))) (Enc.cellsL (j5 : List (List UInt8))))) ?_
 refine w_o (a := (ownAV (List.length (j5 : List (List UInt8))) (Enc.cellsL (j5 : List (List UInt8))))) ?_
 exact end_pureF (fun (r : (List (List UInt8))) => (.list (List.length (r : List (List UInt8))) (Enc.cellsL (r : List (List UInt8))) .none : AV)) h (a := (ownAV (List.length (j5 : List (List UInt8))) (Enc.cellsL (j5 : List (List UInt8))))) rfl (okTrim_own (Enc.cloL _)) (strip_o (Enc.cloL _) Enc.z)
def F_rdig (fuel : Nat) (c : Int) : Option Int :=
  (cutE (τ := Unit) (loopE (β := Int) (fun s1 => (bif (decide (s1 < 16)) then (bindE (F_rhex s1 false) (fun x1 => (bif (c == x1) then (some (Sum.inr (Sum.inr s1))) else (bindE (F_rhex s1 true) (fun x2 => (bif (c == x2) then (some (Sum.inr (Sum.inr s1))) else (chk (-9223372036854775808 ≤ (s1 + 1) ∧ (s1 + 1) < 9223372036854775808) (some (Sum.inl ((s1 + 1))))))))))) else (some (Sum.inr (Sum.inl ()))))) fuel (0)) (fun j1 => (some 0)))
theorem ent108 : Ent Tryz.prog 108 := enters_of Tryz.func108 (by kernel_rfl) rfl
set_option maxRecDepth 100000 in
set_option maxHeartbeats 4000000 in
theorem rdig_sh (fuel : Nat) (c : Int) (r : Int) (h : F_rdig fuel c = some r) : Pure (ITP Tryz.prog) Tryz.prog 108 [.raw (.int .u8 c)] (.raw (.int .i64 r)) := by
 obtain ⟨d, hd⟩ : ∃ d, Tryz.f108.body = some d := ⟨_, rfl⟩
 refine pure_of mix Tryz.func108 hd ent108 ?_
 cases hd
 unfold F_rdig at h
 refine w_start (by dsimp only [abeginS, Tryz.f108, List.length_cons, List.length_nil, Nat.zero_add, Nat.reduceAdd, Nat.reduceSub, List.replicate, List.cons_append, List.nil_append]) (by dsimp only [St.empty]) ?_
 refine w_seq (w_region ?_)
 refine w_o (a := .raw (.int .i64 0)) ?_
 refine w_cutF h [0, 1, 2, 3, 4, 5, 6, 7, 8, 9, 10, 11, 12, 13, 14, 15, 16, 17, 18] (fun j1 => []) (fun j1 => ⟨[], [], [], 0, false⟩) ?_ ?_
 intro or1 h hr1
 refine w_seq (w_region ?_)
 refine w_o (a := .raw (.int .i64 0)) ?_
 refine w_block ?_
 refine w_loopF h [1, 2, 3, 4, 5, 6, 7, 8, 9, 10, 11, 12, 13, 14, 15, 16, 17, 18] (fun s1 => [(3, .raw (.int .i64 s1))]) (fun s1 => ⟨[], [], [], 0, false⟩) ?_ ?_
 exact wm_of (bl 19 9) (by kernel_rfl) (by kernel_rfl)
 intro s1 p1 h
 refine w_start (by dsimp only [setAll, topAll, List.foldl, List.set]) rfl ?_
 refine w_seq ?_
 refine w_seq (w_region ?_)
 refine w_o (a := .raw (.int .i64 s1)) ?_
 refine w_o (a := .raw (.bool (decide (s1 < 16)))) ?_
 refine bif_e h (fun hc1 h => ?_) (fun hc1 h => ?_)
 refine w_condT hc1 rfl ?_
 refine w_seq ?_
 refine w_block ?_
 refine w_seq (w_region ?_)
 refine w_o (a := .raw (.int .u8 c)) ?_
 refine w_o (a := .raw (.int .i64 s1)) ?_
 obtain ⟨x1, hx1, h⟩ := bindE_e h
 refine w_callc (args' := [.raw (.int .i64 s1), .raw (.bool false)]) (r := .raw (.int .u8 x1)) (rhex_sh s1 false x1 hx1) rfl rfl (stripL_cons rfl (stripL_cons rfl rfl)) (by kernel_rfl) (by dsimp only [aput, List.set]) ?_
 refine w_o (a := .raw (.bool (c == x1))) ?_
 refine bif_e h (fun hc2 h => ?_) (fun hc2 h => ?_)
 refine w_o (a := .raw (.bool true)) (h := op_q (q_bool rfl hc2)) ?_
 refine w_po ?_
 refine w_po ?_
 refine w_po ?_
 refine w_po ?_
 refine w_o (a := .raw (.bool true)) ?_
 refine w_true rfl ?_
 refine w_seq (w_region ?_)
 refine w_o (a := .raw (.int .i64 s1)) ?_
 refine w_o (a := .raw (.int .i64 s1)) ?_
 refine loop_exit h (fun h => ?_)
 replace h := cut_inr h hr1
 exact end_pureF (fun (r : Int) => (.raw (.int .i64 r) : AV)) h (a := .raw (.int .i64 s1)) rfl rfl rfl
 refine w_o (a := .raw (.bool false)) (h := op_q (q_bool rfl hc2)) ?_
 refine w_met rfl rfl ?_
 refine w_o (a := .raw (.int .u8 c)) ?_
 refine w_met rfl rfl ?_
 refine w_o (a := .raw (.int .i64 s1)) ?_
 refine w_met rfl rfl ?_
 obtain ⟨x2, hx2, h⟩ := bindE_e h
 refine w_callc (args' := [.raw (.int .i64 s1), .raw (.bool true)]) (r := .raw (.int .u8 x2)) (rhex_sh s1 true x2 hx2) rfl rfl (stripL_cons rfl (stripL_cons rfl rfl)) (by kernel_rfl) (by dsimp only [aput, List.set]) ?_
 refine w_met rfl rfl ?_
 refine w_o (a := .raw (.bool (c == x2))) ?_
 refine w_o (a := .raw (.bool (c == x2))) ?_
 refine bif_e h (fun hc3 h => ?_) (fun hc3 h => ?_)
 refine w_condT hc3 rfl ?_
 refine w_seq (w_region ?_)
 refine w_o (a := .raw (.int .i64 s1)) ?_
 refine w_o (a := .raw (.int .i64 s1)) ?_
 refine loop_exit h (fun h => ?_)
 replace h := cut_inr h hr1
 exact end_pureF (fun (r : Int) => (.raw (.int .i64 r) : AV)) h (a := .raw (.int .i64 s1)) rfl rfl rfl
 refine w_condF hc3 rfl ?_
 refine w_region (k0 := 0) (id := 3) ?_
 refine w_o (a := .raw (.int .i64 s1)) ?_
 obtain ⟨g1, h⟩ := chk_e h
 refine w_o (a := .raw (.int .i64 (s1 + 1))) (h := op_q (q_add rfl rfl rfl rfl g1.1 g1.2)) ?_
 refine w_o (a := .raw (.int .i64 (s1 + 1))) ?_
 refine loop_next (p := p1) ((s1 + 1)) h ?_
 exact wm_of (bl 19 9) (by kernel_rfl) (by kernel_rfl)
 refine w_condF hc1 rfl ?_
 refine loop_exit h (fun h => ?_)
 refine cut_done (o := or1) () h ?_
 exact wm_of (bl 19 0) (by kernel_rfl) (by kernel_rfl)
 intro j1 h
 refine w_start (by dsimp only [setAll, topAll, List.foldl, List.set]) rfl ?_
 refine w_seq (w_region ?_)
 refine w_o (a := .raw (.int .i64 0)) ?_
 exact end_pureF (fun (r : Int) => (.raw (.int .i64 r) : AV)) h (a := .raw (.int .i64 0)) rfl rfl rfl
end Go.Ab

