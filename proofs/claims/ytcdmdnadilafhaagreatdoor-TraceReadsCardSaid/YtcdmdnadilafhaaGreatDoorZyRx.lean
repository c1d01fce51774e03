/-
  reparteeref33: lines, Read.
-/
import Derived.Test.YtcdmdnadilafhaaGreatDoorZyRn
import Derived.Test.YtcdmdnadilafhaaGreatDoorZyQc
import Derived.Test.YtcdmdnadilafhaaGreatDoorZyW4
import Derived.Test.YtcdmdnadilafhaaGreatDoorZdZb
import Derived.Test.YtcdmdnadilafhaaGreatDoorZdQo
set_option linter.unusedSimpArgs false
set_option linter.unusedVariables false
namespace Go.Ab
open Go Go.RowKit Go.Fwd Go.Proofs
def F_rright (e : En) (a : Int) : Option Bool :=
  (bif (e.k == 1) then (bif (e.fr == 0) then (bif (e.to == 0) then (some (decide ((List.length e.b : Int) ≤ 512))) else (some false)) else (some false)) else (cutE (τ := Unit) (bif (e.k != 2) then (bif (e.k != 3) then (some (Sum.inr false)) else (bif (!(e.b == ([] : List UInt8))) then (some (Sum.inr false)) else (some (Sum.inl ())))) else (bif (!(e.b == ([] : List UInt8))) then (some (Sum.inr false)) else (some (Sum.inl ())))) (fun j1 => (bif (e.fr != a) then (some false) else (bif (decide (e.to < e.fr)) then (some false) else (bif (decide (e.to > 1073741824)) then (some false) else (bif (e.k == 2) then (some true) else (some (decide (e.fr < e.to))))))))))
theorem ent61 : Ent Tryz.prog 61 := enters_of Tryz.func61 (by kernel_rfl) rfl
set_option maxRecDepth 100000 in
set_option maxHeartbeats 4000000 in
theorem rright_sh (e : En) (a : Int) (r : Bool) (h : F_rright e a = some r) : Pure (ITP Tryz.prog) Tryz.prog 61 [.agg (Enc.cells (e : En)), .raw (.int .i64 a)] (.raw (.bool r)) := by
 obtain ⟨d, hd⟩ : ∃ d, Tryz.f61.body = some d := ⟨_, rfl⟩
 refine pure_of mix Tryz.func61 hd ent61 ?_
 cases hd
 unfold F_rright at h
 refine w_start (by dsimp only [abeginS, Tryz.f61, List.length_cons, List.length_nil, Nat.zero_add, Nat.reduceAdd, Nat.reduceSub, List.replicate, List.cons_append, List.nil_append]) (by dsimp only [St.empty]) ?_
 refine w_seq (w_region ?_)
 refine w_om (a := .ptr 0 0) (σ'' := ⟨[(67, (Enc.cells (e : En)))], [], [], 0, false⟩) ?_
 refine w_o (a := .raw (.bool false)) ?_
 refine w_seq ?_
 refine w_seq (w_region ?_)
 refine w_o (a := .ptr 0 0) ?_
 refine w_o (a := .raw (.int .u8 e.k)) ?_
 refine w_o (a := .raw (.bool (e.k == 1))) ?_
 refine bif_e h (fun hc1 h => ?_) (fun hc1 h => ?_)
 refine w_condT hc1 rfl ?_
 refine w_seq (w_region ?_)
 refine w_o (a := .ptr 0 1) ?_
 refine w_o (a := .raw (.int .i64 e.fr)) ?_
 refine w_o (a := .raw (.bool (e.fr == 0))) ?_
 refine bif_e h (fun hc2 h => ?_) (fun hc2 h => ?_)
 refine w_o (a := .raw (.bool true)) (h := op_q (q_bool rfl hc2)) ?_
 refine w_met rfl rfl ?_
 refine w_o (a := .ptr 0 2) ?_
 refine w_met rfl rfl ?_
 refine w_o (a := .raw (.int .i64 e.to)) ?_
 refine w_met rfl rfl ?_
 refine w_o (a := .raw (.bool (e.to == 0))) ?_
 refine w_o (a := .raw (.bool (e.to == 0))) ?_
 refine bif_e h (fun hc3 h => ?_) (fun hc3 h => ?_)
 refine w_o (a := .raw (.bool true)) (h := op_q (q_bool rfl hc3)) ?_
 refine w_met rfl rfl ?_
 refine w_o (a := .ptr 0 3) ?_
 refine w_met rfl rfl ?_
 refine w_o (a := .raw (.string (bs e.b))) ?_
 refine w_met rfl rfl ?_
 refine w_o (a := .raw (.int .i64 (List.length e.b : Int))) (h := op_q (q_lenS rfl rfl rfl)) ?_
 refine w_met rfl rfl ?_
 refine w_o (a := .raw (.bool (decide ((List.length e.b : Int) ≤ 512)))) ?_
 refine w_o (a := .raw (.bool (decide ((List.length e.b : Int) ≤ 512)))) ?_
 refine w_o (a := .raw (.bool (decide ((List.length e.b : Int) ≤ 512)))) ?_
 exact end_pureF (fun (r : Bool) => (.raw (.bool r) : AV)) h (a := .raw (.bool (decide ((List.length e.b : Int) ≤ 512)))) rfl rfl rfl
 refine w_o (a := .raw (.bool false)) (h := op_q (q_bool rfl hc3)) ?_
 refine w_po ?_
 refine w_po ?_
 refine w_po ?_
 refine w_po ?_
 refine w_o (a := .raw (.bool false)) ?_
 refine w_o (a := .raw (.bool false)) ?_
 exact end_pureF (fun (r : Bool) => (.raw (.bool r) : AV)) h (a := .raw (.bool false)) rfl rfl rfl
 refine w_o (a := .raw (.bool false)) (h := op_q (q_bool rfl hc2)) ?_
 refine w_po ?_
 refine w_po ?_
 refine w_po ?_
 refine w_o (a := .raw (.bool false)) ?_
 refine w_o (a := .raw (.bool false)) ?_
 refine w_po ?_
 refine w_po ?_
 refine w_po ?_
 refine w_po ?_
 refine w_o (a := .raw (.bool false)) ?_
 refine w_o (a := .raw (.bool false)) ?_
 exact end_pureF (fun (r : Bool) => (.raw (.bool r) : AV)) h (a := .raw (.bool false)) rfl rfl rfl
 refine w_condF hc1 rfl ?_
 refine w_cutF h [0, 3, 4, 5, 6, 7, 8, 9, 10, 11, 12, 13, 14, 15, 16, 17, 18, 19, 20, 21, 22, 23, 24, 25, 26, 27, 28, 29, 30, 31, 32, 33, 34, 35, 36, 37, 38, 39, 40, 41, 42, 43, 44, 45, 46, 47, 48, 49, 50, 51, 52, 53, 54, 55, 56, 57, 58, 59, 60] (fun j1 => []) (fun j1 => ⟨[(67, (Enc.cells (e : En)))], [], [], 0, false⟩) ?_ ?_
 intro or1 h hr1
 refine w_seq (w_region ?_)
 refine w_o (a := .ptr 0 0) ?_
 refine w_o (a := .raw (.int .u8 e.k)) ?_
 refine w_o (a := .raw (.bool (e.k != 2))) ?_
 refine bif_e h (fun hc4 h => ?_) (fun hc4 h => ?_)
 refine w_o (a := .raw (.bool true)) (h := op_q (q_bool rfl hc4)) ?_
 refine w_met rfl rfl ?_
 refine w_o (a := .ptr 0 0) ?_
 refine w_met rfl rfl ?_
 refine w_o (a := .raw (.int .u8 e.k)) ?_
 refine w_met rfl rfl ?_
 refine w_o (a := .raw (.bool (e.k != 3))) ?_
 refine w_o (a := .raw (.bool (e.k != 3))) ?_
 refine bif_e h (fun hc5 h => ?_) (fun hc5 h => ?_)
 refine w_o (a := .raw (.bool true)) (h := op_q (q_bool rfl hc5)) ?_
 refine w_po ?_
 refine w_po ?_
 refine w_po ?_
 refine w_o (a := .raw (.bool true)) ?_
 refine w_true rfl ?_
 refine w_seq (w_region ?_)
 refine w_o (a := .raw (.bool false)) ?_
 replace h := cut_inr h hr1
 exact end_pureF (fun (r : Bool) => (.raw (.bool r) : AV)) h (a := .raw (.bool false)) rfl rfl rfl
 refine w_o (a := .raw (.bool false)) (h := op_q (q_bool rfl hc5)) ?_
 refine w_met rfl rfl ?_
 refine w_o (a := .ptr 0 3) ?_
 refine w_met rfl rfl ?_
 refine w_o (a := .raw (.string (bs e.b))) ?_
 refine w_met rfl rfl ?_
 refine w_o (a := .raw (.bool (!(e.b == ([] : List UInt8))))) (h := op_q (q_strne rfl rfl rfl)) ?_
 refine w_o (a := .raw (.bool (!(e.b == ([] : List UInt8))))) ?_
 refine bif_e h (fun hc6 h => ?_) (fun hc6 h => ?_)
 refine w_condT hc6 rfl ?_
 refine w_seq (w_region ?_)
 refine w_o (a := .raw (.bool false)) ?_
 replace h := cut_inr h hr1
 exact end_pureF (fun (r : Bool) => (.raw (.bool r) : AV)) h (a := .raw (.bool false)) rfl rfl rfl
 refine w_condF hc6 rfl ?_
 refine cut_done (o := or1) () h ?_
 exact wm_of (bl 61 6) (by kernel_rfl) (by kernel_rfl)
 refine w_o (a := .raw (.bool false)) (h := op_q (q_bool rfl hc4)) ?_
 refine w_po ?_
 refine w_po ?_
 refine w_po ?_
 refine w_o (a := .raw (.bool false)) ?_
 refine w_o (a := .raw (.bool false)) ?_
 refine w_met rfl rfl ?_
 refine w_o (a := .ptr 0 3) ?_
 refine w_met rfl rfl ?_
 refine w_o (a := .raw (.string (bs e.b))) ?_
 refine w_met rfl rfl ?_
 refine w_o (a := .raw (.bool (!(e.b == ([] : List UInt8))))) (h := op_q (q_strne rfl rfl rfl)) ?_
 refine w_o (a := .raw (.bool (!(e.b == ([] : List UInt8))))) ?_
 refine bif_e h (fun hc7 h => ?_) (fun hc7 h => ?_)
 refine w_condT hc7 rfl ?_
 refine w_seq (w_region ?_)
 refine w_o (a := .raw (.bool false)) ?_
 replace h := cut_inr h hr1
 exact end_pureF (fun (r : Bool) => (.raw (.bool r) : AV)) h (a := .raw (.bool false)) rfl rfl rfl
 refine w_condF hc7 rfl ?_
 refine cut_done (o := or1) () h ?_
 exact wm_of (bl 61 6) (by kernel_rfl) (by kernel_rfl)
 intro j1 h
 refine w_start (by dsimp only [setAll, topAll, List.foldl, List.set]) rfl ?_
 refine w_seq ?_
 refine w_seq (w_region ?_)
 refine w_o (a := .ptr 0 1) ?_
 refine w_o (a := .raw (.int .i64 e.fr)) ?_
 refine w_o (a := .raw (.int .i64 a)) ?_
 refine w_o (a := .raw (.bool (e.fr != a))) ?_
 refine bif_e h (fun hc8 h => ?_) (fun hc8 h => ?_)
 refine w_o (a := .raw (.bool true)) (h := op_q (q_bool rfl hc8)) ?_
 refine w_po ?_
 refine w_po ?_
 refine w_po ?_
 refine w_po ?_
 refine w_po ?_
 refine w_o (a := .raw (.bool true)) ?_
 refine w_o (a := .raw (.bool true)) ?_
 refine w_po ?_
 refine w_po ?_
 refine w_po ?_
 refine w_o (a := .raw (.bool true)) ?_
 refine w_true rfl ?_
 refine w_seq (w_region ?_)
 refine w_o (a := .raw (.bool false)) ?_
 exact end_pureF (fun (r : Bool) => (.raw (.bool r) : AV)) h (a := .raw (.bool false)) rfl rfl rfl
 refine w_o (a := .raw (.bool false)) (h := op_q (q_bool rfl hc8)) ?_
 refine w_met rfl rfl ?_
 refine w_o (a := .ptr 0 2) ?_
 refine w_met rfl rfl ?_
 refine w_o (a := .raw (.int .i64 e.to)) ?_
 refine w_met rfl rfl ?_
 refine w_o (a := .ptr 0 1) ?_
 refine w_met rfl rfl ?_
 refine w_o (a := .raw (.int .i64 e.fr)) ?_
 refine w_met rfl rfl ?_
 refine w_o (a := .raw (.bool (decide (e.to < e.fr)))) ?_
 refine w_o (a := .raw (.bool (decide (e.to < e.fr)))) ?_
 refine bif_e h (fun hc9 h => ?_) (fun hc9 h => ?_)
 refine w_o (a := .raw (.bool true)) (h := op_q (q_bool rfl hc9)) ?_
 refine w_po ?_
 refine w_po ?_
 refine w_po ?_
 refine w_o (a := .raw (.bool true)) ?_
 refine w_true rfl ?_
 refine w_seq (w_region ?_)
 refine w_o (a := .raw (.bool false)) ?_
 exact end_pureF (fun (r : Bool) => (.raw (.bool r) : AV)) h (a := .raw (.bool false)) rfl rfl rfl
 refine w_o (a := .raw (.bool false)) (h := op_q (q_bool rfl hc9)) ?_
 refine w_met rfl rfl ?_
 refine w_o (a := .ptr 0 2) ?_
 refine w_met rfl rfl ?_
 refine w_o (a := .raw (.int .i64 e.to)) ?_
 refine w_met rfl rfl ?_
 refine w_o (a := .raw (.bool (decide (e.to > 1073741824)))) ?_
 refine w_o (a := .raw (.bool (decide (e.to > 1073741824)))) ?_
 refine bif_e h (fun hc10 h => ?_) (fun hc10 h => ?_)
 refine w_condT hc10 rfl ?_
 refine w_seq (w_region ?_)
 refine w_o (a := .raw (.bool false)) ?_
 exact end_pureF (fun (r : Bool) => (.raw (.bool r) : AV)) h (a := .raw (.bool false)) rfl rfl rfl
 refine w_condF hc10 rfl ?_
 refine w_seq (w_region ?_)
 refine w_o (a := .ptr 0 0) ?_
 refine w_o (a := .raw (.int .u8 e.k)) ?_
 refine w_o (a := .raw (.bool (e.k == 2))) ?_
 refine bif_e h (fun hc11 h => ?_) (fun hc11 h => ?_)
 refine w_o (a := .raw (.bool true)) (h := op_q (q_bool rfl hc11)) ?_
 refine w_po ?_
 refine w_po ?_
 refine w_po ?_
 refine w_po ?_
 refine w_po ?_
 refine w_o (a := .raw (.bool true)) ?_
 refine w_o (a := .raw (.bool true)) ?_
 exact end_pureF (fun (r : Bool) => (.raw (.bool r) : AV)) h (a := .raw (.bool true)) rfl rfl rfl
 refine w_o (a := .raw (.bool false)) (h := op_q (q_bool rfl hc11)) ?_
 refine w_met rfl rfl ?_
 refine w_o (a := .ptr 0 1) ?_
 refine w_met rfl rfl ?_
 refine w_o (a := .raw (.int .i64 e.fr)) ?_
 refine w_met rfl rfl ?_
 refine w_o (a := .ptr 0 2) ?_
 refine w_met rfl rfl ?_
 refine w_o (a := .raw (.int .i64 e.to)) ?_
 refine w_met rfl rfl ?_
 refine w_o (a := .raw (.bool (decide (e.fr < e.to)))) ?_
 refine w_o (a := .raw (.bool (decide (e.fr < e.to)))) ?_
 refine w_o (a := .raw (.bool (decide (e.fr < e.to)))) ?_
 exact end_pureF (fun (r : Bool) => (.raw (.bool r) : AV)) h (a := .raw (.bool (decide (e.fr < e.to)))) rfl rfl rfl
def F_rat (fuel : Nat) (l : (List En)) : Option Int :=
  (cutE (τ := Int) (loopE (β := Int × Int) (fun s1 => (bif (decide (s1.2 < (List.length l : Int))) then (cutE (τ := Int) (chk (0 ≤ s1.2 ∧ s1.2 < (List.length l : Int)) (letE (ix l s1.2) (fun x1 => (bif (x1.k != 1) then (chk (0 ≤ s1.2 ∧ s1.2 < (List.length l : Int)) (letE (ix l s1.2) (fun x2 => (some (Sum.inl (x2.to)))))) else (some (Sum.inl (s1.1))))))) (fun j2 => (chk (-9223372036854775808 ≤ (s1.2 + 1) ∧ (s1.2 + 1) < 9223372036854775808) (some (Sum.inl (j2, (s1.2 + 1))))))) else (some (Sum.inr (Sum.inl (s1.1)))))) fuel (0, 0)) (fun j1 => (some j1)))
theorem ent32 : Ent Tryz.prog 32 := enters_of Tryz.func32 (by kernel_rfl) rfl
set_option maxRecDepth 100000 in
set_option maxHeartbeats 4000000 in
theorem rat_sh (fuel : Nat) (l : (List En)) (r : Int) (h : F_rat fuel l = some r) : Pure (ITP Tryz.prog) Tryz.prog 32 [.list (List.length (l : List En)) (Enc.cellsL (l : List En)) .none] (.raw (.int .i64 r)) := by
 obtain ⟨d, hd⟩ : ∃ d, Tryz.f32.body = some d := ⟨_, rfl⟩
 refine pure_of mix Tryz.func32 hd ent32 ?_
 cases hd
 unfold F_rat at h
 refine w_start (by dsimp only [abeginS, Tryz.f32, List.length_cons, List.length_nil, Nat.zero_add, Nat.reduceAdd, Nat.reduceSub, List.replicate, List.cons_append, List.nil_append]) (by dsimp only [St.empty]) ?_
 refine w_seq (w_region ?_)
 refine w_o (a := .raw (.int .i64 0)) ?_
 refine w_seq (w_region ?_)
 refine w_o (a := .raw (.int .i64 0)) ?_
 refine w_cutF h [0, 1, 2, 3, 4, 5, 6, 7, 8, 9, 10, 11, 12, 13, 14, 15, 16, 17, 18, 19, 20, 21, 22] (fun j1 => [(3, .raw (.int .i64 j1))]) (fun j1 => ⟨[], [], [], 0, false⟩) ?_ ?_
 intro or1 h hr1
 refine w_seq (w_region ?_)
 refine w_o (a := .raw (.int .i64 0)) ?_
 refine w_block ?_
 refine w_loopF h [1, 2, 3, 4, 5, 6, 7, 8, 9, 10, 11, 12, 13, 14, 15, 16, 17, 18, 19, 20, 21, 22] (fun s1 => [(3, .raw (.int .i64 s1.1)), (4, .raw (.int .i64 s1.2))]) (fun s1 => ⟨[], [], [], 0, false⟩) ?_ ?_
 exact wm_of (bl 23 25) (by kernel_rfl) (by kernel_rfl)
 intro s1 p1 h
 refine w_start (by dsimp only [setAll, topAll, List.foldl, List.set]) rfl ?_
 refine w_seq ?_
 refine w_seq (w_region ?_)
 refine w_o (a := .raw (.int .i64 s1.2)) ?_
 refine w_o (a := .list (List.length (l : List En)) (Enc.cellsL (l : List En)) .none) ?_
 refine w_o (a := .raw (.int .i64 (List.length l : Int))) ?_
 refine w_o (a := .raw (.bool (decide (s1.2 < (List.length l : Int))))) ?_
 refine bif_e h (fun hc1 h => ?_) (fun hc1 h => ?_)
 refine w_condT hc1 rfl ?_
 refine w_cutF h [3, 5, 6, 7, 8, 11, 12, 13, 14, 15, 16, 17, 18, 19, 20, 21] (fun j2 => [(3, .raw (.int .i64 j2))]) (fun j2 => ⟨[], [], [], 0, false⟩) ?_ ?_
 intro or2 h hr2
 refine w_block ?_
 refine w_seq (w_region ?_)
 refine w_o (a := .list (List.length (l : List En)) (Enc.cellsL (l : List En)) .none) ?_
 refine w_o (a := .raw (.int .i64 s1.2)) ?_
 obtain ⟨g1, h⟩ := chk_e h
 obtain ⟨x1, hx1, h⟩ := letE_e h
 refine w_o (a := .iptr (Enc.cells x1 ++ Enc.cellsL (List.drop (Int.toNat s1.2 + 1) l))) (h := op_q (by rw [← hx1]; exact (q_idx (α := En) (l := l) g1 rfl rfl rfl rfl rfl))) ?_
 refine w_o (a := .iptr (List.drop 0 (Enc.cells x1 ++ Enc.cellsL (List.drop (Int.toNat s1.2 + 1) l)))) ?_
 refine w_o (a := .raw (.int .u8 x1.k)) ?_
 refine w_o (a := .raw (.bool (x1.k != 1))) ?_
 refine bif_e h (fun hc2 h => ?_) (fun hc2 h => ?_)
 refine w_condT hc2 rfl ?_
 refine w_region (k0 := 0) (id := 6) ?_
 refine w_o (a := .list (List.length (l : List En)) (Enc.cellsL (l : List En)) .none) ?_
 refine w_o (a := .raw (.int .i64 s1.2)) ?_
 obtain ⟨g2, h⟩ := chk_e h
 obtain ⟨x2, hx2, h⟩ := letE_e h
 refine w_o (a := .iptr (Enc.cells x2 ++ Enc.cellsL (List.drop (Int.toNat s1.2 + 1) l))) (h := op_q (by rw [← hx2]; exact (q_idx (α := En) (l := l) g2 rfl rfl rfl rfl rfl))) ?_
 refine w_o (a := .iptr (List.drop 2 (Enc.cells x2 ++ Enc.cellsL (List.drop (Int.toNat s1.2 + 1) l)))) ?_
 refine w_o (a := .raw (.int .i64 x2.to)) ?_
 refine w_o (a := .raw (.int .i64 x2.to)) ?_
 refine cut_done (o := or2) (x2.to) h ?_
 exact wm_of (bl 23 4195871) (by kernel_rfl) (by kernel_rfl)
 refine w_condF hc2 rfl ?_
 refine cut_done (o := or2) (s1.1) h ?_
 exact wm_of (bl 23 4195871) (by kernel_rfl) (by kernel_rfl)
 intro j2 h
 refine w_start (by dsimp only [setAll, topAll, List.foldl, List.set]) rfl ?_
 refine w_region (k0 := 0) (id := 4) ?_
 refine w_o (a := .raw (.int .i64 s1.2)) ?_
 obtain ⟨g3, h⟩ := chk_e h
 refine w_o (a := .raw (.int .i64 (s1.2 + 1))) (h := op_q (q_add rfl rfl rfl rfl g3.1 g3.2)) ?_
 refine w_o (a := .raw (.int .i64 (s1.2 + 1))) ?_
 refine loop_next (p := p1) (j2, (s1.2 + 1)) h ?_
 exact wm_of (bl 23 25) (by kernel_rfl) (by kernel_rfl)
 refine w_condF hc1 rfl ?_
 refine loop_exit h (fun h => ?_)
 refine cut_done (o := or1) (s1.1) h ?_
 exact wm_of (bl 23 8) (by kernel_rfl) (by kernel_rfl)
 intro j1 h
 refine w_start (by dsimp only [setAll, topAll, List.foldl, List.set]) rfl ?_
 refine w_seq (w_region ?_)
 refine w_o (a := .raw (.int .i64 j1)) ?_
 refine w_o (a := .raw (.int .i64 j1)) ?_
 exact end_pureF (fun (r : Int) => (.raw (.int .i64 r) : AV)) h (a := .raw (.int .i64 j1)) rfl rfl rfl
def F_rline (fuel : Nat) (e : En) : Option (List UInt8) :=
  (bif (e.k == 1) then (bindE (F_rbytes fuel e.b (RSet.mk false)) (fun x1 => (chk (List.length ([115, 101, 110, 100, 32, 34] : List UInt8) + List.length x1 ≤ 9223372036854775807) (chk (List.length (([115, 101, 110, 100, 32, 34] : List UInt8) ++ x1) + List.length ([34] : List UInt8) ≤ 9223372036854775807) (some ((([115, 101, 110, 100, 32, 34] : List UInt8) ++ x1) ++ ([34] : List UInt8))))))) else (bif (e.k == 2) then (chk (0 ≤ e.fr ∧ e.fr < 9223372036854775808) (letE (Lib.itoa e.fr) (fun x2 => (chk (List.length ([116, 97, 107, 101, 32] : List UInt8) + List.length x2 ≤ 9223372036854775807) (chk (List.length (([116, 97, 107, 101, 32] : List UInt8) ++ x2) + List.length ([32] : List UInt8) ≤ 9223372036854775807) (chk (0 ≤ e.to ∧ e.to < 9223372036854775808) (letE (Lib.itoa e.to) (fun x3 => (chk (List.length ((([116, 97, 107, 101, 32] : List UInt8) ++ x2) ++ ([32] : List UInt8)) + List.length x3 ≤ 9223372036854775807) (some (((([116, 97, 107, 101, 32] : List UInt8) ++ x2) ++ ([32] : List UInt8)) ++ x3))))))))))) else (chk (0 ≤ e.fr ∧ e.fr < 9223372036854775808) (letE (Lib.itoa e.fr) (fun x4 => (chk (List.length ([108, 111, 115, 101, 32] : List UInt8) + List.length x4 ≤ 9223372036854775807) (chk (List.length (([108, 111, 115, 101, 32] : List UInt8) ++ x4) + List.length ([32] : List UInt8) ≤ 9223372036854775807) (chk (0 ≤ e.to ∧ e.to < 9223372036854775808) (letE (Lib.itoa e.to) (fun x5 => (chk (List.length ((([108, 111, 115, 101, 32] : List UInt8) ++ x4) ++ ([32] : List UInt8)) + List.length x5 ≤ 9223372036854775807) (some (((([108, 111, 115, 101, 32] : List UInt8) ++ x4) ++ ([32] : List UInt8)) ++ x5)))))))))))))
theorem ent62 : Ent Tryz.prog 62 := enters_of Tryz.func62 (by kernel_rfl) rfl
set_option maxRecDepth 100000 in
set_option maxHeartbeats 4000000 in
theorem rline_sh (fuel : Nat) (e : En) (r : (List UInt8)) (h : F_rline fuel e = some r) : Pure (ITP Tryz.prog) Tryz.prog 62 [.agg (Enc.cells (e : En))] (.raw (.string (bs r))) := by
 obtain ⟨d, hd⟩ : ∃ d, Tryz.f62.body = some d := ⟨_, rfl⟩
 refine pure_of mix Tryz.func62 hd ent62 ?_
 cases hd
 unfold F_rline at h
 refine w_start (by dsimp only [abeginS, Tryz.f62, List.length_cons, List.length_nil, Nat.zero_add, Nat.reduceAdd, Nat.reduceSub, List.replicate, List.cons_append, List.nil_append]) (by dsimp only [St.empty]) ?_
 refine w_seq (w_region ?_)
 refine w_om (a := .ptr 0 0) (σ'' := ⟨[(67, (Enc.cells (e : En)))], [], [], 0, false⟩) ?_
 refine w_o (a := .raw (.string (bs ([] : List UInt8)))) ?_
 refine w_seq ?_
 refine w_seq (w_region ?_)
 refine w_o (a := .ptr 0 0) ?_
 refine w_o (a := .raw (.int .u8 e.k)) ?_
 refine w_o (a := .raw (.bool (e.k == 1))) ?_
 refine bif_e h (fun hc1 h => ?_) (fun hc1 h => ?_)
 refine w_condT hc1 rfl ?_
 refine w_seq ?_
 refine w_draw (k0 := 0) (id := 2) 4 (by kernel_rfl) (by kernel_rfl) ?_
 refine h_o (a := .ptr 0 3) ?_
 refine h_o (a := .raw (.string (bs e.b))) ?_
 refine h_o (a := .list (List.length (([34] : List UInt8) : List UInt8)) (Enc.cellsL (([34] : List UInt8) : List UInt8)) .full) (h := q_lit (α := UInt8) (l := ([34] : List UInt8)) (cs := [.raw (.int .u8 34)]) rfl rfl) ?_
 refine h_call (args' := [.list (List.length (([34] : List UInt8) : List UInt8)) (Enc.cellsL (([34] : List UInt8) : List UInt8)) .none]) (r := .agg (Enc.cells ((RSet.mk false) : RSet))) rof_pure rfl rfl rfl (stripL_cons (strip_l (Enc.cloL _)) rfl) (okTrimL_cons (okTrim_l (Enc.cloL _)) rfl) (by dsimp only [aput, List.set]) ?_
 refine h_end ?_
 obtain ⟨x1, hx1, h⟩ := bindE_e h
 refine w_callc (args' := [.raw (.string (bs e.b)), .agg (Enc.cells ((RSet.mk false) : RSet))]) (r := .raw (.string (bs x1))) (rbytes_sh fuel e.b (RSet.mk false) x1 hx1) rfl rfl (stripL_cons rfl (stripL_cons (strip_c (clo_agg (Enc.clo _))) rfl)) (okTrimL_cons rfl (okTrimL_cons (okTrim_clo _ _ (clo_agg (Enc.clo _))) rfl)) (by dsimp only [aput, List.set]) ?_
 obtain ⟨g1, h⟩ := chk_e h
 refine w_o (a := .raw (.string (bs (([115, 101, 110, 100, 32, 34] : List UInt8) ++ x1)))) (h := op_q (q_stradd g1 rfl rfl rfl)) ?_
 obtain ⟨g2, h⟩ := chk_e h
 refine w_o (a := .raw (.string (bs ((([115, 101, 110, 100, 32, 34] : List UInt8) ++ x1) ++ ([34] : List UInt8))))) (h := op_q (q_stradd g2 rfl rfl rfl)) ?_
 refine w_o (a := .raw (.string (bs ((([115, 101, 110, 100, 32, 34] : List UInt8) ++ x1) ++ ([34] : List UInt8))))) ?_
 exact end_pureF (fun (r : (List UInt8)) => (.raw (.string (bs r)) : AV)) h (a := .raw (.string (bs ((([115, 101, 110, 100, 32, 34] : List UInt8) ++ x1) ++ ([34] : List UInt8))))) rfl rfl rfl
 refine w_condF hc1 rfl ?_
 refine w_seq ?_
 refine w_seq (w_region ?_)
 refine w_o (a := .ptr 0 0) ?_
 refine w_o (a := .raw (.int .u8 e.k)) ?_
 refine w_o (a := .raw (.bool (e.k == 2))) ?_
 refine bif_e h (fun hc2 h => ?_) (fun hc2 h => ?_)
 refine w_condT hc2 rfl ?_
 refine w_seq ?_
 refine w_draw (k0 := 0) (id := 4) 8 (by kernel_rfl) (by kernel_rfl) ?_
 refine h_o (a := .ptr 0 1) ?_
 refine h_o (a := .raw (.int .i64 e.fr)) ?_
 obtain ⟨g3, h⟩ := chk_e h
 obtain ⟨x2, hx2, h⟩ := letE_e h
 refine h_call (args' := [.raw (.int .i64 e.fr)]) (r := .raw (.string (bs x2))) (by rw [← hx2]; exact (dec_pure e.fr g3)) rfl rfl rfl (stripL_cons rfl rfl) (by kernel_rfl) (by dsimp only [aput, List.set]) ?_
 obtain ⟨g4, h⟩ := chk_e h
 refine h_o (a := .raw (.string (bs (([116, 97, 107, 101, 32] : List UInt8) ++ x2)))) (h := q_stradd g4 rfl rfl rfl) ?_
 obtain ⟨g5, h⟩ := chk_e h
 refine h_o (a := .raw (.string (bs ((([116, 97, 107, 101, 32] : List UInt8) ++ x2) ++ ([32] : List UInt8))))) (h := q_stradd g5 rfl rfl rfl) ?_
 refine h_o (a := .ptr 0 2) ?_
 refine h_o (a := .raw (.int .i64 e.to)) ?_
 obtain ⟨g6, h⟩ := chk_e h
 obtain ⟨x3, hx3, h⟩ := letE_e h
 refine h_call (args' := [.raw (.int .i64 e.to)]) (r := .raw (.string (bs x3))) (by rw [← hx3]; exact (dec_pure e.to g6)) rfl rfl rfl (stripL_cons rfl rfl) (by kernel_rfl) (by dsimp only [aput, List.set]) ?_
 refine h_end ?_
 obtain ⟨g7, h⟩ := chk_e h
 refine w_o (a := .raw (.string (bs (((([116, 97, 107, 101, 32] : List UInt8) ++ x2) ++ ([32] : List UInt8)) ++ x3)))) (h := op_q (q_stradd g7 rfl rfl rfl)) ?_
 refine w_o (a := .raw (.string (bs (((([116, 97, 107, 101, 32] : List UInt8) ++ x2) ++ ([32] : List UInt8)) ++ x3)))) ?_
 exact end_pureF (fun (r : (List UInt8)) => (.raw (.string (bs r)) : AV)) h (a := .raw (.string (bs (((([116, 97, 107, 101, 32] : List UInt8) ++ x2) ++ ([32] : List UInt8)) ++ x3)))) rfl rfl rfl
 refine w_condF hc2 rfl ?_
 refine w_seq ?_
 refine w_draw (k0 := 0) (id := 5) 8 (by kernel_rfl) (by kernel_rfl) ?_
 refine h_o (a := .ptr 0 1) ?_
 refine h_o (a := .raw (.int .i64 e.fr)) ?_
 obtain ⟨g8, h⟩ := chk_e h
 obtain ⟨x4, hx4, h⟩ := letE_e h
 refine h_call (args' := [.raw (.int .i64 e.fr)]) (r := .raw (.string (bs x4))) (by rw [← hx4]; exact (dec_pure e.fr g8)) rfl rfl rfl (stripL_cons rfl rfl) (by kernel_rfl) (by dsimp only [aput, List.set]) ?_
 obtain ⟨g9, h⟩ := chk_e h
 refine h_o (a := .raw (.string (bs (([108, 111, 115, 101, 32] : List UInt8) ++ x4)))) (h := q_stradd g9 rfl rfl rfl) ?_
 obtain ⟨g10, h⟩ := chk_e h
 refine h_o (a := .raw (.string (bs ((([108, 111, 115, 101, 32] : List UInt8) ++ x4) ++ ([32] : List UInt8))))) (h := q_stradd g10 rfl rfl rfl) ?_
 refine h_o (a := .ptr 0 2) ?_
 refine h_o (a := .raw (.int .i64 e.to)) ?_
 obtain ⟨g11, h⟩ := chk_e h
 obtain ⟨x5, hx5, h⟩ := letE_e h
 refine h_call (args' := [.raw (.int .i64 e.to)]) (r := .raw (.string (bs x5))) (by rw [← hx5]; exact (dec_pure e.to g11)) rfl rfl rfl (stripL_cons rfl rfl) (by kernel_rfl) (by dsimp only [aput, List.set]) ?_
 refine h_end ?_
 obtain ⟨g12, h⟩ := chk_e h
 refine w_o (a := .raw (.string (bs (((([108, 111, 115, 101, 32] : List UInt8) ++ x4) ++ ([32] : List UInt8)) ++ x5)))) (h := op_q (q_stradd g12 rfl rfl rfl)) ?_
 refine w_o (a := .raw (.string (bs (((([108, 111, 115, 101, 32] : List UInt8) ++ x4) ++ ([32] : List UInt8)) ++ x5)))) ?_
 exact end_pureF (fun (r : (List UInt8)) => (.raw (.string (bs r)) : AV)) h (a := .raw (.string (bs (((([108, 111, 115, 101, 32] : List UInt8) ++ x4) ++ ([32] : List UInt8)) ++ x5)))) rfl rfl rfl
def F_rend (fuel : Nat) (s : (List UInt8)) : Option (Ed × Bool) :=
  (cutE (τ := Unit) (loopE (β := Int) (fun s1 => (bif (decide (s1 ≤ 5)) then (cutE (τ := Unit) (chk (0 ≤ s1 ∧ s1 < 256) (letE (nameE s1) (fun x1 => (bif (s == x1) then (bif (s1 != 2) then (some (Sum.inr (Sum.inr (Sum.inr ((Ed.mk s1 0), true))))) else (some (Sum.inl ()))) else (some (Sum.inl ())))))) (fun j2 => (some (Sum.inl ((IntKind.u8.wrap (s1 + 1))))))) else (some (Sum.inr (Sum.inl ()))))) fuel (1)) (fun j1 => (bif (decide ((List.length s : Int) < 5)) then (some ((Ed.mk 0 0), false)) else (chk (0 ≤ 0 ∧ 0 ≤ (4 : Int) ∧ (4 : Int) ≤ (List.length s : Int)) (letE (sub s 0 (4 : Int)) (fun x2 => (bif (!(x2 == ([101, 120, 105, 116] : List UInt8))) then (some ((Ed.mk 0 0), false)) else (chk (0 ≤ (4 : Int) ∧ (4 : Int) ≤ (List.length s : Int) ∧ (List.length s : Int) ≤ (List.length s : Int)) (letE (sub s (4 : Int) (List.length s : Int)) (fun x3 => (bindE (F_rnums fuel x3) (fun x4 => (bif ((List.length x4 : Int) != 1) then (some ((Ed.mk 0 0), false)) else (chk (0 ≤ (0 : Int) ∧ (0 : Int) < (List.length x4 : Int)) (bif (decide ((ix x4 (0 : Int)) > 255)) then (some ((Ed.mk 0 0), false)) else (chk (0 ≤ (0 : Int) ∧ (0 : Int) < (List.length x4 : Int)) (some ((Ed.mk 2 (ix x4 (0 : Int))), true))))))))))))))))))
theorem ent30 : Ent Tryz.prog 30 := enters_of Tryz.func30 (by kernel_rfl) rfl
set_option maxRecDepth 100000 in
set_option maxHeartbeats 4000000 in
theorem rend_sh (fuel : Nat) (s : (List UInt8)) (r : (Ed × Bool)) (h : F_rend fuel s = some r) : Pure (ITP Tryz.prog) Tryz.prog 30 [.raw (.string (bs s))] (.tup [.agg (Enc.cells (r.1 : Ed)), .raw (.bool r.2)]) := by
 obtain ⟨d, hd⟩ : ∃ d, Tryz.f30.body = some d := ⟨_, rfl⟩
 refine pure_of mix Tryz.func30 hd ent30 ?_
 cases hd
 unfold F_rend at h
 refine w_start (by dsimp only [abeginS, Tryz.f30, List.length_cons, List.length_nil, Nat.zero_add, Nat.reduceAdd, Nat.reduceSub, List.replicate, List.cons_append, List.nil_append]) (by dsimp only [St.empty]) ?_
 refine w_seq (w_region ?_)
 refine w_om (a := .ptr 0 0) (σ'' := ⟨[(32, (Enc.cells ((Ed.mk 0 0) : Ed)))], [], [], 0, false⟩) ?_
 refine w_o (a := .raw (.bool false)) ?_
 refine w_cutF h [1, 3, 4, 5, 6, 7, 8, 9, 10, 11, 12, 13, 14, 15, 16, 17, 18, 19, 20, 21, 22, 23, 24, 25, 26, 27, 28, 29, 30, 31, 32, 33, 34, 35, 36, 37, 38, 39, 40, 41, 42, 43, 44, 45] (fun j1 => []) (fun j1 => ⟨[(32, (Enc.cells ((Ed.mk 0 0) : Ed)))], [], [], 0, false⟩) ?_ ?_
 intro or1 h hr1
 refine w_seq (w_region ?_)
 refine w_o (a := .raw (.int .u8 1)) ?_
 refine w_block ?_
 refine w_loopF h [1, 3, 4, 5, 6, 7, 8, 9, 10, 11, 12, 13, 14, 15, 16, 17, 18, 19, 20, 21, 22, 23, 24, 25, 26, 27, 28, 29, 30, 31, 32, 33, 34, 35, 36, 37, 38, 39, 40, 41, 42, 43, 44, 45] (fun s1 => [(4, .raw (.int .u8 s1))]) (fun s1 => ⟨[(32, (Enc.cells ((Ed.mk 0 0) : Ed)))], [], [], 0, false⟩) ?_ ?_
 exact wm_of (bl 46 21) (by kernel_rfl) (by kernel_rfl)
 intro s1 p1 h
 refine w_start (by dsimp only [setAll, topAll, List.foldl, List.set]) rfl ?_
 refine w_seq ?_
 refine w_seq (w_region ?_)
 refine w_o (a := .raw (.int .u8 s1)) ?_
 refine w_o (a := .raw (.bool (decide (s1 ≤ 5)))) ?_
 refine bif_e h (fun hc1 h => ?_) (fun hc1 h => ?_)
 refine w_condT hc1 rfl ?_
 refine w_cutF h [3, 6, 7, 10, 11, 12, 13, 14, 15, 16, 17, 18, 19] (fun j2 => []) (fun j2 => ⟨[(32, (Enc.cells ((Ed.mk 0 0) : Ed)))], [], [], 0, false⟩) ?_ ?_
 intro or2 h hr2
 refine w_block ?_
 refine w_seq (w_region ?_)
 refine w_o (a := .raw (.string (bs s))) ?_
 refine w_o (a := .raw (.int .u8 s1)) ?_
 obtain ⟨g1, h⟩ := chk_e h
 obtain ⟨x1, hx1, h⟩ := letE_e h
 refine w_callc (args' := [.raw (.int .u8 s1)]) (r := .raw (.string (bs x1))) (by rw [← hx1]; exact (nameR_pure s1 g1)) rfl rfl (stripL_cons rfl rfl) (by kernel_rfl) (by dsimp only [aput, List.set]) ?_
 refine w_o (a := .raw (.bool (s == x1))) (h := op_q (q_streq rfl rfl rfl)) ?_
 refine bif_e h (fun hc2 h => ?_) (fun hc2 h => ?_)
 refine w_o (a := .raw (.bool true)) (h := op_q (q_bool rfl hc2)) ?_
 refine w_met rfl rfl ?_
 refine w_o (a := .raw (.int .u8 s1)) ?_
 refine w_met rfl rfl ?_
 refine w_o (a := .raw (.bool (s1 != 2))) ?_
 refine w_o (a := .raw (.bool (s1 != 2))) ?_
 refine bif_e h (fun hc3 h => ?_) (fun hc3 h => ?_)
 refine w_condT hc3 rfl ?_
 refine w_seq (w_region ?_)
 refine w_o (a := .raw (.int .u8 s1)) ?_
 refine w_o (a := .agg (Enc.cells ((Ed.mk s1 0) : Ed))) ?_
 refine w_om (σ'' := ⟨[(32, (Enc.cells ((Ed.mk s1 0) : Ed)))], [], [], 0, false⟩) (h := op_storeW (n := 2) rfl rfl rfl rfl rfl rfl rfl rfl (by decide)) ?_
 refine w_o (a := .raw (.bool true)) ?_
 replace h := cut_inr h hr2
 refine loop_exit h (fun h => ?_)
 replace h := cut_inr h hr1
 exact end_pureF (fun (r : (Ed × Bool)) => (.tup [.agg (Enc.cells (r.1 : Ed)), .raw (.bool r.2)] : AV)) h (a := .tup [.agg (Enc.cells ((Ed.mk s1 0) : Ed)), .raw (.bool true)]) rfl (show okTrimL _ _ = true from (okTrimL_cons (okTrim_clo _ _ (clo_agg (Enc.clo _))) (by kernel_rfl))) (show AV.tup (stripL _) = _ from congrArg AV.tup (stripL_cons (strip_c (clo_agg (Enc.clo _))) (stripL_cons rfl rfl)))
 refine w_condF hc3 rfl ?_
 refine cut_done (o := or2) () h ?_
 exact wm_of (bl 46 70368743129911) (by kernel_rfl) (by kernel_rfl)
 refine w_o (a := .raw (.bool false)) (h := op_q (q_bool rfl hc2)) ?_
 refine w_po ?_
 refine w_po ?_
 refine w_o (a := .raw (.bool false)) ?_
 refine w_false rfl ?_
 refine cut_done (o := or2) () h ?_
 exact wm_of (bl 46 70368743129911) (by kernel_rfl) (by kernel_rfl)
 intro j2 h
 refine w_start (by dsimp only [setAll, topAll, List.foldl, List.set]) rfl ?_
 refine w_region (k0 := 0) (id := 3) ?_
 refine w_o (a := .raw (.int .u8 s1)) ?_
 refine w_o (a := .raw (.int .u8 (IntKind.u8.wrap (s1 + 1)))) ?_
 refine w_o (a := .raw (.int .u8 (IntKind.u8.wrap (s1 + 1)))) ?_
 refine loop_next (p := p1) ((IntKind.u8.wrap (s1 + 1))) h ?_
 exact wm_of (bl 46 21) (by kernel_rfl) (by kernel_rfl)
 refine w_condF hc1 rfl ?_
 refine loop_exit h (fun h => ?_)
 refine cut_done (o := or1) () h ?_
 exact wm_of (bl 46 5) (by kernel_rfl) (by kernel_rfl)
 intro j1 h
 refine w_start (by dsimp only [setAll, topAll, List.foldl, List.set]) rfl ?_
 refine w_seq ?_
 refine w_seq (w_region ?_)
 refine w_o (a := .raw (.string (bs s))) ?_
 refine w_o (a := .raw (.int .i64 (List.length s : Int))) (h := op_q (q_lenS rfl rfl rfl)) ?_
 refine w_o (a := .raw (.bool (decide ((List.length s : Int) < 5)))) ?_
 refine bif_e h (fun hc4 h => ?_) (fun hc4 h => ?_)
 refine w_o (a := .raw (.bool true)) (h := op_q (q_bool rfl hc4)) ?_
 refine w_po ?_
 refine w_po ?_
 refine w_po ?_
 refine w_o (a := .raw (.bool true)) ?_
 refine w_true rfl ?_
 refine w_seq (w_region ?_)
 refine w_o (a := .agg (Enc.cells ((Ed.mk 0 0) : Ed))) ?_
 refine w_om (σ'' := ⟨[(32, (Enc.cells ((Ed.mk 0 0) : Ed)))], [], [], 0, false⟩) (h := op_storeW (n := 2) rfl rfl rfl rfl rfl rfl rfl rfl (by decide)) ?_
 refine w_o (a := .raw (.bool false)) ?_
 exact end_pureF (fun (r : (Ed × Bool)) => (.tup [.agg (Enc.cells (r.1 : Ed)), .raw (.bool r.2)] : AV)) h (a := .tup [.agg (Enc.cells ((Ed.mk 0 0) : Ed)), .raw (.bool false)]) rfl (show okTrimL _ _ = true from (okTrimL_cons (okTrim_clo _ _ (clo_agg (Enc.clo _))) (by kernel_rfl))) (show AV.tup (stripL _) = _ from congrArg AV.tup (stripL_cons (strip_c (clo_agg (Enc.clo _))) (stripL_cons rfl rfl)))
 refine w_o (a := .raw (.bool false)) (h := op_q (q_bool rfl hc4)) ?_
 refine w_met rfl rfl ?_
 refine w_o (a := .raw (.string (bs s))) ?_
 refine w_met rfl rfl ?_
 obtain ⟨g2, h⟩ := chk_e h
 obtain ⟨x2, hx2, h⟩ := letE_e h
 refine w_o (a := .raw (.string (bs x2))) (h := op_q (by rw [← hx2]; exact (q_ssl_H (l := s) g2 rfl rfl rfl rfl))) ?_
 refine w_met rfl rfl ?_
 refine w_o (a := .raw (.bool (!(x2 == ([101, 120, 105, 116] : List UInt8))))) (h := op_q (q_strne rfl rfl rfl)) ?_
 refine w_o (a := .raw (.bool (!(x2 == ([101, 120, 105, 116] : List UInt8))))) ?_
 refine bif_e h (fun hc5 h => ?_) (fun hc5 h => ?_)
 refine w_condT hc5 rfl ?_
 refine w_seq (w_region ?_)
 refine w_o (a := .agg (Enc.cells ((Ed.mk 0 0) : Ed))) ?_
 refine w_om (σ'' := ⟨[(32, (Enc.cells ((Ed.mk 0 0) : Ed)))], [], [], 0, false⟩) (h := op_storeW (n := 2) rfl rfl rfl rfl rfl rfl rfl rfl (by decide)) ?_
 refine w_o (a := .raw (.bool false)) ?_
 exact end_pureF (fun (r : (Ed × Bool)) => (.tup [.agg (Enc.cells (r.1 : Ed)), .raw (.bool r.2)] : AV)) h (a := .tup [.agg (Enc.cells ((Ed.mk 0 0) : Ed)), .raw (.bool false)]) rfl (show okTrimL _ _ = true from (okTrimL_cons (okTrim_clo _ _ (clo_agg (Enc.clo _))) (by kernel_rfl))) (show AV.tup (stripL _) = _ from congrArg AV.tup (stripL_cons (strip_c (clo_agg (Enc.clo _))) (stripL_cons rfl rfl)))
 refine w_condF hc5 rfl ?_
 refine w_seq (w_region ?_)
 refine w_o (a := .raw (.string (bs s))) ?_
 obtain ⟨g3, h⟩ := chk_e h
 obtain ⟨x3, hx3, h⟩ := letE_e h
 refine w_o (a := .raw (.string (bs x3))) (h := op_q (by rw [← hx3]; exact (q_sslL_ (l := s) g3 rfl rfl rfl rfl))) ?_
 obtain ⟨x4, hx4, h⟩ := bindE_e h
 refine w_callc (args' := [.raw (.string (bs x3))]) (r := .list (List.length (x4 : List Int)) (Enc.cellsL (x4 : List Int)) .none) (rnums_sh fuel x3 x4 hx4) rfl rfl (stripL_cons rfl rfl) (by kernel_rfl) (by dsimp only [aput, List.set]) ?_
 refine w_o (a := .list (List.length (x4 : List Int)) (Enc.cellsL (x4 : List Int)) .none) ?_
 refine w_seq ?_
 refine w_seq (w_region ?_)
 refine w_o (a := .list (List.length (x4 : List Int)) (Enc.cellsL (x4 : List Int)) .none) ?_
 refine w_o (a := .raw (.int .i64 (List.length x4 : Int))) ?_
 refine w_o (a := .raw (.bool ((List.length x4 : Int) != 1))) ?_
 refine bif_e h (fun hc6 h => ?_) (fun hc6 h => ?_)
 refine w_o (a := .raw (.bool true)) (h := op_q (q_bool rfl hc6)) ?_
 refine w_po ?_
 refine w_po ?_
 refine w_po ?_
 refine w_po ?_
 refine w_o (a := .raw (.bool true)) ?_
 refine w_true rfl ?_
 refine w_seq (w_region ?_)
 refine w_o (a := .agg (Enc.cells ((Ed.mk 0 0) : Ed))) ?_
 refine w_om (σ'' := ⟨[(32, (Enc.cells ((Ed.mk 0 0) : Ed)))], [], [], 0, false⟩) (h := op_storeW (n := 2) rfl rfl rfl rfl rfl rfl rfl rfl (by decide)) ?_
 refine w_o (a := .raw (.bool false)) ?_
 exact end_pureF (fun (r : (Ed × Bool)) => (.tup [.agg (Enc.cells (r.1 : Ed)), .raw (.bool r.2)] : AV)) h (a := .tup [.agg (Enc.cells ((Ed.mk 0 0) : Ed)), .raw (.bool false)]) rfl (show okTrimL _ _ = true from (okTrimL_cons (okTrim_clo _ _ (clo_agg (Enc.clo _))) (by kernel_rfl))) (show AV.tup (stripL _) = _ from congrArg AV.tup (stripL_cons (strip_c (clo_agg (Enc.clo _))) (stripL_cons rfl rfl)))
 refine w_o (a := .raw (.bool false)) (h := op_q (q_bool rfl hc6)) ?_
 refine w_met rfl rfl ?_
 refine w_o (a := .list (List.length (x4 : List Int)) (Enc.cellsL (x4 : List Int)) .none) ?_
 refine w_met rfl rfl ?_
 obtain ⟨g4, h⟩ := chk_e h
 refine w_o (a := .iptr (Enc.cells (ix x4 (0 : Int)) ++ Enc.cellsL (List.drop (Int.toNat (0 : Int) + 1) x4))) (h := op_q (q_idx (α := Int) (l := x4) g4 rfl rfl rfl rfl rfl)) ?_
 refine w_met rfl rfl ?_
 refine w_o (a := .raw (.int .i64 (ix x4 (0 : Int)))) ?_
 refine w_met rfl rfl ?_
 refine w_o (a := .raw (.bool (decide ((ix x4 (0 : Int)) > 255)))) ?_
 refine w_o (a := .raw (.bool (decide ((ix x4 (0 : Int)) > 255)))) ?_
 refine bif_e h (fun hc7 h => ?_) (fun hc7 h => ?_)
 refine w_condT hc7 rfl ?_
 refine w_seq (w_region ?_)
 refine w_o (a := .agg (Enc.cells ((Ed.mk 0 0) : Ed))) ?_
 refine w_om (σ'' := ⟨[(32, (Enc.cells ((Ed.mk 0 0) : Ed)))], [], [], 0, false⟩) (h := op_storeW (n := 2) rfl rfl rfl rfl rfl rfl rfl rfl (by decide)) ?_
 refine w_o (a := .raw (.bool false)) ?_
 exact end_pureF (fun (r : (Ed × Bool)) => (.tup [.agg (Enc.cells (r.1 : Ed)), .raw (.bool r.2)] : AV)) h (a := .tup [.agg (Enc.cells ((Ed.mk 0 0) : Ed)), .raw (.bool false)]) rfl (show okTrimL _ _ = true from (okTrimL_cons (okTrim_clo _ _ (clo_agg (Enc.clo _))) (by kernel_rfl))) (show AV.tup (stripL _) = _ from congrArg AV.tup (stripL_cons (strip_c (clo_agg (Enc.clo _))) (stripL_cons rfl rfl)))
 refine w_condF hc7 rfl ?_
 refine w_seq (w_region ?_)
 refine w_o (a := .list (List.length (x4 : List Int)) (Enc.cellsL (x4 : List Int)) .none) ?_
 obtain ⟨g5, h⟩ := chk_e h
 refine w_o (a := .iptr (Enc.cells (ix x4 (0 : Int)) ++ Enc.cellsL (List.drop (Int.toNat (0 : Int) + 1) x4))) (h := op_q (q_idx (α := Int) (l := x4) g5 rfl rfl rfl rfl rfl)) ?_
 refine w_o (a := .raw (.int .i64 (ix x4 (0 : Int)))) ?_
 refine w_o (a := .agg (Enc.cells ((Ed.mk 2 (ix x4 (0 : Int))) : Ed))) ?_
 refine w_om (σ'' := ⟨[(32, (Enc.cells ((Ed.mk 2 (ix x4 (0 : Int))) : Ed)))], [], [], 0, false⟩) (h := op_storeW (n := 2) rfl rfl rfl rfl rfl rfl rfl rfl (by decide)) ?_
 refine w_o (a := .raw (.bool true)) ?_
 exact end_pureF (fun (r : (Ed × Bool)) => (.tup [.agg (Enc.cells (r.1 : Ed)), .raw (.bool r.2)] : AV)) h (a := .tup [.agg (Enc.cells ((Ed.mk 2 (ix x4 (0 : Int))) : Ed)), .raw (.bool true)]) rfl (show okTrimL _ _ = true from (okTrimL_cons (okTrim_clo _ _ (clo_agg (Enc.clo _))) (by kernel_rfl))) (show AV.tup (stripL _) = _ from congrArg AV.tup (stripL_cons (strip_c (clo_agg (Enc.clo _))) (stripL_cons rfl rfl)))
def F_rentry (fuel : Nat) (s : (List UInt8)) (a : Int) : Option (En × Bool) :=
  (bif (decide ((List.length s : Int) < 5)) then (some ((En.mk 0 0 0 []), false)) else (cutE (τ := En) (chk (0 ≤ 0 ∧ 0 ≤ (5 : Int) ∧ (5 : Int) ≤ (List.length s : Int)) (letE (sub s 0 (5 : Int)) (fun x1 => (bif (x1 == ([115, 101, 110, 100, 32] : List UInt8)) then (chk (0 ≤ (5 : Int) ∧ (5 : Int) ≤ (List.length s : Int) ∧ (List.length s : Int) ≤ (List.length s : Int)) (letE (sub s (5 : Int) (List.length s : Int)) (fun x2 => (bindE (F_runquote fuel x2) (fun x3 => (bif (x3.2.2 == 0) then (chk (-9223372036854775808 ≤ ((List.length s : Int) - 5) ∧ ((List.length s : Int) - 5) < 9223372036854775808) (bif (x3.2.1 == ((List.length s : Int) - 5)) then (bindE (F_rright (En.mk 1 0 0 x3.1) a) (fun x4 => (bif x4 then (bindE (F_rline fuel (En.mk 1 0 0 x3.1)) (fun x5 => (some (Sum.inr ((En.mk 1 0 0 x3.1), (x5 == s)))))) else (some (Sum.inr ((En.mk 1 0 0 x3.1), false)))))) else (some (Sum.inr ((En.mk 1 0 0 x3.1), false))))) else (some (Sum.inr ((En.mk 1 0 0 x3.1), false))))))))) else (bif (x1 == ([116, 97, 107, 101, 32] : List UInt8)) then (some (Sum.inl ((En.mk 2 ((En.mk 0 0 0 []).fr) ((En.mk 0 0 0 []).to) ((En.mk 0 0 0 []).b))))) else (bif (x1 == ([108, 111, 115, 101, 32] : List UInt8)) then (some (Sum.inl ((En.mk 3 ((En.mk 0 0 0 []).fr) ((En.mk 0 0 0 []).to) ((En.mk 0 0 0 []).b))))) else (some (Sum.inl ((En.mk 0 0 0 [])))))))))) (fun j1 => (chk (0 ≤ (4 : Int) ∧ (4 : Int) ≤ (List.length s : Int) ∧ (List.length s : Int) ≤ (List.length s : Int)) (letE (sub s (4 : Int) (List.length s : Int)) (fun x6 => (bindE (F_rnums fuel x6) (fun x7 => (bif ((List.length x7 : Int) != 2) then (some ((En.mk 0 0 0 []), false)) else (bif (j1.k == 0) then (some ((En.mk 0 0 0 []), false)) else (chk (0 ≤ (0 : Int) ∧ (0 : Int) < (List.length x7 : Int)) (chk (0 ≤ (1 : Int) ∧ (1 : Int) < (List.length x7 : Int)) (bindE (F_rright (En.mk ((En.mk j1.k (ix x7 (0 : Int)) j1.to j1.b).k) ((En.mk j1.k (ix x7 (0 : Int)) j1.to j1.b).fr) (ix x7 (1 : Int)) ((En.mk j1.k (ix x7 (0 : Int)) j1.to j1.b).b)) a) (fun x8 => (some ((En.mk ((En.mk j1.k (ix x7 (0 : Int)) j1.to j1.b).k) ((En.mk j1.k (ix x7 (0 : Int)) j1.to j1.b).fr) (ix x7 (1 : Int)) ((En.mk j1.k (ix x7 (0 : Int)) j1.to j1.b).b)), x8))))))))))))))))
theorem ent31 : Ent Tryz.prog 31 := enters_of Tryz.func31 (by kernel_rfl) rfl
set_option maxRecDepth 100000 in
set_option maxHeartbeats 64000000 in
theorem rentry_sh (fuel : Nat) (s : (List UInt8)) (a : Int) (r : (En × Bool)) (h : F_rentry fuel s a = some r) : Pure (ITP Tryz.prog) Tryz.prog 31 [.raw (.string (bs s)), .raw (.int .i64 a)] (.tup [.agg (Enc.cells (r.1 : En)), .raw (.bool r.2)]) := by
 obtain ⟨d, hd⟩ : ∃ d, Tryz.f31.body = some d := ⟨_, rfl⟩
 refine pure_of mix Tryz.func31 hd ent31 ?_
 cases hd
 unfold F_rentry at h
 refine w_start (by dsimp only [abeginS, Tryz.f31, List.length_cons, List.length_nil, Nat.zero_add, Nat.reduceAdd, Nat.reduceSub, List.replicate, List.cons_append, List.nil_append]) (by dsimp only [St.empty]) ?_
 refine w_seq (w_region ?_)
 refine w_om (a := .ptr 0 0) (σ'' := ⟨[(67, (Enc.cells ((En.mk 0 0 0 []) : En)))], [], [], 0, false⟩) ?_
 refine w_o (a := .raw (.bool false)) ?_
 refine w_seq ?_
 refine w_seq (w_region ?_)
 refine w_o (a := .raw (.string (bs s))) ?_
 refine w_o (a := .raw (.int .i64 (List.length s : Int))) (h := op_q (q_lenS rfl rfl rfl)) ?_
 refine w_o (a := .raw (.bool (decide ((List.length s : Int) < 5)))) ?_
 refine bif_e h (fun hc1 h => ?_) (fun hc1 h => ?_)
 refine w_condT hc1 rfl ?_
 refine w_seq (w_region ?_)
 refine w_o (a := .agg (Enc.cells ((En.mk 0 0 0 []) : En))) ?_
 refine w_om (σ'' := ⟨[(67, (Enc.cells ((En.mk 0 0 0 []) : En)))], [], [], 0, false⟩) (h := op_storeW (n := 4) rfl rfl rfl rfl rfl rfl rfl rfl (by decide)) ?_
 refine w_o (a := .raw (.bool false)) ?_
 exact end_pureF (fun (r : (En × Bool)) => (.tup [.agg (Enc.cells (r.1 : En)), .raw (.bool r.2)] : AV)) h (a := .tup [.agg (Enc.cells ((En.mk 0 0 0 []) : En)), .raw (.bool false)]) rfl (show okTrimL _ _ = true from (okTrimL_cons (okTrim_clo _ _ (clo_agg (Enc.clo _))) (by kernel_rfl))) (show AV.tup (stripL _) = _ from congrArg AV.tup (stripL_cons (strip_c (clo_agg (Enc.clo _))) (stripL_cons rfl rfl)))
 refine w_condF hc1 rfl ?_
 refine w_seq (w_region ?_)
 refine w_o (a := .agg (Enc.cells ((En.mk 0 0 0 []) : En))) ?_
 refine w_om (a := .ptr 1 0) (σ'' := ⟨[(67, (Enc.cells ((En.mk 0 0 0 []) : En))), (67, (Enc.cells ((En.mk 0 0 0 []) : En)))], [], [], 0, false⟩) ?_
 refine w_om (σ'' := ⟨[(67, (Enc.cells ((En.mk 0 0 0 []) : En))), (67, (Enc.cells ((En.mk 0 0 0 []) : En)))], [], [], 0, false⟩) (h := op_storeW (n := 4) rfl rfl rfl rfl rfl rfl rfl rfl (by decide)) ?_
 refine w_cutF h [2, 3, 5, 7, 8, 9, 10, 11, 12, 13, 14, 15, 16, 17, 18, 19, 20, 21, 22, 23, 24, 25, 26, 27, 28, 29, 30, 31, 32, 33, 34, 35, 36, 37, 38, 39, 40, 41, 42, 43, 44, 45, 46, 47, 48, 49, 50, 51, 52, 53, 54, 55, 56, 57, 58, 59, 60, 61, 62, 63, 64, 65, 66, 67, 68, 69, 70, 71, 72, 73, 74, 75, 76, 77, 78, 79] (fun j1 => []) (fun j1 => ⟨[(67, (Enc.cells ((En.mk 0 0 0 []) : En))), (67, (Enc.cells (j1 : En)))], [], [], 0, false⟩) ?_ ?_
 intro or1 h hr1
 refine w_seq (w_region ?_)
 refine w_o (a := .raw (.string (bs s))) ?_
 obtain ⟨g1, h⟩ := chk_e h
 obtain ⟨x1, hx1, h⟩ := letE_e h
 refine w_o (a := .raw (.string (bs x1))) (h := op_q (by rw [← hx1]; exact (q_ssl_H (l := s) g1 rfl rfl rfl rfl))) ?_
 refine w_block ?_
 refine w_seq (w_region ?_)
 refine w_o (a := .raw (.bool (x1 == ([115, 101, 110, 100, 32] : List UInt8)))) (h := op_q (q_streq rfl rfl rfl)) ?_
 refine w_o (a := .raw (.bool (x1 == ([115, 101, 110, 100, 32] : List UInt8)))) ?_
 refine bif_e h (fun hc2 h => ?_) (fun hc2 h => ?_)
 refine w_condT hc2 rfl ?_
 refine w_seq (w_region ?_)
 refine w_o (a := .raw (.string (bs s))) ?_
 obtain ⟨g2, h⟩ := chk_e h
 obtain ⟨x2, hx2, h⟩ := letE_e h
 refine w_o (a := .raw (.string (bs x2))) (h := op_q (by rw [← hx2]; exact (q_sslL_ (l := s) g2 rfl rfl rfl rfl))) ?_
 obtain ⟨x3, hx3, h⟩ := bindE_e h
 refine w_callc (args' := [.raw (.string (bs x2))]) (r := .tup [.raw (.string (bs x3.1)), .raw (.int .i64 x3.2.1), .raw (.int .i64 x3.2.2)]) (runquote_sh fuel x2 x3 hx3) rfl rfl (stripL_cons rfl rfl) (by kernel_rfl) (by dsimp only [aput, List.set]) ?_
 refine w_o (a := .tup [.raw (.string (bs x3.1)), .raw (.int .i64 x3.2.1), .raw (.int .i64 x3.2.2)]) ?_
 refine w_o (a := .raw (.string (bs x3.1))) ?_
 refine w_o (a := .raw (.int .i64 x3.2.1)) ?_
 refine w_o (a := .raw (.int .i64 x3.2.2)) ?_
 refine w_o (a := .raw (.string (bs x3.1))) ?_
 refine w_o (a := .raw (.int .i64 x3.2.1)) ?_
 refine w_o (a := .raw (.int .i64 x3.2.2)) ?_
 refine w_seq (w_region ?_)
 refine w_o (a := .raw (.string (bs x3.1))) ?_
 refine w_o (a := .agg (Enc.cells ((En.mk 1 0 0 x3.1) : En))) ?_
 refine w_om (σ'' := ⟨[(67, (Enc.cells ((En.mk 0 0 0 []) : En))), (67, (Enc.cells ((En.mk 1 0 0 x3.1) : En)))], [], [], 0, false⟩) (h := op_storeW (n := 4) rfl rfl rfl rfl rfl rfl rfl rfl (by decide)) ?_
 refine bif_e h (fun hc3 h => ?_) (fun hc3 h => ?_)
 obtain ⟨g3, h⟩ := chk_e h
 refine bif_e h (fun hc4 h => ?_) (fun hc4 h => ?_)
 obtain ⟨x4, hx4, h⟩ := bindE_e h
 refine bif_e h (fun hc5 h => ?_) (fun hc5 h => ?_)
 obtain ⟨x5, hx5, h⟩ := bindE_e h
 refine w_seqAny (id := 8) [.raw (.string (bs s)), .raw (.int .i64 a), .raw undef, .raw undef, .ptr 0 0, .raw (.bool (x5 == s)), .ptr 1 0, .raw (.string (bs x3.1)), .raw (.int .i64 x3.2.1), .raw (.int .i64 x3.2.2), .raw undef, .raw (.string (bs s)), .raw (.int .i64 (List.length s : Int)), .raw (.bool (decide ((List.length s : Int) < 5))), .raw undef, .agg (Enc.cells ((En.mk 0 0 0 []) : En)), .raw (.string (bs s)), .raw (.string (bs x1)), .raw (.bool (x1 == ([115, 101, 110, 100, 32] : List UInt8))), .raw (.bool (x1 == ([115, 101, 110, 100, 32] : List UInt8))), .tup [.raw (.string (bs x3.1)), .raw (.int .i64 x3.2.1), .raw (.int .i64 x3.2.2)], .raw (.string (bs s)), .raw (.string (bs x2)), .tup [.raw (.string (bs x3.1)), .raw (.int .i64 x3.2.1), .raw (.int .i64 x3.2.2)], .raw (.string (bs x3.1)), .raw (.int .i64 x3.2.1), .raw (.int .i64 x3.2.2), .raw (.string (bs x3.1)), .agg (Enc.cells ((En.mk 1 0 0 x3.1) : En)), .agg (Enc.cells ((En.mk 1 0 0 x3.1) : En)), .raw (.int .i64 x3.2.2), .raw (.bool (x3.2.2 == 0)), .raw (.bool true), .raw (.int .i64 x3.2.1), .raw (.string (bs s)), .raw (.int .i64 (List.length s : Int)), .raw (.int .i64 ((List.length s : Int) - 5)), .raw (.bool (x3.2.1 == ((List.length s : Int) - 5))), .raw (.bool (x3.2.1 == ((List.length s : Int) - 5))), .raw (.bool true), .agg (Enc.cells ((En.mk 1 0 0 x3.1) : En)), .raw (.int .i64 a), .raw (.bool x4), .raw (.bool x4), .raw (.bool true), .agg (Enc.cells ((En.mk 1 0 0 x3.1) : En)), .raw (.string (bs x5)), .raw (.string (bs s)), .raw (.bool (x5 == s)), .raw (.bool (x5 == s)), .raw undef, .raw undef, .raw undef, .raw undef, .raw undef, .raw undef, .raw undef, .raw undef, .raw undef, .raw undef, .raw undef, .raw undef, .raw undef, .raw undef, .raw undef, .raw undef, .raw undef, .raw undef, .raw undef, .raw undef, .raw undef, .raw undef, .raw undef, .raw undef, .raw undef, .raw undef, .raw undef, .raw undef, .raw undef, .raw undef] ⟨[(67, (Enc.cells ((En.mk 1 0 0 x3.1) : En))), (67, (Enc.cells ((En.mk 1 0 0 x3.1) : En)))], [], [], 0, false⟩ ?_ ?_
 refine aany_intro (fun ops hops FIN hFIN S0 hS0 => ?_)
 let v29 : AV := .agg (Enc.cells ((En.mk 1 0 0 x3.1) : En))
 let v30 : AV := .raw (.int .i64 x3.2.2)
 let v31 : AV := .raw (.bool (x3.2.2 == 0))
 let v32 : AV := .raw (.bool true)
 let v33 : AV := .raw (.int .i64 x3.2.1)
 let v34 : AV := .raw (.string (bs s))
 let v35 : AV := .raw (.int .i64 (List.length s : Int))
 let v36 : AV := .raw (.int .i64 ((List.length s : Int) - 5))
 let v37 : AV := .raw (.bool (x3.2.1 == ((List.length s : Int) - 5)))
 let v38 : AV := .raw (.bool (x3.2.1 == ((List.length s : Int) - 5)))
 let v39 : AV := .raw (.bool true)
 let v40 : AV := .agg (Enc.cells ((En.mk 1 0 0 x3.1) : En))
 let v41 : AV := .raw (.int .i64 a)
 let v42 : AV := .raw (.bool x4)
 let v43 : AV := .raw (.bool x4)
 let v44 : AV := .raw (.bool true)
 let v45 : AV := .agg (Enc.cells ((En.mk 1 0 0 x3.1) : En))
 let v47 : AV := .raw (.string (bs s))
 let v46 : AV := .raw (.string (bs x5))
 let v48 : AV := .raw (.bool (x5 == s))
 let v49 : AV := .raw (.bool (x5 == s))
 let v5 : AV := .raw (.bool (x5 == s))
 let G0 : St := ⟨[(67, (Enc.cells ((En.mk 0 0 0 []) : En))), (67, (Enc.cells ((En.mk 1 0 0 x3.1) : En)))], [], [], 0, false⟩
 let G1 : St := ⟨[(67, (Enc.cells ((En.mk 1 0 0 x3.1) : En))), (67, (Enc.cells ((En.mk 1 0 0 x3.1) : En)))], [], [], 0, false⟩
 obtain ⟨ps, hps⟩ : ∃ ps : List (Option (Nat × AV)), ps = [some (29, v29), some (30, v30), some (31, v31), some (32, v32), some (33, v33), some (34, v34), some (35, v35), some (36, v36), some (37, v37), some (38, v38), some (39, v39), some (40, v40), some (41, v41), some (42, v42), some (43, v43), some (44, v44), some (45, v45), some (46, v46), some (47, v47), some (48, v48), some (49, v49), none, some (5, v5)] := ⟨_, rfl⟩
 let N : Nat → Nat → St → Prop := fun k m σ => aN (ITP Tryz.prog) Tryz.prog none ops FIN S0 ps 23 k m σ
 have n58 : N 0 8388607 G1 := by
  exact aN_0 hops hS0 hps (hFIN _ _ (Wk.refl _ _ _))
 have n57 : N 1 4194303 G1 := by
  refine aN_n hops hS0 hps [22] (all_cons (aopAt_l hops rfl ?_) all_nil)
  refine w_o (a := v5) ?_
  exact aN_of n58 hS0 hps
 have n56 : N 2 3145727 G1 := by
  refine aN_n hops hS0 hps [20] (all_cons (aopAt_l hops rfl ?_) all_nil)
  refine w_o (a := v49) ?_
  exact aN_of n57 hS0 hps
 have n55 : N 2 2097151 G0 := by
  refine aN_n hops hS0 hps [21] (all_cons (aopAt_l hops rfl ?_) all_nil)
  refine w_om (σ'' := G1) (h := op_storeW (n := 4) rfl rfl rfl rfl rfl rfl rfl rfl (by decide)) ?_
  exact aN_of n57 hS0 hps
 have n54 : N 3 2097150 G0 := by
  refine aN_n hops hS0 hps [0] (all_cons (aopAt_l hops rfl ?_) all_nil)
  refine w_o (a := v29) ?_
  exact aN_of n55 hS0 hps
 have n53 : N 3 2621439 G1 := by
  refine aN_n hops hS0 hps [19] (all_cons (aopAt_l hops rfl ?_) all_nil)
  refine w_metH hops rfl rfl ?_
  refine w_o (a := v48) (h := op_q (q_streq rfl rfl rfl)) ?_
  exact aN_of n56 hS0 hps
 have n52 : N 3 1048575 G0 := by
  refine aN_n hops hS0 hps [20, 21] (all_cons (aopAt_l hops rfl ?_) (all_cons (aopAt_l hops rfl ?_) all_nil))
  refine w_o (a := v49) ?_
  exact aN_of n55 hS0 hps
  refine w_om (σ'' := G1) (h := op_storeW (n := 4) rfl rfl rfl rfl rfl rfl rfl rfl (by decide)) ?_
  exact aN_of n56 hS0 hps
 have n51 : N 4 1048574 G0 := by
  refine aN_n hops hS0 hps [0, 20] (all_cons (aopAt_l hops rfl ?_) (all_cons (aopAt_l hops rfl ?_) all_nil))
  refine w_o (a := v29) ?_
  exact aN_of n52 hS0 hps
  refine w_o (a := v49) ?_
  exact aN_of n54 hS0 hps
 have n50 : N 4 2359295 G1 := by
  refine aN_n hops hS0 hps [18] (all_cons (aopAt_l hops rfl ?_) all_nil)
  refine w_metH hops rfl rfl ?_
  refine w_o (a := v47) ?_
  exact aN_of n53 hS0 hps
 have n49 : N 4 524287 G0 := by
  refine aN_n hops hS0 hps [19, 21] (all_cons (aopAt_l hops rfl ?_) (all_cons (aopAt_l hops rfl ?_) all_nil))
  refine w_metH hops rfl rfl ?_
  refine w_o (a := v48) (h := op_q (q_streq rfl rfl rfl)) ?_
  exact aN_of n52 hS0 hps
  refine w_om (σ'' := G1) (h := op_storeW (n := 4) rfl rfl rfl rfl rfl rfl rfl rfl (by decide)) ?_
  exact aN_of n53 hS0 hps
 have n48 : N 5 524286 G0 := by
  refine aN_n hops hS0 hps [0, 19] (all_cons (aopAt_l hops rfl ?_) (all_cons (aopAt_l hops rfl ?_) all_nil))
  refine w_o (a := v29) ?_
  exact aN_of n49 hS0 hps
  refine w_metH hops rfl rfl ?_
  refine w_o (a := v48) (h := op_q (q_streq rfl rfl rfl)) ?_
  exact aN_of n51 hS0 hps
 have n47 : N 5 393215 G0 := by
  refine aN_n hops hS0 hps [17] (all_cons (aopAt_l hops rfl ?_) all_nil)
  refine w_metH hops rfl rfl ?_
  refine w_callc (args' := [.agg (Enc.cells ((En.mk 1 0 0 x3.1) : En))]) (r := v46) (rline_sh fuel (En.mk 1 0 0 x3.1) x5 hx5) rfl rfl (stripL_cons (strip_c (clo_agg (Enc.clo _))) rfl) (okTrimL_cons (okTrim_clo _ _ (clo_agg (Enc.clo _))) rfl) (by dsimp only [aput, List.set]) ?_
  exact aN_of n49 hS0 hps
 have n46 : N 5 262143 G0 := by
  refine aN_n hops hS0 hps [18, 21] (all_cons (aopAt_l hops rfl ?_) (all_cons (aopAt_l hops rfl ?_) all_nil))
  refine w_metH hops rfl rfl ?_
  refine w_o (a := v47) ?_
  exact aN_of n49 hS0 hps
  refine w_om (σ'' := G1) (h := op_storeW (n := 4) rfl rfl rfl rfl rfl rfl rfl rfl (by decide)) ?_
  exact aN_of n50 hS0 hps
 have n45 : N 6 393214 G0 := by
  refine aN_n hops hS0 hps [0, 17] (all_cons (aopAt_l hops rfl ?_) (all_cons (aopAt_l hops rfl ?_) all_nil))
  refine w_o (a := v29) ?_
  exact aN_of n47 hS0 hps
  refine w_metH hops rfl rfl ?_
  refine w_callc (args' := [.agg (Enc.cells ((En.mk 1 0 0 x3.1) : En))]) (r := v46) (rline_sh fuel (En.mk 1 0 0 x3.1) x5 hx5) rfl rfl (stripL_cons (strip_c (clo_agg (Enc.clo _))) rfl) (okTrimL_cons (okTrim_clo _ _ (clo_agg (Enc.clo _))) rfl) (by dsimp only [aput, List.set]) ?_
  exact aN_of n48 hS0 hps
 have n44 : N 6 262142 G0 := by
  refine aN_n hops hS0 hps [0, 18] (all_cons (aopAt_l hops rfl ?_) (all_cons (aopAt_l hops rfl ?_) all_nil))
  refine w_o (a := v29) ?_
  exact aN_of n46 hS0 hps
  refine w_metH hops rfl rfl ?_
  refine w_o (a := v47) ?_
  exact aN_of n48 hS0 hps
 have n43 : N 6 327679 G0 := by
  refine aN_n hops hS0 hps [16] (all_cons (aopAt_l hops rfl ?_) all_nil)
  refine w_metH hops rfl rfl ?_
  refine w_o (a := v45) ?_
  exact aN_of n47 hS0 hps
 have n42 : N 6 131071 G0 := by
  refine aN_n hops hS0 hps [17, 18] (all_cons (aopAt_l hops rfl ?_) (all_cons (aopAt_l hops rfl ?_) all_nil))
  refine w_metH hops rfl rfl ?_
  refine w_callc (args' := [.agg (Enc.cells ((En.mk 1 0 0 x3.1) : En))]) (r := v46) (rline_sh fuel (En.mk 1 0 0 x3.1) x5 hx5) rfl rfl (stripL_cons (strip_c (clo_agg (Enc.clo _))) rfl) (okTrimL_cons (okTrim_clo _ _ (clo_agg (Enc.clo _))) rfl) (by dsimp only [aput, List.set]) ?_
  exact aN_of n46 hS0 hps
  refine w_metH hops rfl rfl ?_
  refine w_o (a := v47) ?_
  exact aN_of n47 hS0 hps
 have n41 : N 7 327678 G0 := by
  refine aN_n hops hS0 hps [0, 16] (all_cons (aopAt_l hops rfl ?_) (all_cons (aopAt_l hops rfl ?_) all_nil))
  refine w_o (a := v29) ?_
  exact aN_of n43 hS0 hps
  refine w_metH hops rfl rfl ?_
  refine w_o (a := v45) ?_
  exact aN_of n45 hS0 hps
 have n40 : N 7 131070 G0 := by
  refine aN_n hops hS0 hps [0, 17, 18] (all_cons (aopAt_l hops rfl ?_) (all_cons (aopAt_l hops rfl ?_) (all_cons (aopAt_l hops rfl ?_) all_nil)))
  refine w_o (a := v29) ?_
  exact aN_of n42 hS0 hps
  refine w_metH hops rfl rfl ?_
  refine w_callc (args' := [.agg (Enc.cells ((En.mk 1 0 0 x3.1) : En))]) (r := v46) (rline_sh fuel (En.mk 1 0 0 x3.1) x5 hx5) rfl rfl (stripL_cons (strip_c (clo_agg (Enc.clo _))) rfl) (okTrimL_cons (okTrim_clo _ _ (clo_agg (Enc.clo _))) rfl) (by dsimp only [aput, List.set]) ?_
  exact aN_of n44 hS0 hps
  refine w_metH hops rfl rfl ?_
  refine w_o (a := v47) ?_
  exact aN_of n45 hS0 hps
 have n39 : N 7 65535 G0 := by
  refine aN_n hops hS0 hps [16, 18] (all_cons (aopAt_l hops rfl ?_) (all_cons (aopAt_l hops rfl ?_) all_nil))
  refine w_metH hops rfl rfl ?_
  refine w_o (a := v45) ?_
  exact aN_of n42 hS0 hps
  refine w_metH hops rfl rfl ?_
  refine w_o (a := v47) ?_
  exact aN_of n43 hS0 hps
 have n38 : N 8 65534 G0 := by
  refine aN_n hops hS0 hps [0, 16, 18] (all_cons (aopAt_l hops rfl ?_) (all_cons (aopAt_l hops rfl ?_) (all_cons (aopAt_l hops rfl ?_) all_nil)))
  refine w_o (a := v29) ?_
  exact aN_of n39 hS0 hps
  refine w_metH hops rfl rfl ?_
  refine w_o (a := v45) ?_
  exact aN_of n40 hS0 hps
  refine w_metH hops rfl rfl ?_
  refine w_o (a := v47) ?_
  exact aN_of n41 hS0 hps
 have n37 : N 8 32767 G0 := by
  refine aN_n hops hS0 hps [15] (all_cons (aopAt_l hops rfl ?_) all_nil)
  refine w_o (a := v44) (h := op_q (q_bool rfl hc5)) ?_
  exact aN_of n39 hS0 hps
 have n36 : N 9 32766 G0 := by
  refine aN_n hops hS0 hps [0, 15] (all_cons (aopAt_l hops rfl ?_) (all_cons (aopAt_l hops rfl ?_) all_nil))
  refine w_o (a := v29) ?_
  exact aN_of n37 hS0 hps
  refine w_o (a := v44) (h := op_q (q_bool rfl hc5)) ?_
  exact aN_of n38 hS0 hps
 have n35 : N 9 16383 G0 := by
  refine aN_n hops hS0 hps [14] (all_cons (aopAt_l hops rfl ?_) all_nil)
  refine w_o (a := v43) ?_
  exact aN_of n37 hS0 hps
 have n34 : N 10 16382 G0 := by
  refine aN_n hops hS0 hps [0, 14] (all_cons (aopAt_l hops rfl ?_) (all_cons (aopAt_l hops rfl ?_) all_nil))
  refine w_o (a := v29) ?_
  exact aN_of n35 hS0 hps
  refine w_o (a := v43) ?_
  exact aN_of n36 hS0 hps
 have n33 : N 10 8191 G0 := by
  refine aN_n hops hS0 hps [13] (all_cons (aopAt_l hops rfl ?_) all_nil)
  refine w_metH hops rfl rfl ?_
  refine w_callc (args' := [.agg (Enc.cells ((En.mk 1 0 0 x3.1) : En)), .raw (.int .i64 a)]) (r := v42) (rright_sh (En.mk 1 0 0 x3.1) a x4 hx4) rfl rfl (stripL_cons (strip_c (clo_agg (Enc.clo _))) (stripL_cons rfl rfl)) (okTrimL_cons (okTrim_clo _ _ (clo_agg (Enc.clo _))) (by kernel_rfl)) (by dsimp only [aput, List.set]) ?_
  exact aN_of n35 hS0 hps
 have n32 : N 11 8190 G0 := by
  refine aN_n hops hS0 hps [0, 13] (all_cons (aopAt_l hops rfl ?_) (all_cons (aopAt_l hops rfl ?_) all_nil))
  refine w_o (a := v29) ?_
  exact aN_of n33 hS0 hps
  refine w_metH hops rfl rfl ?_
  refine w_callc (args' := [.agg (Enc.cells ((En.mk 1 0 0 x3.1) : En)), .raw (.int .i64 a)]) (r := v42) (rright_sh (En.mk 1 0 0 x3.1) a x4 hx4) rfl rfl (stripL_cons (strip_c (clo_agg (Enc.clo _))) (stripL_cons rfl rfl)) (okTrimL_cons (okTrim_clo _ _ (clo_agg (Enc.clo _))) (by kernel_rfl)) (by dsimp only [aput, List.set]) ?_
  exact aN_of n34 hS0 hps
 have n31 : N 11 6143 G0 := by
  refine aN_n hops hS0 hps [11] (all_cons (aopAt_l hops rfl ?_) all_nil)
  refine w_metH hops rfl rfl ?_
  refine w_o (a := v40) ?_
  exact aN_of n33 hS0 hps
 have n30 : N 11 4095 G0 := by
  refine aN_n hops hS0 hps [12] (all_cons (aopAt_l hops rfl ?_) all_nil)
  refine w_metH hops rfl rfl ?_
  refine w_o (a := v41) ?_
  exact aN_of n33 hS0 hps
 have n29 : N 12 6142 G0 := by
  refine aN_n hops hS0 hps [0, 11] (all_cons (aopAt_l hops rfl ?_) (all_cons (aopAt_l hops rfl ?_) all_nil))
  refine w_o (a := v29) ?_
  exact aN_of n31 hS0 hps
  refine w_metH hops rfl rfl ?_
  refine w_o (a := v40) ?_
  exact aN_of n32 hS0 hps
 have n28 : N 12 4094 G0 := by
  refine aN_n hops hS0 hps [0, 12] (all_cons (aopAt_l hops rfl ?_) (all_cons (aopAt_l hops rfl ?_) all_nil))
  refine w_o (a := v29) ?_
  exact aN_of n30 hS0 hps
  refine w_metH hops rfl rfl ?_
  refine w_o (a := v41) ?_
  exact aN_of n32 hS0 hps
 have n27 : N 12 2047 G0 := by
  refine aN_n hops hS0 hps [11, 12] (all_cons (aopAt_l hops rfl ?_) (all_cons (aopAt_l hops rfl ?_) all_nil))
  refine w_metH hops rfl rfl ?_
  refine w_o (a := v40) ?_
  exact aN_of n30 hS0 hps
  refine w_metH hops rfl rfl ?_
  refine w_o (a := v41) ?_
  exact aN_of n31 hS0 hps
 have n26 : N 13 2046 G0 := by
  refine aN_n hops hS0 hps [0, 11, 12] (all_cons (aopAt_l hops rfl ?_) (all_cons (aopAt_l hops rfl ?_) (all_cons (aopAt_l hops rfl ?_) all_nil)))
  refine w_o (a := v29) ?_
  exact aN_of n27 hS0 hps
  refine w_metH hops rfl rfl ?_
  refine w_o (a := v40) ?_
  exact aN_of n28 hS0 hps
  refine w_metH hops rfl rfl ?_
  refine w_o (a := v41) ?_
  exact aN_of n29 hS0 hps
 have n25 : N 13 1023 G0 := by
  refine aN_n hops hS0 hps [10] (all_cons (aopAt_l hops rfl ?_) all_nil)
  refine w_o (a := v39) (h := op_q (q_bool rfl hc4)) ?_
  exact aN_of n27 hS0 hps
 have n24 : N 14 1022 G0 := by
  refine aN_n hops hS0 hps [0, 10] (all_cons (aopAt_l hops rfl ?_) (all_cons (aopAt_l hops rfl ?_) all_nil))
  refine w_o (a := v29) ?_
  exact aN_of n25 hS0 hps
  refine w_o (a := v39) (h := op_q (q_bool rfl hc4)) ?_
  exact aN_of n26 hS0 hps
 have n23 : N 14 511 G0 := by
  refine aN_n hops hS0 hps [9] (all_cons (aopAt_l hops rfl ?_) all_nil)
  refine w_o (a := v38) ?_
  exact aN_of n25 hS0 hps
 have n22 : N 15 510 G0 := by
  refine aN_n hops hS0 hps [0, 9] (all_cons (aopAt_l hops rfl ?_) (all_cons (aopAt_l hops rfl ?_) all_nil))
  refine w_o (a := v29) ?_
  exact aN_of n23 hS0 hps
  refine w_o (a := v38) ?_
  exact aN_of n24 hS0 hps
 have n21 : N 15 255 G0 := by
  refine aN_n hops hS0 hps [8] (all_cons (aopAt_l hops rfl ?_) all_nil)
  refine w_metH hops rfl rfl ?_
  refine w_o (a := v37) ?_
  exact aN_of n23 hS0 hps
 have n20 : N 16 254 G0 := by
  refine aN_n hops hS0 hps [0, 8] (all_cons (aopAt_l hops rfl ?_) (all_cons (aopAt_l hops rfl ?_) all_nil))
  refine w_o (a := v29) ?_
  exact aN_of n21 hS0 hps
  refine w_metH hops rfl rfl ?_
  refine w_o (a := v37) ?_
  exact aN_of n22 hS0 hps
 have n19 : N 16 239 G0 := by
  refine aN_n hops hS0 hps [4] (all_cons (aopAt_l hops rfl ?_) all_nil)
  refine w_metH hops rfl rfl ?_
  refine w_o (a := v33) ?_
  exact aN_of n21 hS0 hps
 have n18 : N 16 127 G0 := by
  refine aN_n hops hS0 hps [7] (all_cons (aopAt_l hops rfl ?_) all_nil)
  refine w_metH hops rfl rfl ?_
  refine w_o (a := v36) (h := op_q (q_sub rfl rfl rfl rfl g3.1 g3.2)) ?_
  exact aN_of n21 hS0 hps
 have n17 : N 17 238 G0 := by
  refine aN_n hops hS0 hps [0, 4] (all_cons (aopAt_l hops rfl ?_) (all_cons (aopAt_l hops rfl ?_) all_nil))
  refine w_o (a := v29) ?_
  exact aN_of n19 hS0 hps
  refine w_metH hops rfl rfl ?_
  refine w_o (a := v33) ?_
  exact aN_of n20 hS0 hps
 have n16 : N 17 126 G0 := by
  refine aN_n hops hS0 hps [0, 7] (all_cons (aopAt_l hops rfl ?_) (all_cons (aopAt_l hops rfl ?_) all_nil))
  refine w_o (a := v29) ?_
  exact aN_of n18 hS0 hps
  refine w_metH hops rfl rfl ?_
  refine w_o (a := v36) (h := op_q (q_sub rfl rfl rfl rfl g3.1 g3.2)) ?_
  exact aN_of n20 hS0 hps
 have n15 : N 17 111 G0 := by
  refine aN_n hops hS0 hps [4, 7] (all_cons (aopAt_l hops rfl ?_) (all_cons (aopAt_l hops rfl ?_) all_nil))
  refine w_metH hops rfl rfl ?_
  refine w_o (a := v33) ?_
  exact aN_of n18 hS0 hps
  refine w_metH hops rfl rfl ?_
  refine w_o (a := v36) (h := op_q (q_sub rfl rfl rfl rfl g3.1 g3.2)) ?_
  exact aN_of n19 hS0 hps
 have n14 : N 17 63 G0 := by
  refine aN_n hops hS0 hps [6] (all_cons (aopAt_l hops rfl ?_) all_nil)
  refine w_metH hops rfl rfl ?_
  refine w_o (a := v35) (h := op_q (q_lenS rfl rfl rfl)) ?_
  exact aN_of n18 hS0 hps
 have n13 : N 18 110 G0 := by
  refine aN_n hops hS0 hps [0, 4, 7] (all_cons (aopAt_l hops rfl ?_) (all_cons (aopAt_l hops rfl ?_) (all_cons (aopAt_l hops rfl ?_) all_nil)))
  refine w_o (a := v29) ?_
  exact aN_of n15 hS0 hps
  refine w_metH hops rfl rfl ?_
  refine w_o (a := v33) ?_
  exact aN_of n16 hS0 hps
  refine w_metH hops rfl rfl ?_
  refine w_o (a := v36) (h := op_q (q_sub rfl rfl rfl rfl g3.1 g3.2)) ?_
  exact aN_of n17 hS0 hps
 have n12 : N 18 62 G0 := by
  refine aN_n hops hS0 hps [0, 6] (all_cons (aopAt_l hops rfl ?_) (all_cons (aopAt_l hops rfl ?_) all_nil))
  refine w_o (a := v29) ?_
  exact aN_of n14 hS0 hps
  refine w_metH hops rfl rfl ?_
  refine w_o (a := v35) (h := op_q (q_lenS rfl rfl rfl)) ?_
  exact aN_of n16 hS0 hps
 have n11 : N 18 47 G0 := by
  refine aN_n hops hS0 hps [4, 6] (all_cons (aopAt_l hops rfl ?_) (all_cons (aopAt_l hops rfl ?_) all_nil))
  refine w_metH hops rfl rfl ?_
  refine w_o (a := v33) ?_
  exact aN_of n14 hS0 hps
  refine w_metH hops rfl rfl ?_
  refine w_o (a := v35) (h := op_q (q_lenS rfl rfl rfl)) ?_
  exact aN_of n15 hS0 hps
 have n10 : N 18 31 G0 := by
  refine aN_n hops hS0 hps [5] (all_cons (aopAt_l hops rfl ?_) all_nil)
  refine w_metH hops rfl rfl ?_
  refine w_o (a := v34) ?_
  exact aN_of n14 hS0 hps
 have n9 : N 19 46 G0 := by
  refine aN_n hops hS0 hps [0, 4, 6] (all_cons (aopAt_l hops rfl ?_) (all_cons (aopAt_l hops rfl ?_) (all_cons (aopAt_l hops rfl ?_) all_nil)))
  refine w_o (a := v29) ?_
  exact aN_of n11 hS0 hps
  refine w_metH hops rfl rfl ?_
  refine w_o (a := v33) ?_
  exact aN_of n12 hS0 hps
  refine w_metH hops rfl rfl ?_
  refine w_o (a := v35) (h := op_q (q_lenS rfl rfl rfl)) ?_
  exact aN_of n13 hS0 hps
 have n8 : N 19 30 G0 := by
  refine aN_n hops hS0 hps [0, 5] (all_cons (aopAt_l hops rfl ?_) (all_cons (aopAt_l hops rfl ?_) all_nil))
  refine w_o (a := v29) ?_
  exact aN_of n10 hS0 hps
  refine w_metH hops rfl rfl ?_
  refine w_o (a := v34) ?_
  exact aN_of n12 hS0 hps
 have n7 : N 19 15 G0 := by
  refine aN_n hops hS0 hps [4, 5] (all_cons (aopAt_l hops rfl ?_) (all_cons (aopAt_l hops rfl ?_) all_nil))
  refine w_metH hops rfl rfl ?_
  refine w_o (a := v33) ?_
  exact aN_of n10 hS0 hps
  refine w_metH hops rfl rfl ?_
  refine w_o (a := v34) ?_
  exact aN_of n11 hS0 hps
 have n6 : N 20 14 G0 := by
  refine aN_n hops hS0 hps [0, 4, 5] (all_cons (aopAt_l hops rfl ?_) (all_cons (aopAt_l hops rfl ?_) (all_cons (aopAt_l hops rfl ?_) all_nil)))
  refine w_o (a := v29) ?_
  exact aN_of n7 hS0 hps
  refine w_metH hops rfl rfl ?_
  refine w_o (a := v33) ?_
  exact aN_of n8 hS0 hps
  refine w_metH hops rfl rfl ?_
  refine w_o (a := v34) ?_
  exact aN_of n9 hS0 hps
 have n5 : N 20 7 G0 := by
  refine aN_n hops hS0 hps [3] (all_cons (aopAt_l hops rfl ?_) all_nil)
  refine w_o (a := v32) (h := op_q (q_bool rfl hc3)) ?_
  exact aN_of n7 hS0 hps
 have n4 : N 21 6 G0 := by
  refine aN_n hops hS0 hps [0, 3] (all_cons (aopAt_l hops rfl ?_) (all_cons (aopAt_l hops rfl ?_) all_nil))
  refine w_o (a := v29) ?_
  exact aN_of n5 hS0 hps
  refine w_o (a := v32) (h := op_q (q_bool rfl hc3)) ?_
  exact aN_of n6 hS0 hps
 have n3 : N 21 3 G0 := by
  refine aN_n hops hS0 hps [2] (all_cons (aopAt_l hops rfl ?_) all_nil)
  refine w_o (a := v31) ?_
  exact aN_of n5 hS0 hps
 have n2 : N 22 2 G0 := by
  refine aN_n hops hS0 hps [0, 2] (all_cons (aopAt_l hops rfl ?_) (all_cons (aopAt_l hops rfl ?_) all_nil))
  refine w_o (a := v29) ?_
  exact aN_of n3 hS0 hps
  refine w_o (a := v31) ?_
  exact aN_of n4 hS0 hps
 have n1 : N 22 1 G0 := by
  refine aN_n hops hS0 hps [1] (all_cons (aopAt_l hops rfl ?_) all_nil)
  refine w_o (a := v30) ?_
  exact aN_of n3 hS0 hps
 have n0 : N 23 0 G0 := by
  refine aN_n hops hS0 hps [0, 1] (all_cons (aopAt_l hops rfl ?_) (all_cons (aopAt_l hops rfl ?_) all_nil))
  refine w_o (a := v29) ?_
  exact aN_of n1 hS0 hps
  refine w_o (a := v30) ?_
  exact aN_of n2 hS0 hps
 exact aN_start n0 hps
 replace h := cut_inr h hr1
 exact end_pureF (fun (r : (En × Bool)) => (.tup [.agg (Enc.cells (r.1 : En)), .raw (.bool r.2)] : AV)) h (a := .tup [.agg (Enc.cells ((En.mk 1 0 0 x3.1) : En)), .raw (.bool (x5 == s))]) rfl (show okTrimL _ _ = true from (okTrimL_cons (okTrim_clo _ _ (clo_agg (Enc.clo _))) (by kernel_rfl))) (show AV.tup (stripL _) = _ from congrArg AV.tup (stripL_cons (strip_c (clo_agg (Enc.clo _))) (stripL_cons rfl rfl)))
 refine w_seqAny (id := 8) [.raw (.string (bs s)), .raw (.int .i64 a), .raw undef, .raw undef, .ptr 0 0, .raw (.bool false), .ptr 1 0, .raw (.string (bs x3.1)), .raw (.int .i64 x3.2.1), .raw (.int .i64 x3.2.2), .raw undef, .raw (.string (bs s)), .raw (.int .i64 (List.length s : Int)), .raw (.bool (decide ((List.length s : Int) < 5))), .raw undef, .agg (Enc.cells ((En.mk 0 0 0 []) : En)), .raw (.string (bs s)), .raw (.string (bs x1)), .raw (.bool (x1 == ([115, 101, 110, 100, 32] : List UInt8))), .raw (.bool (x1 == ([115, 101, 110, 100, 32] : List UInt8))), .tup [.raw (.string (bs x3.1)), .raw (.int .i64 x3.2.1), .raw (.int .i64 x3.2.2)], .raw (.string (bs s)), .raw (.string (bs x2)), .tup [.raw (.string (bs x3.1)), .raw (.int .i64 x3.2.1), .raw (.int .i64 x3.2.2)], .raw (.string (bs x3.1)), .raw (.int .i64 x3.2.1), .raw (.int .i64 x3.2.2), .raw (.string (bs x3.1)), .agg (Enc.cells ((En.mk 1 0 0 x3.1) : En)), .agg (Enc.cells ((En.mk 1 0 0 x3.1) : En)), .raw (.int .i64 x3.2.2), .raw (.bool (x3.2.2 == 0)), .raw (.bool true), .raw (.int .i64 x3.2.1), .raw (.string (bs s)), .raw (.int .i64 (List.length s : Int)), .raw (.int .i64 ((List.length s : Int) - 5)), .raw (.bool (x3.2.1 == ((List.length s : Int) - 5))), .raw (.bool (x3.2.1 == ((List.length s : Int) - 5))), .raw (.bool true), .agg (Enc.cells ((En.mk 1 0 0 x3.1) : En)), .raw (.int .i64 a), .raw (.bool x4), .raw (.bool x4), .raw (.bool false), .raw undef, .raw undef, .raw undef, .raw undef, .raw (.bool false), .raw undef, .raw undef, .raw undef, .raw undef, .raw undef, .raw undef, .raw undef, .raw undef, .raw undef, .raw undef, .raw undef, .raw undef, .raw undef, .raw undef, .raw undef, .raw undef, .raw undef, .raw undef, .raw undef, .raw undef, .raw undef, .raw undef, .raw undef, .raw undef, .raw undef, .raw undef, .raw undef, .raw undef, .raw undef, .raw undef] ⟨[(67, (Enc.cells ((En.mk 1 0 0 x3.1) : En))), (67, (Enc.cells ((En.mk 1 0 0 x3.1) : En)))], [], [], 0, false⟩ ?_ ?_
 refine aany_intro (fun ops hops FIN hFIN S0 hS0 => ?_)
 let v29 : AV := .agg (Enc.cells ((En.mk 1 0 0 x3.1) : En))
 let v30 : AV := .raw (.int .i64 x3.2.2)
 let v31 : AV := .raw (.bool (x3.2.2 == 0))
 let v32 : AV := .raw (.bool true)
 let v33 : AV := .raw (.int .i64 x3.2.1)
 let v34 : AV := .raw (.string (bs s))
 let v35 : AV := .raw (.int .i64 (List.length s : Int))
 let v36 : AV := .raw (.int .i64 ((List.length s : Int) - 5))
 let v37 : AV := .raw (.bool (x3.2.1 == ((List.length s : Int) - 5)))
 let v38 : AV := .raw (.bool (x3.2.1 == ((List.length s : Int) - 5)))
 let v39 : AV := .raw (.bool true)
 let v40 : AV := .agg (Enc.cells ((En.mk 1 0 0 x3.1) : En))
 let v41 : AV := .raw (.int .i64 a)
 let v42 : AV := .raw (.bool x4)
 let v43 : AV := .raw (.bool x4)
 let v44 : AV := .raw (.bool false)
 let v49 : AV := .raw (.bool false)
 let v5 : AV := .raw (.bool false)
 let G0 : St := ⟨[(67, (Enc.cells ((En.mk 0 0 0 []) : En))), (67, (Enc.cells ((En.mk 1 0 0 x3.1) : En)))], [], [], 0, false⟩
 let G1 : St := ⟨[(67, (Enc.cells ((En.mk 1 0 0 x3.1) : En))), (67, (Enc.cells ((En.mk 1 0 0 x3.1) : En)))], [], [], 0, false⟩
 obtain ⟨ps, hps⟩ : ∃ ps : List (Option (Nat × AV)), ps = [some (29, v29), some (30, v30), some (31, v31), some (32, v32), some (33, v33), some (34, v34), some (35, v35), some (36, v36), some (37, v37), some (38, v38), some (39, v39), some (40, v40), some (41, v41), some (42, v42), some (43, v43), some (44, v44), none, none, none, none, some (49, v49), none, some (5, v5)] := ⟨_, rfl⟩
 let N : Nat → Nat → St → Prop := fun k m σ => aN (ITP Tryz.prog) Tryz.prog none ops FIN S0 ps 23 k m σ
 have n58 : N 0 8388607 G1 := by
  exact aN_0 hops hS0 hps (hFIN _ _ (Wk.refl _ _ _))
 have n57 : N 1 4194303 G1 := by
  refine aN_n hops hS0 hps [22] (all_cons (aopAt_l hops rfl ?_) all_nil)
  refine w_o (a := v5) ?_
  exact aN_of n58 hS0 hps
 have n56 : N 2 3145727 G1 := by
  refine aN_n hops hS0 hps [20] (all_cons (aopAt_l hops rfl ?_) all_nil)
  refine w_o (a := v49) ?_
  exact aN_of n57 hS0 hps
 have n55 : N 2 2097151 G0 := by
  refine aN_n hops hS0 hps [21] (all_cons (aopAt_l hops rfl ?_) all_nil)
  refine w_om (σ'' := G1) (h := op_storeW (n := 4) rfl rfl rfl rfl rfl rfl rfl rfl (by decide)) ?_
  exact aN_of n57 hS0 hps
 have n54 : N 3 2097150 G0 := by
  refine aN_n hops hS0 hps [0] (all_cons (aopAt_l hops rfl ?_) all_nil)
  refine w_o (a := v29) ?_
  exact aN_of n55 hS0 hps
 have n53 : N 3 2621439 G1 := by
  refine aN_n hops hS0 hps [19] (all_cons (aopAt_l hops rfl ?_) all_nil)
  refine w_pHo hops ?_
  exact aN_of n56 hS0 hps
 have n52 : N 3 1048575 G0 := by
  refine aN_n hops hS0 hps [20, 21] (all_cons (aopAt_l hops rfl ?_) (all_cons (aopAt_l hops rfl ?_) all_nil))
  refine w_o (a := v49) ?_
  exact aN_of n55 hS0 hps
  refine w_om (σ'' := G1) (h := op_storeW (n := 4) rfl rfl rfl rfl rfl rfl rfl rfl (by decide)) ?_
  exact aN_of n56 hS0 hps
 have n51 : N 4 1048574 G0 := by
  refine aN_n hops hS0 hps [0, 20] (all_cons (aopAt_l hops rfl ?_) (all_cons (aopAt_l hops rfl ?_) all_nil))
  refine w_o (a := v29) ?_
  exact aN_of n52 hS0 hps
  refine w_o (a := v49) ?_
  exact aN_of n54 hS0 hps
 have n50 : N 4 2359295 G1 := by
  refine aN_n hops hS0 hps [18] (all_cons (aopAt_l hops rfl ?_) all_nil)
  refine w_pHo hops ?_
  exact aN_of n53 hS0 hps
 have n49 : N 4 524287 G0 := by
  refine aN_n hops hS0 hps [19, 21] (all_cons (aopAt_l hops rfl ?_) (all_cons (aopAt_l hops rfl ?_) all_nil))
  refine w_pHo hops ?_
  exact aN_of n52 hS0 hps
  refine w_om (σ'' := G1) (h := op_storeW (n := 4) rfl rfl rfl rfl rfl rfl rfl rfl (by decide)) ?_
  exact aN_of n53 hS0 hps
 have n48 : N 5 524286 G0 := by
  refine aN_n hops hS0 hps [0, 19] (all_cons (aopAt_l hops rfl ?_) (all_cons (aopAt_l hops rfl ?_) all_nil))
  refine w_o (a := v29) ?_
  exact aN_of n49 hS0 hps
  refine w_pHo hops ?_
  exact aN_of n51 hS0 hps
 have n47 : N 5 393215 G0 := by
  refine aN_n hops hS0 hps [17] (all_cons (aopAt_l hops rfl ?_) all_nil)
  refine w_pHo hops ?_
  exact aN_of n49 hS0 hps
 have n46 : N 5 262143 G0 := by
  refine aN_n hops hS0 hps [18, 21] (all_cons (aopAt_l hops rfl ?_) (all_cons (aopAt_l hops rfl ?_) all_nil))
  refine w_pHo hops ?_
  exact aN_of n49 hS0 hps
  refine w_om (σ'' := G1) (h := op_storeW (n := 4) rfl rfl rfl rfl rfl rfl rfl rfl (by decide)) ?_
  exact aN_of n50 hS0 hps
 have n45 : N 6 393214 G0 := by
  refine aN_n hops hS0 hps [0, 17] (all_cons (aopAt_l hops rfl ?_) (all_cons (aopAt_l hops rfl ?_) all_nil))
  refine w_o (a := v29) ?_
  exact aN_of n47 hS0 hps
  refine w_pHo hops ?_
  exact aN_of n48 hS0 hps
 have n44 : N 6 262142 G0 := by
  refine aN_n hops hS0 hps [0, 18] (all_cons (aopAt_l hops rfl ?_) (all_cons (aopAt_l hops rfl ?_) all_nil))
  refine w_o (a := v29) ?_
  exact aN_of n46 hS0 hps
  refine w_pHo hops ?_
  exact aN_of n48 hS0 hps
 have n43 : N 6 327679 G0 := by
  refine aN_n hops hS0 hps [16] (all_cons (aopAt_l hops rfl ?_) all_nil)
  refine w_pHo hops ?_
  exact aN_of n47 hS0 hps
 have n42 : N 6 131071 G0 := by
  refine aN_n hops hS0 hps [17, 18] (all_cons (aopAt_l hops rfl ?_) (all_cons (aopAt_l hops rfl ?_) all_nil))
  refine w_pHo hops ?_
  exact aN_of n46 hS0 hps
  refine w_pHo hops ?_
  exact aN_of n47 hS0 hps
 have n41 : N 7 327678 G0 := by
  refine aN_n hops hS0 hps [0, 16] (all_cons (aopAt_l hops rfl ?_) (all_cons (aopAt_l hops rfl ?_) all_nil))
  refine w_o (a := v29) ?_
  exact aN_of n43 hS0 hps
  refine w_pHo hops ?_
  exact aN_of n45 hS0 hps
 have n40 : N 7 131070 G0 := by
  refine aN_n hops hS0 hps [0, 17, 18] (all_cons (aopAt_l hops rfl ?_) (all_cons (aopAt_l hops rfl ?_) (all_cons (aopAt_l hops rfl ?_) all_nil)))
  refine w_o (a := v29) ?_
  exact aN_of n42 hS0 hps
  refine w_pHo hops ?_
  exact aN_of n44 hS0 hps
  refine w_pHo hops ?_
  exact aN_of n45 hS0 hps
 have n39 : N 7 65535 G0 := by
  refine aN_n hops hS0 hps [16, 18] (all_cons (aopAt_l hops rfl ?_) (all_cons (aopAt_l hops rfl ?_) all_nil))
  refine w_pHo hops ?_
  exact aN_of n42 hS0 hps
  refine w_pHo hops ?_
  exact aN_of n43 hS0 hps
 have n38 : N 8 65534 G0 := by
  refine aN_n hops hS0 hps [0, 16, 18] (all_cons (aopAt_l hops rfl ?_) (all_cons (aopAt_l hops rfl ?_) (all_cons (aopAt_l hops rfl ?_) all_nil)))
  refine w_o (a := v29) ?_
  exact aN_of n39 hS0 hps
  refine w_pHo hops ?_
  exact aN_of n40 hS0 hps
  refine w_pHo hops ?_
  exact aN_of n41 hS0 hps
 have n37 : N 8 32767 G0 := by
  refine aN_n hops hS0 hps [15] (all_cons (aopAt_l hops rfl ?_) all_nil)
  refine w_o (a := v44) (h := op_q (q_bool rfl hc5)) ?_
  exact aN_of n39 hS0 hps
 have n36 : N 9 32766 G0 := by
  refine aN_n hops hS0 hps [0, 15] (all_cons (aopAt_l hops rfl ?_) (all_cons (aopAt_l hops rfl ?_) all_nil))
  refine w_o (a := v29) ?_
  exact aN_of n37 hS0 hps
  refine w_o (a := v44) (h := op_q (q_bool rfl hc5)) ?_
  exact aN_of n38 hS0 hps
 have n35 : N 9 16383 G0 := by
  refine aN_n hops hS0 hps [14] (all_cons (aopAt_l hops rfl ?_) all_nil)
  refine w_o (a := v43) ?_
  exact aN_of n37 hS0 hps
 have n34 : N 10 16382 G0 := by
  refine aN_n hops hS0 hps [0, 14] (all_cons (aopAt_l hops rfl ?_) (all_cons (aopAt_l hops rfl ?_) all_nil))
  refine w_o (a := v29) ?_
  exact aN_of n35 hS0 hps
  refine w_o (a := v43) ?_
  exact aN_of n36 hS0 hps
 have n33 : N 10 8191 G0 := by
  refine aN_n hops hS0 hps [13] (all_cons (aopAt_l hops rfl ?_) all_nil)
  refine w_metH hops rfl rfl ?_
  refine w_callc (args' := [.agg (Enc.cells ((En.mk 1 0 0 x3.1) : En)), .raw (.int .i64 a)]) (r := v42) (rright_sh (En.mk 1 0 0 x3.1) a x4 hx4) rfl rfl (stripL_cons (strip_c (clo_agg (Enc.clo _))) (stripL_cons rfl rfl)) (okTrimL_cons (okTrim_clo _ _ (clo_agg (Enc.clo _))) (by kernel_rfl)) (by dsimp only [aput, List.set]) ?_
  exact aN_of n35 hS0 hps
 have n32 : N 11 8190 G0 := by
  refine aN_n hops hS0 hps [0, 13] (all_cons (aopAt_l hops rfl ?_) (all_cons (aopAt_l hops rfl ?_) all_nil))
  refine w_o (a := v29) ?_
  exact aN_of n33 hS0 hps
  refine w_metH hops rfl rfl ?_
  refine w_callc (args' := [.agg (Enc.cells ((En.mk 1 0 0 x3.1) : En)), .raw (.int .i64 a)]) (r := v42) (rright_sh (En.mk 1 0 0 x3.1) a x4 hx4) rfl rfl (stripL_cons (strip_c (clo_agg (Enc.clo _))) (stripL_cons rfl rfl)) (okTrimL_cons (okTrim_clo _ _ (clo_agg (Enc.clo _))) (by kernel_rfl)) (by dsimp only [aput, List.set]) ?_
  exact aN_of n34 hS0 hps
 have n31 : N 11 6143 G0 := by
  refine aN_n hops hS0 hps [11] (all_cons (aopAt_l hops rfl ?_) all_nil)
  refine w_metH hops rfl rfl ?_
  refine w_o (a := v40) ?_
  exact aN_of n33 hS0 hps
 have n30 : N 11 4095 G0 := by
  refine aN_n hops hS0 hps [12] (all_cons (aopAt_l hops rfl ?_) all_nil)
  refine w_metH hops rfl rfl ?_
  refine w_o (a := v41) ?_
  exact aN_of n33 hS0 hps
 have n29 : N 12 6142 G0 := by
  refine aN_n hops hS0 hps [0, 11] (all_cons (aopAt_l hops rfl ?_) (all_cons (aopAt_l hops rfl ?_) all_nil))
  refine w_o (a := v29) ?_
  exact aN_of n31 hS0 hps
  refine w_metH hops rfl rfl ?_
  refine w_o (a := v40) ?_
  exact aN_of n32 hS0 hps
 have n28 : N 12 4094 G0 := by
  refine aN_n hops hS0 hps [0, 12] (all_cons (aopAt_l hops rfl ?_) (all_cons (aopAt_l hops rfl ?_) all_nil))
  refine w_o (a := v29) ?_
  exact aN_of n30 hS0 hps
  refine w_metH hops rfl rfl ?_
  refine w_o (a := v41) ?_
  exact aN_of n32 hS0 hps
 have n27 : N 12 2047 G0 := by
  refine aN_n hops hS0 hps [11, 12] (all_cons (aopAt_l hops rfl ?_) (all_cons (aopAt_l hops rfl ?_) all_nil))
  refine w_metH hops rfl rfl ?_
  refine w_o (a := v40) ?_
  exact aN_of n30 hS0 hps
  refine w_metH hops rfl rfl ?_
  refine w_o (a := v41) ?_
  exact aN_of n31 hS0 hps
 have n26 : N 13 2046 G0 := by
  refine aN_n hops hS0 hps [0, 11, 12] (all_cons (aopAt_l hops rfl ?_) (all_cons (aopAt_l hops rfl ?_) (all_cons (aopAt_l hops rfl ?_) all_nil)))
  refine w_o (a := v29) ?_
  exact aN_of n27 hS0 hps
  refine w_metH hops rfl rfl ?_
  refine w_o (a := v40) ?_
  exact aN_of n28 hS0 hps
  refine w_metH hops rfl rfl ?_
  refine w_o (a := v41) ?_
  exact aN_of n29 hS0 hps
 have n25 : N 13 1023 G0 := by
  refine aN_n hops hS0 hps [10] (all_cons (aopAt_l hops rfl ?_) all_nil)
  refine w_o (a := v39) (h := op_q (q_bool rfl hc4)) ?_
  exact aN_of n27 hS0 hps
 have n24 : N 14 1022 G0 := by
  refine aN_n hops hS0 hps [0, 10] (all_cons (aopAt_l hops rfl ?_) (all_cons (aopAt_l hops rfl ?_) all_nil))
  refine w_o (a := v29) ?_
  exact aN_of n25 hS0 hps
  refine w_o (a := v39) (h := op_q (q_bool rfl hc4)) ?_
  exact aN_of n26 hS0 hps
 have n23 : N 14 511 G0 := by
  refine aN_n hops hS0 hps [9] (all_cons (aopAt_l hops rfl ?_) all_nil)
  refine w_o (a := v38) ?_
  exact aN_of n25 hS0 hps
 have n22 : N 15 510 G0 := by
  refine aN_n hops hS0 hps [0, 9] (all_cons (aopAt_l hops rfl ?_) (all_cons (aopAt_l hops rfl ?_) all_nil))
  refine w_o (a := v29) ?_
  exact aN_of n23 hS0 hps
  refine w_o (a := v38) ?_
  exact aN_of n24 hS0 hps
 have n21 : N 15 255 G0 := by
  refine aN_n hops hS0 hps [8] (all_cons (aopAt_l hops rfl ?_) all_nil)
  refine w_metH hops rfl rfl ?_
  refine w_o (a := v37) ?_
  exact aN_of n23 hS0 hps
 have n20 : N 16 254 G0 := by
  refine aN_n hops hS0 hps [0, 8] (all_cons (aopAt_l hops rfl ?_) (all_cons (aopAt_l hops rfl ?_) all_nil))
  refine w_o (a := v29) ?_
  exact aN_of n21 hS0 hps
  refine w_metH hops rfl rfl ?_
  refine w_o (a := v37) ?_
  exact aN_of n22 hS0 hps
 have n19 : N 16 239 G0 := by
  refine aN_n hops hS0 hps [4] (all_cons (aopAt_l hops rfl ?_) all_nil)
  refine w_metH hops rfl rfl ?_
  refine w_o (a := v33) ?_
  exact aN_of n21 hS0 hps
 have n18 : N 16 127 G0 := by
  refine aN_n hops hS0 hps [7] (all_cons (aopAt_l hops rfl ?_) all_nil)
  refine w_metH hops rfl rfl ?_
  refine w_o (a := v36) (h := op_q (q_sub rfl rfl rfl rfl g3.1 g3.2)) ?_
  exact aN_of n21 hS0 hps
 have n17 : N 17 238 G0 := by
  refine aN_n hops hS0 hps [0, 4] (all_cons (aopAt_l hops rfl ?_) (all_cons (aopAt_l hops rfl ?_) all_nil))
  refine w_o (a := v29) ?_
  exact aN_of n19 hS0 hps
  refine w_metH hops rfl rfl ?_
  refine w_o (a := v33) ?_
  exact aN_of n20 hS0 hps
 have n16 : N 17 126 G0 := by
  refine aN_n hops hS0 hps [0, 7] (all_cons (aopAt_l hops rfl ?_) (all_cons (aopAt_l hops rfl ?_) all_nil))
  refine w_o (a := v29) ?_
  exact aN_of n18 hS0 hps
  refine w_metH hops rfl rfl ?_
  refine w_o (a := v36) (h := op_q (q_sub rfl rfl rfl rfl g3.1 g3.2)) ?_
  exact aN_of n20 hS0 hps
 have n15 : N 17 111 G0 := by
  refine aN_n hops hS0 hps [4, 7] (all_cons (aopAt_l hops rfl ?_) (all_cons (aopAt_l hops rfl ?_) all_nil))
  refine w_metH hops rfl rfl ?_
  refine w_o (a := v33) ?_
  exact aN_of n18 hS0 hps
  refine w_metH hops rfl rfl ?_
  refine w_o (a := v36) (h := op_q (q_sub rfl rfl rfl rfl g3.1 g3.2)) ?_
  exact aN_of n19 hS0 hps
 have n14 : N 17 63 G0 := by
  refine aN_n hops hS0 hps [6] (all_cons (aopAt_l hops rfl ?_) all_nil)
  refine w_metH hops rfl rfl ?_
  refine w_o (a := v35) (h := op_q (q_lenS rfl rfl rfl)) ?_
  exact aN_of n18 hS0 hps
 have n13 : N 18 110 G0 := by
  refine aN_n hops hS0 hps [0, 4, 7] (all_cons (aopAt_l hops rfl ?_) (all_cons (aopAt_l hops rfl ?_) (all_cons (aopAt_l hops rfl ?_) all_nil)))
  refine w_o (a := v29) ?_
  exact aN_of n15 hS0 hps
  refine w_metH hops rfl rfl ?_
  refine w_o (a := v33) ?_
  exact aN_of n16 hS0 hps
  refine w_metH hops rfl rfl ?_
  refine w_o (a := v36) (h := op_q (q_sub rfl rfl rfl rfl g3.1 g3.2)) ?_
  exact aN_of n17 hS0 hps
 have n12 : N 18 62 G0 := by
  refine aN_n hops hS0 hps [0, 6] (all_cons (aopAt_l hops rfl ?_) (all_cons (aopAt_l hops rfl ?_) all_nil))
  refine w_o (a := v29) ?_
  exact aN_of n14 hS0 hps
  refine w_metH hops rfl rfl ?_
  refine w_o (a := v35) (h := op_q (q_lenS rfl rfl rfl)) ?_
  exact aN_of n16 hS0 hps
 have n11 : N 18 47 G0 := by
  refine aN_n hops hS0 hps [4, 6] (all_cons (aopAt_l hops rfl ?_) (all_cons (aopAt_l hops rfl ?_) all_nil))
  refine w_metH hops rfl rfl ?_
  refine w_o (a := v33) ?_
  exact aN_of n14 hS0 hps
  refine w_metH hops rfl rfl ?_
  refine w_o (a := v35) (h := op_q (q_lenS rfl rfl rfl)) ?_
  exact aN_of n15 hS0 hps
 have n10 : N 18 31 G0 := by
  refine aN_n hops hS0 hps [5] (all_cons (aopAt_l hops rfl ?_) all_nil)
  refine w_metH hops rfl rfl ?_
  refine w_o (a := v34) ?_
  exact aN_of n14 hS0 hps
 have n9 : N 19 46 G0 := by
  refine aN_n hops hS0 hps [0, 4, 6] (all_cons (aopAt_l hops rfl ?_) (all_cons (aopAt_l hops rfl ?_) (all_cons (aopAt_l hops rfl ?_) all_nil)))
  refine w_o (a := v29) ?_
  exact aN_of n11 hS0 hps
  refine w_metH hops rfl rfl ?_
  refine w_o (a := v33) ?_
  exact aN_of n12 hS0 hps
  refine w_metH hops rfl rfl ?_
  refine w_o (a := v35) (h := op_q (q_lenS rfl rfl rfl)) ?_
  exact aN_of n13 hS0 hps
 have n8 : N 19 30 G0 := by
  refine aN_n hops hS0 hps [0, 5] (all_cons (aopAt_l hops rfl ?_) (all_cons (aopAt_l hops rfl ?_) all_nil))
  refine w_o (a := v29) ?_
  exact aN_of n10 hS0 hps
  refine w_metH hops rfl rfl ?_
  refine w_o (a := v34) ?_
  exact aN_of n12 hS0 hps
 have n7 : N 19 15 G0 := by
  refine aN_n hops hS0 hps [4, 5] (all_cons (aopAt_l hops rfl ?_) (all_cons (aopAt_l hops rfl ?_) all_nil))
  refine w_metH hops rfl rfl ?_
  refine w_o (a := v33) ?_
  exact aN_of n10 hS0 hps
  refine w_metH hops rfl rfl ?_
  refine w_o (a := v34) ?_
  exact aN_of n11 hS0 hps
 have n6 : N 20 14 G0 := by
  refine aN_n hops hS0 hps [0, 4, 5] (all_cons (aopAt_l hops rfl ?_) (all_cons (aopAt_l hops rfl ?_) (all_cons (aopAt_l hops rfl ?_) all_nil)))
  refine w_o (a := v29) ?_
  exact aN_of n7 hS0 hps
  refine w_metH hops rfl rfl ?_
  refine w_o (a := v33) ?_
  exact aN_of n8 hS0 hps
  refine w_metH hops rfl rfl ?_
  refine w_o (a := v34) ?_
  exact aN_of n9 hS0 hps
 have n5 : N 20 7 G0 := by
  refine aN_n hops hS0 hps [3] (all_cons (aopAt_l hops rfl ?_) all_nil)
  refine w_o (a := v32) (h := op_q (q_bool rfl hc3)) ?_
  exact aN_of n7 hS0 hps
 have n4 : N 21 6 G0 := by
  refine aN_n hops hS0 hps [0, 3] (all_cons (aopAt_l hops rfl ?_) (all_cons (aopAt_l hops rfl ?_) all_nil))
  refine w_o (a := v29) ?_
  exact aN_of n5 hS0 hps
  refine w_o (a := v32) (h := op_q (q_bool rfl hc3)) ?_
  exact aN_of n6 hS0 hps
 have n3 : N 21 3 G0 := by
  refine aN_n hops hS0 hps [2] (all_cons (aopAt_l hops rfl ?_) all_nil)
  refine w_o (a := v31) ?_
  exact aN_of n5 hS0 hps
 have n2 : N 22 2 G0 := by
  refine aN_n hops hS0 hps [0, 2] (all_cons (aopAt_l hops rfl ?_) (all_cons (aopAt_l hops rfl ?_) all_nil))
  refine w_o (a := v29) ?_
  exact aN_of n3 hS0 hps
  refine w_o (a := v31) ?_
  exact aN_of n4 hS0 hps
 have n1 : N 22 1 G0 := by
  refine aN_n hops hS0 hps [1] (all_cons (aopAt_l hops rfl ?_) all_nil)
  refine w_o (a := v30) ?_
  exact aN_of n3 hS0 hps
 have n0 : N 23 0 G0 := by
  refine aN_n hops hS0 hps [0, 1] (all_cons (aopAt_l hops rfl ?_) (all_cons (aopAt_l hops rfl ?_) all_nil))
  refine w_o (a := v29) ?_
  exact aN_of n1 hS0 hps
  refine w_o (a := v30) ?_
  exact aN_of n2 hS0 hps
 exact aN_start n0 hps
 replace h := cut_inr h hr1
 exact end_pureF (fun (r : (En × Bool)) => (.tup [.agg (Enc.cells (r.1 : En)), .raw (.bool r.2)] : AV)) h (a := .tup [.agg (Enc.cells ((En.mk 1 0 0 x3.1) : En)), .raw (.bool false)]) rfl (show okTrimL _ _ = true from (okTrimL_cons (okTrim_clo _ _ (clo_agg (Enc.clo _))) (by kernel_rfl))) (show AV.tup (stripL _) = _ from congrArg AV.tup (stripL_cons (strip_c (clo_agg (Enc.clo _))) (stripL_cons rfl rfl)))
 refine w_seqAny (id := 8) [.raw (.string (bs s)), .raw (.int .i64 a), .raw undef, .raw undef, .ptr 0 0, .raw (.bool false), .ptr 1 0, .raw (.string (bs x3.1)), .raw (.int .i64 x3.2.1), .raw (.int .i64 x3.2.2), .raw undef, .raw (.string (bs s)), .raw (.int .i64 (List.length s : Int)), .raw (.bool (decide ((List.length s : Int) < 5))), .raw undef, .agg (Enc.cells ((En.mk 0 0 0 []) : En)), .raw (.string (bs s)), .raw (.string (bs x1)), .raw (.bool (x1 == ([115, 101, 110, 100, 32] : List UInt8))), .raw (.bool (x1 == ([115, 101, 110, 100, 32] : List UInt8))), .tup [.raw (.string (bs x3.1)), .raw (.int .i64 x3.2.1), .raw (.int .i64 x3.2.2)], .raw (.string (bs s)), .raw (.string (bs x2)), .tup [.raw (.string (bs x3.1)), .raw (.int .i64 x3.2.1), .raw (.int .i64 x3.2.2)], .raw (.string (bs x3.1)), .raw (.int .i64 x3.2.1), .raw (.int .i64 x3.2.2), .raw (.string (bs x3.1)), .agg (Enc.cells ((En.mk 1 0 0 x3.1) : En)), .agg (Enc.cells ((En.mk 1 0 0 x3.1) : En)), .raw (.int .i64 x3.2.2), .raw (.bool (x3.2.2 == 0)), .raw (.bool true), .raw (.int .i64 x3.2.1), .raw (.string (bs s)), .raw (.int .i64 (List.length s : Int)), .raw (.int .i64 ((List.length s : Int) - 5)), .raw (.bool (x3.2.1 == ((List.length s : Int) - 5))), .raw (.bool (x3.2.1 == ((List.length s : Int) - 5))), .raw (.bool false), .raw undef, .raw undef, .raw undef, .raw (.bool false), .raw (.bool false), .raw undef, .raw undef, .raw undef, .raw undef, .raw (.bool false), .raw undef, .raw undef, .raw undef, .raw undef, .raw undef, .raw undef, .raw undef, .raw undef, .raw undef, .raw undef, .raw undef, .raw undef, .raw undef, .raw undef, .raw undef, .raw undef, .raw undef, .raw undef, .raw undef, .raw undef, .raw undef, .raw undef, .raw undef, .raw undef, .raw undef, .raw undef, .raw undef, .raw undef, .raw undef, .raw undef] ⟨[(67, (Enc.cells ((En.mk 1 0 0 x3.1) : En))), (67, (Enc.cells ((En.mk 1 0 0 x3.1) : En)))], [], [], 0, false⟩ ?_ ?_
 refine aany_intro (fun ops hops FIN hFIN S0 hS0 => ?_)
 let v29 : AV := .agg (Enc.cells ((En.mk 1 0 0 x3.1) : En))
 let v30 : AV := .raw (.int .i64 x3.2.2)
 let v31 : AV := .raw (.bool (x3.2.2 == 0))
 let v32 : AV := .raw (.bool true)
 let v33 : AV := .raw (.int .i64 x3.2.1)
 let v34 : AV := .raw (.string (bs s))
 let v35 : AV := .raw (.int .i64 (List.length s : Int))
 let v36 : AV := .raw (.int .i64 ((List.length s : Int) - 5))
 let v37 : AV := .raw (.bool (x3.2.1 == ((List.length s : Int) - 5)))
 let v38 : AV := .raw (.bool (x3.2.1 == ((List.length s : Int) - 5)))
 let v39 : AV := .raw (.bool false)
 let v43 : AV := .raw (.bool false)
 let v44 : AV := .raw (.bool false)
 let v49 : AV := .raw (.bool false)
 let v5 : AV := .raw (.bool false)
 let G0 : St := ⟨[(67, (Enc.cells ((En.mk 0 0 0 []) : En))), (67, (Enc.cells ((En.mk 1 0 0 x3.1) : En)))], [], [], 0, false⟩
 let G1 : St := ⟨[(67, (Enc.cells ((En.mk 1 0 0 x3.1) : En))), (67, (Enc.cells ((En.mk 1 0 0 x3.1) : En)))], [], [], 0, false⟩
 obtain ⟨ps, hps⟩ : ∃ ps : List (Option (Nat × AV)), ps = [some (29, v29), some (30, v30), some (31, v31), some (32, v32), some (33, v33), some (34, v34), some (35, v35), some (36, v36), some (37, v37), some (38, v38), some (39, v39), none, none, none, some (43, v43), some (44, v44), none, none, none, none, some (49, v49), none, some (5, v5)] := ⟨_, rfl⟩
 let N : Nat → Nat → St → Prop := fun k m σ => aN (ITP Tryz.prog) Tryz.prog none ops FIN S0 ps 23 k m σ
 have n58 : N 0 8388607 G1 := by
  exact aN_0 hops hS0 hps (hFIN _ _ (Wk.refl _ _ _))
 have n57 : N 1 4194303 G1 := by
  refine aN_n hops hS0 hps [22] (all_cons (aopAt_l hops rfl ?_) all_nil)
  refine w_o (a := v5) ?_
  exact aN_of n58 hS0 hps
 have n56 : N 2 3145727 G1 := by
  refine aN_n hops hS0 hps [20] (all_cons (aopAt_l hops rfl ?_) all_nil)
  refine w_o (a := v49) ?_
  exact aN_of n57 hS0 hps
 have n55 : N 2 2097151 G0 := by
  refine aN_n hops hS0 hps [21] (all_cons (aopAt_l hops rfl ?_) all_nil)
  refine w_om (σ'' := G1) (h := op_storeW (n := 4) rfl rfl rfl rfl rfl rfl rfl rfl (by decide)) ?_
  exact aN_of n57 hS0 hps
 have n54 : N 3 2097150 G0 := by
  refine aN_n hops hS0 hps [0] (all_cons (aopAt_l hops rfl ?_) all_nil)
  refine w_o (a := v29) ?_
  exact aN_of n55 hS0 hps
 have n53 : N 3 2621439 G1 := by
  refine aN_n hops hS0 hps [19] (all_cons (aopAt_l hops rfl ?_) all_nil)
  refine w_pHo hops ?_
  exact aN_of n56 hS0 hps
 have n52 : N 3 1048575 G0 := by
  refine aN_n hops hS0 hps [20, 21] (all_cons (aopAt_l hops rfl ?_) (all_cons (aopAt_l hops rfl ?_) all_nil))
  refine w_o (a := v49) ?_
  exact aN_of n55 hS0 hps
  refine w_om (σ'' := G1) (h := op_storeW (n := 4) rfl rfl rfl rfl rfl rfl rfl rfl (by decide)) ?_
  exact aN_of n56 hS0 hps
 have n51 : N 4 1048574 G0 := by
  refine aN_n hops hS0 hps [0, 20] (all_cons (aopAt_l hops rfl ?_) (all_cons (aopAt_l hops rfl ?_) all_nil))
  refine w_o (a := v29) ?_
  exact aN_of n52 hS0 hps
  refine w_o (a := v49) ?_
  exact aN_of n54 hS0 hps
 have n50 : N 4 2359295 G1 := by
  refine aN_n hops hS0 hps [18] (all_cons (aopAt_l hops rfl ?_) all_nil)
  refine w_pHo hops ?_
  exact aN_of n53 hS0 hps
 have n49 : N 4 524287 G0 := by
  refine aN_n hops hS0 hps [19, 21] (all_cons (aopAt_l hops rfl ?_) (all_cons (aopAt_l hops rfl ?_) all_nil))
  refine w_pHo hops ?_
  exact aN_of n52 hS0 hps
  refine w_om (σ'' := G1) (h := op_storeW (n := 4) rfl rfl rfl rfl rfl rfl rfl rfl (by decide)) ?_
  exact aN_of n53 hS0 hps
 have n48 : N 5 524286 G0 := by
  refine aN_n hops hS0 hps [0, 19] (all_cons (aopAt_l hops rfl ?_) (all_cons (aopAt_l hops rfl ?_) all_nil))
  refine w_o (a := v29) ?_
  exact aN_of n49 hS0 hps
  refine w_pHo hops ?_
  exact aN_of n51 hS0 hps
 have n47 : N 5 393215 G0 := by
  refine aN_n hops hS0 hps [17] (all_cons (aopAt_l hops rfl ?_) all_nil)
  refine w_pHo hops ?_
  exact aN_of n49 hS0 hps
 have n46 : N 5 262143 G0 := by
  refine aN_n hops hS0 hps [18, 21] (all_cons (aopAt_l hops rfl ?_) (all_cons (aopAt_l hops rfl ?_) all_nil))
  refine w_pHo hops ?_
  exact aN_of n49 hS0 hps
  refine w_om (σ'' := G1) (h := op_storeW (n := 4) rfl rfl rfl rfl rfl rfl rfl rfl (by decide)) ?_
  exact aN_of n50 hS0 hps
 have n45 : N 6 393214 G0 := by
  refine aN_n hops hS0 hps [0, 17] (all_cons (aopAt_l hops rfl ?_) (all_cons (aopAt_l hops rfl ?_) all_nil))
  refine w_o (a := v29) ?_
  exact aN_of n47 hS0 hps
  refine w_pHo hops ?_
  exact aN_of n48 hS0 hps
 have n44 : N 6 262142 G0 := by
  refine aN_n hops hS0 hps [0, 18] (all_cons (aopAt_l hops rfl ?_) (all_cons (aopAt_l hops rfl ?_) all_nil))
  refine w_o (a := v29) ?_
  exact aN_of n46 hS0 hps
  refine w_pHo hops ?_
  exact aN_of n48 hS0 hps
 have n43 : N 6 327679 G0 := by
  refine aN_n hops hS0 hps [16] (all_cons (aopAt_l hops rfl ?_) all_nil)
  refine w_pHo hops ?_
  exact aN_of n47 hS0 hps
 have n42 : N 6 131071 G0 := by
  refine aN_n hops hS0 hps [17, 18] (all_cons (aopAt_l hops rfl ?_) (all_cons (aopAt_l hops rfl ?_) all_nil))
  refine w_pHo hops ?_
  exact aN_of n46 hS0 hps
  refine w_pHo hops ?_
  exact aN_of n47 hS0 hps
 have n41 : N 7 327678 G0 := by
  refine aN_n hops hS0 hps [0, 16] (all_cons (aopAt_l hops rfl ?_) (all_cons (aopAt_l hops rfl ?_) all_nil))
  refine w_o (a := v29) ?_
  exact aN_of n43 hS0 hps
  refine w_pHo hops ?_
  exact aN_of n45 hS0 hps
 have n40 : N 7 131070 G0 := by
  refine aN_n hops hS0 hps [0, 17, 18] (all_cons (aopAt_l hops rfl ?_) (all_cons (aopAt_l hops rfl ?_) (all_cons (aopAt_l hops rfl ?_) all_nil)))
  refine w_o (a := v29) ?_
  exact aN_of n42 hS0 hps
  refine w_pHo hops ?_
  exact aN_of n44 hS0 hps
  refine w_pHo hops ?_
  exact aN_of n45 hS0 hps
 have n39 : N 7 65535 G0 := by
  refine aN_n hops hS0 hps [16, 18] (all_cons (aopAt_l hops rfl ?_) (all_cons (aopAt_l hops rfl ?_) all_nil))
  refine w_pHo hops ?_
  exact aN_of n42 hS0 hps
  refine w_pHo hops ?_
  exact aN_of n43 hS0 hps
 have n38 : N 8 65534 G0 := by
  refine aN_n hops hS0 hps [0, 16, 18] (all_cons (aopAt_l hops rfl ?_) (all_cons (aopAt_l hops rfl ?_) (all_cons (aopAt_l hops rfl ?_) all_nil)))
  refine w_o (a := v29) ?_
  exact aN_of n39 hS0 hps
  refine w_pHo hops ?_
  exact aN_of n40 hS0 hps
  refine w_pHo hops ?_
  exact aN_of n41 hS0 hps
 have n37 : N 8 32767 G0 := by
  refine aN_n hops hS0 hps [15] (all_cons (aopAt_l hops rfl ?_) all_nil)
  refine w_o (a := v44) ?_
  exact aN_of n39 hS0 hps
 have n36 : N 9 32766 G0 := by
  refine aN_n hops hS0 hps [0, 15] (all_cons (aopAt_l hops rfl ?_) (all_cons (aopAt_l hops rfl ?_) all_nil))
  refine w_o (a := v29) ?_
  exact aN_of n37 hS0 hps
  refine w_o (a := v44) ?_
  exact aN_of n38 hS0 hps
 have n35 : N 9 16383 G0 := by
  refine aN_n hops hS0 hps [14] (all_cons (aopAt_l hops rfl ?_) all_nil)
  refine w_o (a := v43) ?_
  exact aN_of n37 hS0 hps
 have n34 : N 10 16382 G0 := by
  refine aN_n hops hS0 hps [0, 14] (all_cons (aopAt_l hops rfl ?_) (all_cons (aopAt_l hops rfl ?_) all_nil))
  refine w_o (a := v29) ?_
  exact aN_of n35 hS0 hps
  refine w_o (a := v43) ?_
  exact aN_of n36 hS0 hps
 have n33 : N 10 8191 G0 := by
  refine aN_n hops hS0 hps [13] (all_cons (aopAt_l hops rfl ?_) all_nil)
  refine w_pHo hops ?_
  exact aN_of n35 hS0 hps
 have n32 : N 11 8190 G0 := by
  refine aN_n hops hS0 hps [0, 13] (all_cons (aopAt_l hops rfl ?_) (all_cons (aopAt_l hops rfl ?_) all_nil))
  refine w_o (a := v29) ?_
  exact aN_of n33 hS0 hps
  refine w_pHo hops ?_
  exact aN_of n34 hS0 hps
 have n31 : N 11 6143 G0 := by
  refine aN_n hops hS0 hps [11] (all_cons (aopAt_l hops rfl ?_) all_nil)
  refine w_pHo hops ?_
  exact aN_of n33 hS0 hps
 have n30 : N 11 4095 G0 := by
  refine aN_n hops hS0 hps [12] (all_cons (aopAt_l hops rfl ?_) all_nil)
  refine w_pHo hops ?_
  exact aN_of n33 hS0 hps
 have n29 : N 12 6142 G0 := by
  refine aN_n hops hS0 hps [0, 11] (all_cons (aopAt_l hops rfl ?_) (all_cons (aopAt_l hops rfl ?_) all_nil))
  refine w_o (a := v29) ?_
  exact aN_of n31 hS0 hps
  refine w_pHo hops ?_
  exact aN_of n32 hS0 hps
 have n28 : N 12 4094 G0 := by
  refine aN_n hops hS0 hps [0, 12] (all_cons (aopAt_l hops rfl ?_) (all_cons (aopAt_l hops rfl ?_) all_nil))
  refine w_o (a := v29) ?_
  exact aN_of n30 hS0 hps
  refine w_pHo hops ?_
  exact aN_of n32 hS0 hps
 have n27 : N 12 2047 G0 := by
  refine aN_n hops hS0 hps [11, 12] (all_cons (aopAt_l hops rfl ?_) (all_cons (aopAt_l hops rfl ?_) all_nil))
  refine w_pHo hops ?_
  exact aN_of n30 hS0 hps
  refine w_pHo hops ?_
  exact aN_of n31 hS0 hps
 have n26 : N 13 2046 G0 := by
  refine aN_n hops hS0 hps [0, 11, 12] (all_cons (aopAt_l hops rfl ?_) (all_cons (aopAt_l hops rfl ?_) (all_cons (aopAt_l hops rfl ?_) all_nil)))
  refine w_o (a := v29) ?_
  exact aN_of n27 hS0 hps
  refine w_pHo hops ?_
  exact aN_of n28 hS0 hps
  refine w_pHo hops ?_
  exact aN_of n29 hS0 hps
 have n25 : N 13 1023 G0 := by
  refine aN_n hops hS0 hps [10] (all_cons (aopAt_l hops rfl ?_) all_nil)
  refine w_o (a := v39) (h := op_q (q_bool rfl hc4)) ?_
  exact aN_of n27 hS0 hps
 have n24 : N 14 1022 G0 := by
  refine aN_n hops hS0 hps [0, 10] (all_cons (aopAt_l hops rfl ?_) (all_cons (aopAt_l hops rfl ?_) all_nil))
  refine w_o (a := v29) ?_
  exact aN_of n25 hS0 hps
  refine w_o (a := v39) (h := op_q (q_bool rfl hc4)) ?_
  exact aN_of n26 hS0 hps
 have n23 : N 14 511 G0 := by
  refine aN_n hops hS0 hps [9] (all_cons (aopAt_l hops rfl ?_) all_nil)
  refine w_o (a := v38) ?_
  exact aN_of n25 hS0 hps
 have n22 : N 15 510 G0 := by
  refine aN_n hops hS0 hps [0, 9] (all_cons (aopAt_l hops rfl ?_) (all_cons (aopAt_l hops rfl ?_) all_nil))
  refine w_o (a := v29) ?_
  exact aN_of n23 hS0 hps
  refine w_o (a := v38) ?_
  exact aN_of n24 hS0 hps
 have n21 : N 15 255 G0 := by
  refine aN_n hops hS0 hps [8] (all_cons (aopAt_l hops rfl ?_) all_nil)
  refine w_metH hops rfl rfl ?_
  refine w_o (a := v37) ?_
  exact aN_of n23 hS0 hps
 have n20 : N 16 254 G0 := by
  refine aN_n hops hS0 hps [0, 8] (all_cons (aopAt_l hops rfl ?_) (all_cons (aopAt_l hops rfl ?_) all_nil))
  refine w_o (a := v29) ?_
  exact aN_of n21 hS0 hps
  refine w_metH hops rfl rfl ?_
  refine w_o (a := v37) ?_
  exact aN_of n22 hS0 hps
 have n19 : N 16 239 G0 := by
  refine aN_n hops hS0 hps [4] (all_cons (aopAt_l hops rfl ?_) all_nil)
  refine w_metH hops rfl rfl ?_
  refine w_o (a := v33) ?_
  exact aN_of n21 hS0 hps
 have n18 : N 16 127 G0 := by
  refine aN_n hops hS0 hps [7] (all_cons (aopAt_l hops rfl ?_) all_nil)
  refine w_metH hops rfl rfl ?_
  refine w_o (a := v36) (h := op_q (q_sub rfl rfl rfl rfl g3.1 g3.2)) ?_
  exact aN_of n21 hS0 hps
 have n17 : N 17 238 G0 := by
  refine aN_n hops hS0 hps [0, 4] (all_cons (aopAt_l hops rfl ?_) (all_cons (aopAt_l hops rfl ?_) all_nil))
  refine w_o (a := v29) ?_
  exact aN_of n19 hS0 hps
  refine w_metH hops rfl rfl ?_
  refine w_o (a := v33) ?_
  exact aN_of n20 hS0 hps
 have n16 : N 17 126 G0 := by
  refine aN_n hops hS0 hps [0, 7] (all_cons (aopAt_l hops rfl ?_) (all_cons (aopAt_l hops rfl ?_) all_nil))
  refine w_o (a := v29) ?_
  exact aN_of n18 hS0 hps
  refine w_metH hops rfl rfl ?_
  refine w_o (a := v36) (h := op_q (q_sub rfl rfl rfl rfl g3.1 g3.2)) ?_
  exact aN_of n20 hS0 hps
 have n15 : N 17 111 G0 := by
  refine aN_n hops hS0 hps [4, 7] (all_cons (aopAt_l hops rfl ?_) (all_cons (aopAt_l hops rfl ?_) all_nil))
  refine w_metH hops rfl rfl ?_
  refine w_o (a := v33) ?_
  exact aN_of n18 hS0 hps
  refine w_metH hops rfl rfl ?_
  refine w_o (a := v36) (h := op_q (q_sub rfl rfl rfl rfl g3.1 g3.2)) ?_
  exact aN_of n19 hS0 hps
 have n14 : N 17 63 G0 := by
  refine aN_n hops hS0 hps [6] (all_cons (aopAt_l hops rfl ?_) all_nil)
  refine w_metH hops rfl rfl ?_
  refine w_o (a := v35) (h := op_q (q_lenS rfl rfl rfl)) ?_
  exact aN_of n18 hS0 hps
 have n13 : N 18 110 G0 := by
  refine aN_n hops hS0 hps [0, 4, 7] (all_cons (aopAt_l hops rfl ?_) (all_cons (aopAt_l hops rfl ?_) (all_cons (aopAt_l hops rfl ?_) all_nil)))
  refine w_o (a := v29) ?_
  exact aN_of n15 hS0 hps
  refine w_metH hops rfl rfl ?_
  refine w_o (a := v33) ?_
  exact aN_of n16 hS0 hps
  refine w_metH hops rfl rfl ?_
  refine w_o (a := v36) (h := op_q (q_sub rfl rfl rfl rfl g3.1 g3.2)) ?_
  exact aN_of n17 hS0 hps
 have n12 : N 18 62 G0 := by
  refine aN_n hops hS0 hps [0, 6] (all_cons (aopAt_l hops rfl ?_) (all_cons (aopAt_l hops rfl ?_) all_nil))
  refine w_o (a := v29) ?_
  exact aN_of n14 hS0 hps
  refine w_metH hops rfl rfl ?_
  refine w_o (a := v35) (h := op_q (q_lenS rfl rfl rfl)) ?_
  exact aN_of n16 hS0 hps
 have n11 : N 18 47 G0 := by
  refine aN_n hops hS0 hps [4, 6] (all_cons (aopAt_l hops rfl ?_) (all_cons (aopAt_l hops rfl ?_) all_nil))
  refine w_metH hops rfl rfl ?_
  refine w_o (a := v33) ?_
  exact aN_of n14 hS0 hps
  refine w_metH hops rfl rfl ?_
  refine w_o (a := v35) (h := op_q (q_lenS rfl rfl rfl)) ?_
  exact aN_of n15 hS0 hps
 have n10 : N 18 31 G0 := by
  refine aN_n hops hS0 hps [5] (all_cons (aopAt_l hops rfl ?_) all_nil)
  refine w_metH hops rfl rfl ?_
  refine w_o (a := v34) ?_
  exact aN_of n14 hS0 hps
 have n9 : N 19 46 G0 := by
  refine aN_n hops hS0 hps [0, 4, 6] (all_cons (aopAt_l hops rfl ?_) (all_cons (aopAt_l hops rfl ?_) (all_cons (aopAt_l hops rfl ?_) all_nil)))
  refine w_o (a := v29) ?_
  exact aN_of n11 hS0 hps
  refine w_metH hops rfl rfl ?_
  refine w_o (a := v33) ?_
  exact aN_of n12 hS0 hps
  refine w_metH hops rfl rfl ?_
  refine w_o (a := v35) (h := op_q (q_lenS rfl rfl rfl)) ?_
  exact aN_of n13 hS0 hps
 have n8 : N 19 30 G0 := by
  refine aN_n hops hS0 hps [0, 5] (all_cons (aopAt_l hops rfl ?_) (all_cons (aopAt_l hops rfl ?_) all_nil))
  refine w_o (a := v29) ?_
  exact aN_of n10 hS0 hps
  refine w_metH hops rfl rfl ?_
  refine w_o (a := v34) ?_
  exact aN_of n12 hS0 hps
 have n7 : N 19 15 G0 := by
  refine aN_n hops hS0 hps [4, 5] (all_cons (aopAt_l hops rfl ?_) (all_cons (aopAt_l hops rfl ?_) all_nil))
  refine w_metH hops rfl rfl ?_
  refine w_o (a := v33) ?_
  exact aN_of n10 hS0 hps
  refine w_metH hops rfl rfl ?_
  refine w_o (a := v34) ?_
  exact aN_of n11 hS0 hps
 have n6 : N 20 14 G0 := by
  refine aN_n hops hS0 hps [0, 4, 5] (all_cons (aopAt_l hops rfl ?_) (all_cons (aopAt_l hops rfl ?_) (all_cons (aopAt_l hops rfl ?_) all_nil)))
  refine w_o (a := v29) ?_
  exact aN_of n7 hS0 hps
  refine w_metH hops rfl rfl ?_
  refine w_o (a := v33) ?_
  exact aN_of n8 hS0 hps
  refine w_metH hops rfl rfl ?_
  refine w_o (a := v34) ?_
  exact aN_of n9 hS0 hps
 have n5 : N 20 7 G0 := by
  refine aN_n hops hS0 hps [3] (all_cons (aopAt_l hops rfl ?_) all_nil)
  refine w_o (a := v32) (h := op_q (q_bool rfl hc3)) ?_
  exact aN_of n7 hS0 hps
 have n4 : N 21 6 G0 := by
  refine aN_n hops hS0 hps [0, 3] (all_cons (aopAt_l hops rfl ?_) (all_cons (aopAt_l hops rfl ?_) all_nil))
  refine w_o (a := v29) ?_
  exact aN_of n5 hS0 hps
  refine w_o (a := v32) (h := op_q (q_bool rfl hc3)) ?_
  exact aN_of n6 hS0 hps
 have n3 : N 21 3 G0 := by
  refine aN_n hops hS0 hps [2] (all_cons (aopAt_l hops rfl ?_) all_nil)
  refine w_o (a := v31) ?_
  exact aN_of n5 hS0 hps
 have n2 : N 22 2 G0 := by
  refine aN_n hops hS0 hps [0, 2] (all_cons (aopAt_l hops rfl ?_) (all_cons (aopAt_l hops rfl ?_) all_nil))
  refine w_o (a := v29) ?_
  exact aN_of n3 hS0 hps
  refine w_o (a := v31) ?_
  exact aN_of n4 hS0 hps
 have n1 : N 22 1 G0 := by
  refine aN_n hops hS0 hps [1] (all_cons (aopAt_l hops rfl ?_) all_nil)
  refine w_o (a := v30) ?_
  exact aN_of n3 hS0 hps
 have n0 : N 23 0 G0 := by
  refine aN_n hops hS0 hps [0, 1] (all_cons (aopAt_l hops rfl ?_) (all_cons (aopAt_l hops rfl ?_) all_nil))
  refine w_o (a := v29) ?_
  exact aN_of n1 hS0 hps
  refine w_o (a := v30) ?_
  exact aN_of n2 hS0 hps
 exact aN_start n0 hps
 replace h := cut_inr h hr1
 exact end_pureF (fun (r : (En × Bool)) => (.tup [.agg (Enc.cells (r.1 : En)), .raw (.bool r.2)] : AV)) h (a := .tup [.agg (Enc.cells ((En.mk 1 0 0 x3.1) : En)), .raw (.bool false)]) rfl (show okTrimL _ _ = true from (okTrimL_cons (okTrim_clo _ _ (clo_agg (Enc.clo _))) (by kernel_rfl))) (show AV.tup (stripL _) = _ from congrArg AV.tup (stripL_cons (strip_c (clo_agg (Enc.clo _))) (stripL_cons rfl rfl)))
 refine w_seqAny (id := 8) [.raw (.string (bs s)), .raw (.int .i64 a), .raw undef, .raw undef, .ptr 0 0, .raw (.bool false), .ptr 1 0, .raw (.string (bs x3.1)), .raw (.int .i64 x3.2.1), .raw (.int .i64 x3.2.2), .raw undef, .raw (.string (bs s)), .raw (.int .i64 (List.length s : Int)), .raw (.bool (decide ((List.length s : Int) < 5))), .raw undef, .agg (Enc.cells ((En.mk 0 0 0 []) : En)), .raw (.string (bs s)), .raw (.string (bs x1)), .raw (.bool (x1 == ([115, 101, 110, 100, 32] : List UInt8))), .raw (.bool (x1 == ([115, 101, 110, 100, 32] : List UInt8))), .tup [.raw (.string (bs x3.1)), .raw (.int .i64 x3.2.1), .raw (.int .i64 x3.2.2)], .raw (.string (bs s)), .raw (.string (bs x2)), .tup [.raw (.string (bs x3.1)), .raw (.int .i64 x3.2.1), .raw (.int .i64 x3.2.2)], .raw (.string (bs x3.1)), .raw (.int .i64 x3.2.1), .raw (.int .i64 x3.2.2), .raw (.string (bs x3.1)), .agg (Enc.cells ((En.mk 1 0 0 x3.1) : En)), .agg (Enc.cells ((En.mk 1 0 0 x3.1) : En)), .raw (.int .i64 x3.2.2), .raw (.bool (x3.2.2 == 0)), .raw (.bool false), .raw undef, .raw undef, .raw undef, .raw undef, .raw undef, .raw (.bool false), .raw (.bool false), .raw undef, .raw undef, .raw undef, .raw (.bool false), .raw (.bool false), .raw undef, .raw undef, .raw undef, .raw undef, .raw (.bool false), .raw undef, .raw undef, .raw undef, .raw undef, .raw undef, .raw undef, .raw undef, .raw undef, .raw undef, .raw undef, .raw undef, .raw undef, .raw undef, .raw undef, .raw undef, .raw undef, .raw undef, .raw undef, .raw undef, .raw undef, .raw undef, .raw undef, .raw undef, .raw undef, .raw undef, .raw undef, .raw undef, .raw undef, .raw undef, .raw undef] ⟨[(67, (Enc.cells ((En.mk 1 0 0 x3.1) : En))), (67, (Enc.cells ((En.mk 1 0 0 x3.1) : En)))], [], [], 0, false⟩ ?_ ?_
 refine aany_intro (fun ops hops FIN hFIN S0 hS0 => ?_)
 let v29 : AV := .agg (Enc.cells ((En.mk 1 0 0 x3.1) : En))
 let v30 : AV := .raw (.int .i64 x3.2.2)
 let v31 : AV := .raw (.bool (x3.2.2 == 0))
 let v32 : AV := .raw (.bool false)
 let v38 : AV := .raw (.bool false)
 let v39 : AV := .raw (.bool false)
 let v43 : AV := .raw (.bool false)
 let v44 : AV := .raw (.bool false)
 let v49 : AV := .raw (.bool false)
 let v5 : AV := .raw (.bool false)
 let G0 : St := ⟨[(67, (Enc.cells ((En.mk 0 0 0 []) : En))), (67, (Enc.cells ((En.mk 1 0 0 x3.1) : En)))], [], [], 0, false⟩
 let G1 : St := ⟨[(67, (Enc.cells ((En.mk 1 0 0 x3.1) : En))), (67, (Enc.cells ((En.mk 1 0 0 x3.1) : En)))], [], [], 0, false⟩
 obtain ⟨ps, hps⟩ : ∃ ps : List (Option (Nat × AV)), ps = [some (29, v29), some (30, v30), some (31, v31), some (32, v32), none, none, none, none, none, some (38, v38), some (39, v39), none, none, none, some (43, v43), some (44, v44), none, none, none, none, some (49, v49), none, some (5, v5)] := ⟨_, rfl⟩
 let N : Nat → Nat → St → Prop := fun k m σ => aN (ITP Tryz.prog) Tryz.prog none ops FIN S0 ps 23 k m σ
 have n58 : N 0 8388607 G1 := by
  exact aN_0 hops hS0 hps (hFIN _ _ (Wk.refl _ _ _))
 have n57 : N 1 4194303 G1 := by
  refine aN_n hops hS0 hps [22] (all_cons (aopAt_l hops rfl ?_) all_nil)
  refine w_o (a := v5) ?_
  exact aN_of n58 hS0 hps
 have n56 : N 2 3145727 G1 := by
  refine aN_n hops hS0 hps [20] (all_cons (aopAt_l hops rfl ?_) all_nil)
  refine w_o (a := v49) ?_
  exact aN_of n57 hS0 hps
 have n55 : N 2 2097151 G0 := by
  refine aN_n hops hS0 hps [21] (all_cons (aopAt_l hops rfl ?_) all_nil)
  refine w_om (σ'' := G1) (h := op_storeW (n := 4) rfl rfl rfl rfl rfl rfl rfl rfl (by decide)) ?_
  exact aN_of n57 hS0 hps
 have n54 : N 3 2097150 G0 := by
  refine aN_n hops hS0 hps [0] (all_cons (aopAt_l hops rfl ?_) all_nil)
  refine w_o (a := v29) ?_
  exact aN_of n55 hS0 hps
 have n53 : N 3 2621439 G1 := by
  refine aN_n hops hS0 hps [19] (all_cons (aopAt_l hops rfl ?_) all_nil)
  refine w_pHo hops ?_
  exact aN_of n56 hS0 hps
 have n52 : N 3 1048575 G0 := by
  refine aN_n hops hS0 hps [20, 21] (all_cons (aopAt_l hops rfl ?_) (all_cons (aopAt_l hops rfl ?_) all_nil))
  refine w_o (a := v49) ?_
  exact aN_of n55 hS0 hps
  refine w_om (σ'' := G1) (h := op_storeW (n := 4) rfl rfl rfl rfl rfl rfl rfl rfl (by decide)) ?_
  exact aN_of n56 hS0 hps
 have n51 : N 4 1048574 G0 := by
  refine aN_n hops hS0 hps [0, 20] (all_cons (aopAt_l hops rfl ?_) (all_cons (aopAt_l hops rfl ?_) all_nil))
  refine w_o (a := v29) ?_
  exact aN_of n52 hS0 hps
  refine w_o (a := v49) ?_
  exact aN_of n54 hS0 hps
 have n50 : N 4 2359295 G1 := by
  refine aN_n hops hS0 hps [18] (all_cons (aopAt_l hops rfl ?_) all_nil)
  refine w_pHo hops ?_
  exact aN_of n53 hS0 hps
 have n49 : N 4 524287 G0 := by
  refine aN_n hops hS0 hps [19, 21] (all_cons (aopAt_l hops rfl ?_) (all_cons (aopAt_l hops rfl ?_) all_nil))
  refine w_pHo hops ?_
  exact aN_of n52 hS0 hps
  refine w_om (σ'' := G1) (h := op_storeW (n := 4) rfl rfl rfl rfl rfl rfl rfl rfl (by decide)) ?_
  exact aN_of n53 hS0 hps
 have n48 : N 5 524286 G0 := by
  refine aN_n hops hS0 hps [0, 19] (all_cons (aopAt_l hops rfl ?_) (all_cons (aopAt_l hops rfl ?_) all_nil))
  refine w_o (a := v29) ?_
  exact aN_of n49 hS0 hps
  refine w_pHo hops ?_
  exact aN_of n51 hS0 hps
 have n47 : N 5 393215 G0 := by
  refine aN_n hops hS0 hps [17] (all_cons (aopAt_l hops rfl ?_) all_nil)
  refine w_pHo hops ?_
  exact aN_of n49 hS0 hps
 have n46 : N 5 262143 G0 := by
  refine aN_n hops hS0 hps [18, 21] (all_cons (aopAt_l hops rfl ?_) (all_cons (aopAt_l hops rfl ?_) all_nil))
  refine w_pHo hops ?_
  exact aN_of n49 hS0 hps
  refine w_om (σ'' := G1) (h := op_storeW (n := 4) rfl rfl rfl rfl rfl rfl rfl rfl (by decide)) ?_
  exact aN_of n50 hS0 hps
 have n45 : N 6 393214 G0 := by
  refine aN_n hops hS0 hps [0, 17] (all_cons (aopAt_l hops rfl ?_) (all_cons (aopAt_l hops rfl ?_) all_nil))
  refine w_o (a := v29) ?_
  exact aN_of n47 hS0 hps
  refine w_pHo hops ?_
  exact aN_of n48 hS0 hps
 have n44 : N 6 262142 G0 := by
  refine aN_n hops hS0 hps [0, 18] (all_cons (aopAt_l hops rfl ?_) (all_cons (aopAt_l hops rfl ?_) all_nil))
  refine w_o (a := v29) ?_
  exact aN_of n46 hS0 hps
  refine w_pHo hops ?_
  exact aN_of n48 hS0 hps
 have n43 : N 6 327679 G0 := by
  refine aN_n hops hS0 hps [16] (all_cons (aopAt_l hops rfl ?_) all_nil)
  refine w_pHo hops ?_
  exact aN_of n47 hS0 hps
 have n42 : N 6 131071 G0 := by
  refine aN_n hops hS0 hps [17, 18] (all_cons (aopAt_l hops rfl ?_) (all_cons (aopAt_l hops rfl ?_) all_nil))
  refine w_pHo hops ?_
  exact aN_of n46 hS0 hps
  refine w_pHo hops ?_
  exact aN_of n47 hS0 hps
 have n41 : N 7 327678 G0 := by
  refine aN_n hops hS0 hps [0, 16] (all_cons (aopAt_l hops rfl ?_) (all_cons (aopAt_l hops rfl ?_) all_nil))
  refine w_o (a := v29) ?_
  exact aN_of n43 hS0 hps
  refine w_pHo hops ?_
  exact aN_of n45 hS0 hps
 have n40 : N 7 131070 G0 := by
  refine aN_n hops hS0 hps [0, 17, 18] (all_cons (aopAt_l hops rfl ?_) (all_cons (aopAt_l hops rfl ?_) (all_cons (aopAt_l hops rfl ?_) all_nil)))
  refine w_o (a := v29) ?_
  exact aN_of n42 hS0 hps
  refine w_pHo hops ?_
  exact aN_of n44 hS0 hps
  refine w_pHo hops ?_
  exact aN_of n45 hS0 hps
 have n39 : N 7 65535 G0 := by
  refine aN_n hops hS0 hps [16, 18] (all_cons (aopAt_l hops rfl ?_) (all_cons (aopAt_l hops rfl ?_) all_nil))
  refine w_pHo hops ?_
  exact aN_of n42 hS0 hps
  refine w_pHo hops ?_
  exact aN_of n43 hS0 hps
 have n38 : N 8 65534 G0 := by
  refine aN_n hops hS0 hps [0, 16, 18] (all_cons (aopAt_l hops rfl ?_) (all_cons (aopAt_l hops rfl ?_) (all_cons (aopAt_l hops rfl ?_) all_nil)))
  refine w_o (a := v29) ?_
  exact aN_of n39 hS0 hps
  refine w_pHo hops ?_
  exact aN_of n40 hS0 hps
  refine w_pHo hops ?_
  exact aN_of n41 hS0 hps
 have n37 : N 8 32767 G0 := by
  refine aN_n hops hS0 hps [15] (all_cons (aopAt_l hops rfl ?_) all_nil)
  refine w_o (a := v44) ?_
  exact aN_of n39 hS0 hps
 have n36 : N 9 32766 G0 := by
  refine aN_n hops hS0 hps [0, 15] (all_cons (aopAt_l hops rfl ?_) (all_cons (aopAt_l hops rfl ?_) all_nil))
  refine w_o (a := v29) ?_
  exact aN_of n37 hS0 hps
  refine w_o (a := v44) ?_
  exact aN_of n38 hS0 hps
 have n35 : N 9 16383 G0 := by
  refine aN_n hops hS0 hps [14] (all_cons (aopAt_l hops rfl ?_) all_nil)
  refine w_o (a := v43) ?_
  exact aN_of n37 hS0 hps
 have n34 : N 10 16382 G0 := by
  refine aN_n hops hS0 hps [0, 14] (all_cons (aopAt_l hops rfl ?_) (all_cons (aopAt_l hops rfl ?_) all_nil))
  refine w_o (a := v29) ?_
  exact aN_of n35 hS0 hps
  refine w_o (a := v43) ?_
  exact aN_of n36 hS0 hps
 have n33 : N 10 8191 G0 := by
  refine aN_n hops hS0 hps [13] (all_cons (aopAt_l hops rfl ?_) all_nil)
  refine w_pHo hops ?_
  exact aN_of n35 hS0 hps
 have n32 : N 11 8190 G0 := by
  refine aN_n hops hS0 hps [0, 13] (all_cons (aopAt_l hops rfl ?_) (all_cons (aopAt_l hops rfl ?_) all_nil))
  refine w_o (a := v29) ?_
  exact aN_of n33 hS0 hps
  refine w_pHo hops ?_
  exact aN_of n34 hS0 hps
 have n31 : N 11 6143 G0 := by
  refine aN_n hops hS0 hps [11] (all_cons (aopAt_l hops rfl ?_) all_nil)
  refine w_pHo hops ?_
  exact aN_of n33 hS0 hps
 have n30 : N 11 4095 G0 := by
  refine aN_n hops hS0 hps [12] (all_cons (aopAt_l hops rfl ?_) all_nil)
  refine w_pHo hops ?_
  exact aN_of n33 hS0 hps
 have n29 : N 12 6142 G0 := by
  refine aN_n hops hS0 hps [0, 11] (all_cons (aopAt_l hops rfl ?_) (all_cons (aopAt_l hops rfl ?_) all_nil))
  refine w_o (a := v29) ?_
  exact aN_of n31 hS0 hps
  refine w_pHo hops ?_
  exact aN_of n32 hS0 hps
 have n28 : N 12 4094 G0 := by
  refine aN_n hops hS0 hps [0, 12] (all_cons (aopAt_l hops rfl ?_) (all_cons (aopAt_l hops rfl ?_) all_nil))
  refine w_o (a := v29) ?_
  exact aN_of n30 hS0 hps
  refine w_pHo hops ?_
  exact aN_of n32 hS0 hps
 have n27 : N 12 2047 G0 := by
  refine aN_n hops hS0 hps [11, 12] (all_cons (aopAt_l hops rfl ?_) (all_cons (aopAt_l hops rfl ?_) all_nil))
  refine w_pHo hops ?_
  exact aN_of n30 hS0 hps
  refine w_pHo hops ?_
  exact aN_of n31 hS0 hps
 have n26 : N 13 2046 G0 := by
  refine aN_n hops hS0 hps [0, 11, 12] (all_cons (aopAt_l hops rfl ?_) (all_cons (aopAt_l hops rfl ?_) (all_cons (aopAt_l hops rfl ?_) all_nil)))
  refine w_o (a := v29) ?_
  exact aN_of n27 hS0 hps
  refine w_pHo hops ?_
  exact aN_of n28 hS0 hps
  refine w_pHo hops ?_
  exact aN_of n29 hS0 hps
 have n25 : N 13 1023 G0 := by
  refine aN_n hops hS0 hps [10] (all_cons (aopAt_l hops rfl ?_) all_nil)
  refine w_o (a := v39) ?_
  exact aN_of n27 hS0 hps
 have n24 : N 14 1022 G0 := by
  refine aN_n hops hS0 hps [0, 10] (all_cons (aopAt_l hops rfl ?_) (all_cons (aopAt_l hops rfl ?_) all_nil))
  refine w_o (a := v29) ?_
  exact aN_of n25 hS0 hps
  refine w_o (a := v39) ?_
  exact aN_of n26 hS0 hps
 have n23 : N 14 511 G0 := by
  refine aN_n hops hS0 hps [9] (all_cons (aopAt_l hops rfl ?_) all_nil)
  refine w_o (a := v38) ?_
  exact aN_of n25 hS0 hps
 have n22 : N 15 510 G0 := by
  refine aN_n hops hS0 hps [0, 9] (all_cons (aopAt_l hops rfl ?_) (all_cons (aopAt_l hops rfl ?_) all_nil))
  refine w_o (a := v29) ?_
  exact aN_of n23 hS0 hps
  refine w_o (a := v38) ?_
  exact aN_of n24 hS0 hps
 have n21 : N 15 255 G0 := by
  refine aN_n hops hS0 hps [8] (all_cons (aopAt_l hops rfl ?_) all_nil)
  refine w_pHo hops ?_
  exact aN_of n23 hS0 hps
 have n20 : N 16 254 G0 := by
  refine aN_n hops hS0 hps [0, 8] (all_cons (aopAt_l hops rfl ?_) (all_cons (aopAt_l hops rfl ?_) all_nil))
  refine w_o (a := v29) ?_
  exact aN_of n21 hS0 hps
  refine w_pHo hops ?_
  exact aN_of n22 hS0 hps
 have n19 : N 16 239 G0 := by
  refine aN_n hops hS0 hps [4] (all_cons (aopAt_l hops rfl ?_) all_nil)
  refine w_pHo hops ?_
  exact aN_of n21 hS0 hps
 have n18 : N 16 127 G0 := by
  refine aN_n hops hS0 hps [7] (all_cons (aopAt_l hops rfl ?_) all_nil)
  refine w_pHo hops ?_
  exact aN_of n21 hS0 hps
 have n17 : N 17 238 G0 := by
  refine aN_n hops hS0 hps [0, 4] (all_cons (aopAt_l hops rfl ?_) (all_cons (aopAt_l hops rfl ?_) all_nil))
  refine w_o (a := v29) ?_
  exact aN_of n19 hS0 hps
  refine w_pHo hops ?_
  exact aN_of n20 hS0 hps
 have n16 : N 17 126 G0 := by
  refine aN_n hops hS0 hps [0, 7] (all_cons (aopAt_l hops rfl ?_) (all_cons (aopAt_l hops rfl ?_) all_nil))
  refine w_o (a := v29) ?_
  exact aN_of n18 hS0 hps
  refine w_pHo hops ?_
  exact aN_of n20 hS0 hps
 have n15 : N 17 111 G0 := by
  refine aN_n hops hS0 hps [4, 7] (all_cons (aopAt_l hops rfl ?_) (all_cons (aopAt_l hops rfl ?_) all_nil))
  refine w_pHo hops ?_
  exact aN_of n18 hS0 hps
  refine w_pHo hops ?_
  exact aN_of n19 hS0 hps
 have n14 : N 17 63 G0 := by
  refine aN_n hops hS0 hps [6] (all_cons (aopAt_l hops rfl ?_) all_nil)
  refine w_pHo hops ?_
  exact aN_of n18 hS0 hps
 have n13 : N 18 110 G0 := by
  refine aN_n hops hS0 hps [0, 4, 7] (all_cons (aopAt_l hops rfl ?_) (all_cons (aopAt_l hops rfl ?_) (all_cons (aopAt_l hops rfl ?_) all_nil)))
  refine w_o (a := v29) ?_
  exact aN_of n15 hS0 hps
  refine w_pHo hops ?_
  exact aN_of n16 hS0 hps
  refine w_pHo hops ?_
  exact aN_of n17 hS0 hps
 have n12 : N 18 62 G0 := by
  refine aN_n hops hS0 hps [0, 6] (all_cons (aopAt_l hops rfl ?_) (all_cons (aopAt_l hops rfl ?_) all_nil))
  refine w_o (a := v29) ?_
  exact aN_of n14 hS0 hps
  refine w_pHo hops ?_
  exact aN_of n16 hS0 hps
 have n11 : N 18 47 G0 := by
  refine aN_n hops hS0 hps [4, 6] (all_cons (aopAt_l hops rfl ?_) (all_cons (aopAt_l hops rfl ?_) all_nil))
  refine w_pHo hops ?_
  exact aN_of n14 hS0 hps
  refine w_pHo hops ?_
  exact aN_of n15 hS0 hps
 have n10 : N 18 31 G0 := by
  refine aN_n hops hS0 hps [5] (all_cons (aopAt_l hops rfl ?_) all_nil)
  refine w_pHo hops ?_
  exact aN_of n14 hS0 hps
 have n9 : N 19 46 G0 := by
  refine aN_n hops hS0 hps [0, 4, 6] (all_cons (aopAt_l hops rfl ?_) (all_cons (aopAt_l hops rfl ?_) (all_cons (aopAt_l hops rfl ?_) all_nil)))
  refine w_o (a := v29) ?_
  exact aN_of n11 hS0 hps
  refine w_pHo hops ?_
  exact aN_of n12 hS0 hps
  refine w_pHo hops ?_
  exact aN_of n13 hS0 hps
 have n8 : N 19 30 G0 := by
  refine aN_n hops hS0 hps [0, 5] (all_cons (aopAt_l hops rfl ?_) (all_cons (aopAt_l hops rfl ?_) all_nil))
  refine w_o (a := v29) ?_
  exact aN_of n10 hS0 hps
  refine w_pHo hops ?_
  exact aN_of n12 hS0 hps
 have n7 : N 19 15 G0 := by
  refine aN_n hops hS0 hps [4, 5] (all_cons (aopAt_l hops rfl ?_) (all_cons (aopAt_l hops rfl ?_) all_nil))
  refine w_pHo hops ?_
  exact aN_of n10 hS0 hps
  refine w_pHo hops ?_
  exact aN_of n11 hS0 hps
 have n6 : N 20 14 G0 := by
  refine aN_n hops hS0 hps [0, 4, 5] (all_cons (aopAt_l hops rfl ?_) (all_cons (aopAt_l hops rfl ?_) (all_cons (aopAt_l hops rfl ?_) all_nil)))
  refine w_o (a := v29) ?_
  exact aN_of n7 hS0 hps
  refine w_pHo hops ?_
  exact aN_of n8 hS0 hps
  refine w_pHo hops ?_
  exact aN_of n9 hS0 hps
 have n5 : N 20 7 G0 := by
  refine aN_n hops hS0 hps [3] (all_cons (aopAt_l hops rfl ?_) all_nil)
  refine w_o (a := v32) (h := op_q (q_bool rfl hc3)) ?_
  exact aN_of n7 hS0 hps
 have n4 : N 21 6 G0 := by
  refine aN_n hops hS0 hps [0, 3] (all_cons (aopAt_l hops rfl ?_) (all_cons (aopAt_l hops rfl ?_) all_nil))
  refine w_o (a := v29) ?_
  exact aN_of n5 hS0 hps
  refine w_o (a := v32) (h := op_q (q_bool rfl hc3)) ?_
  exact aN_of n6 hS0 hps
 have n3 : N 21 3 G0 := by
  refine aN_n hops hS0 hps [2] (all_cons (aopAt_l hops rfl ?_) all_nil)
  refine w_o (a := v31) ?_
  exact aN_of n5 hS0 hps
 have n2 : N 22 2 G0 := by
  refine aN_n hops hS0 hps [0, 2] (all_cons (aopAt_l hops rfl ?_) (all_cons (aopAt_l hops rfl ?_) all_nil))
  refine w_o (a := v29) ?_
  exact aN_of n3 hS0 hps
  refine w_o (a := v31) ?_
  exact aN_of n4 hS0 hps
 have n1 : N 22 1 G0 := by
  refine aN_n hops hS0 hps [1] (all_cons (aopAt_l hops rfl ?_) all_nil)
  refine w_o (a := v30) ?_
  exact aN_of n3 hS0 hps
 have n0 : N 23 0 G0 := by
  refine aN_n hops hS0 hps [0, 1] (all_cons (aopAt_l hops rfl ?_) (all_cons (aopAt_l hops rfl ?_) all_nil))
  refine w_o (a := v29) ?_
  exact aN_of n1 hS0 hps
  refine w_o (a := v30) ?_
  exact aN_of n2 hS0 hps
 exact aN_start n0 hps
 replace h := cut_inr h hr1
 exact end_pureF (fun (r : (En × Bool)) => (.tup [.agg (Enc.cells (r.1 : En)), .raw (.bool r.2)] : AV)) h (a := .tup [.agg (Enc.cells ((En.mk 1 0 0 x3.1) : En)), .raw (.bool false)]) rfl (show okTrimL _ _ = true from (okTrimL_cons (okTrim_clo _ _ (clo_agg (Enc.clo _))) (by kernel_rfl))) (show AV.tup (stripL _) = _ from congrArg AV.tup (stripL_cons (strip_c (clo_agg (Enc.clo _))) (stripL_cons rfl rfl)))
 refine w_condF hc2 rfl ?_
 refine w_seq (w_region ?_)
 refine w_o (a := .raw (.bool (x1 == ([116, 97, 107, 101, 32] : List UInt8)))) (h := op_q (q_streq rfl rfl rfl)) ?_
 refine w_o (a := .raw (.bool (x1 == ([116, 97, 107, 101, 32] : List UInt8)))) ?_
 refine bif_e h (fun hc6 h => ?_) (fun hc6 h => ?_)
 refine w_condT hc6 rfl ?_
 refine w_region (k0 := 0) (id := 10) ?_
 refine w_o (a := .ptr 1 0) ?_
 refine w_om (σ'' := ⟨[(67, (Enc.cells ((En.mk 0 0 0 []) : En))), (67, (Enc.cells ((En.mk 2 ((En.mk 0 0 0 []).fr) ((En.mk 0 0 0 []).to) ((En.mk 0 0 0 []).b)) : En)))], [], [], 0, false⟩) (h := op_store (n := 1) rfl rfl rfl rfl rfl ⟨rfl, rfl, Nat.le_of_ble_eq_true rfl, by decide⟩) ?_
 refine cut_done (o := or1) ((En.mk 2 ((En.mk 0 0 0 []).fr) ((En.mk 0 0 0 []).to) ((En.mk 0 0 0 []).b))) h ?_
 exact wm_of (bl 80 83) (by kernel_rfl) (by kernel_rfl)
 refine w_condF hc6 rfl ?_
 refine w_seq (w_region ?_)
 refine w_o (a := .raw (.bool (x1 == ([108, 111, 115, 101, 32] : List UInt8)))) (h := op_q (q_streq rfl rfl rfl)) ?_
 refine w_o (a := .raw (.bool (x1 == ([108, 111, 115, 101, 32] : List UInt8)))) ?_
 refine bif_e h (fun hc7 h => ?_) (fun hc7 h => ?_)
 refine w_condT hc7 rfl ?_
 refine w_region (k0 := 0) (id := 12) ?_
 refine w_o (a := .ptr 1 0) ?_
 refine w_om (σ'' := ⟨[(67, (Enc.cells ((En.mk 0 0 0 []) : En))), (67, (Enc.cells ((En.mk 3 ((En.mk 0 0 0 []).fr) ((En.mk 0 0 0 []).to) ((En.mk 0 0 0 []).b)) : En)))], [], [], 0, false⟩) (h := op_store (n := 1) rfl rfl rfl rfl rfl ⟨rfl, rfl, Nat.le_of_ble_eq_true rfl, by decide⟩) ?_
 refine cut_done (o := or1) ((En.mk 3 ((En.mk 0 0 0 []).fr) ((En.mk 0 0 0 []).to) ((En.mk 0 0 0 []).b))) h ?_
 exact wm_of (bl 80 83) (by kernel_rfl) (by kernel_rfl)
 refine w_condF hc7 rfl ?_
 refine cut_done (o := or1) ((En.mk 0 0 0 [])) h ?_
 exact wm_of (bl 80 83) (by kernel_rfl) (by kernel_rfl)
 intro j1 h
 refine w_start (by dsimp only [setAll, topAll, List.foldl, List.set]) rfl ?_
 refine w_seq (w_region ?_)
 refine w_o (a := .raw (.string (bs s))) ?_
 obtain ⟨g4, h⟩ := chk_e h
 obtain ⟨x6, hx6, h⟩ := letE_e h
 refine w_o (a := .raw (.string (bs x6))) (h := op_q (by rw [← hx6]; exact (q_sslL_ (l := s) g4 rfl rfl rfl rfl))) ?_
 obtain ⟨x7, hx7, h⟩ := bindE_e h
 refine w_callc (args' := [.raw (.string (bs x6))]) (r := .list (List.length (x7 : List Int)) (Enc.cellsL (x7 : List Int)) .none) (rnums_sh fuel x6 x7 hx7) rfl rfl (stripL_cons rfl rfl) (by kernel_rfl) (by dsimp only [aput, List.set]) ?_
 refine w_o (a := .list (List.length (x7 : List Int)) (Enc.cellsL (x7 : List Int)) .none) ?_
 refine w_seq ?_
 refine w_seq (w_region ?_)
 refine w_o (a := .list (List.length (x7 : List Int)) (Enc.cellsL (x7 : List Int)) .none) ?_
 refine w_o (a := .raw (.int .i64 (List.length x7 : Int))) ?_
 refine w_o (a := .raw (.bool ((List.length x7 : Int) != 2))) ?_
 refine bif_e h (fun hc8 h => ?_) (fun hc8 h => ?_)
 refine w_o (a := .raw (.bool true)) (h := op_q (q_bool rfl hc8)) ?_
 refine w_po ?_
 refine w_po ?_
 refine w_po ?_
 refine w_o (a := .raw (.bool true)) ?_
 refine w_true rfl ?_
 refine w_seq (w_region ?_)
 refine w_o (a := .agg (Enc.cells ((En.mk 0 0 0 []) : En))) ?_
 refine w_om (σ'' := ⟨[(67, (Enc.cells ((En.mk 0 0 0 []) : En))), (67, (Enc.cells (j1 : En)))], [], [], 0, false⟩) (h := op_storeW (n := 4) rfl rfl rfl rfl rfl rfl rfl rfl (by decide)) ?_
 refine w_o (a := .raw (.bool false)) ?_
 exact end_pureF (fun (r : (En × Bool)) => (.tup [.agg (Enc.cells (r.1 : En)), .raw (.bool r.2)] : AV)) h (a := .tup [.agg (Enc.cells ((En.mk 0 0 0 []) : En)), .raw (.bool false)]) rfl (show okTrimL _ _ = true from (okTrimL_cons (okTrim_clo _ _ (clo_agg (Enc.clo _))) (by kernel_rfl))) (show AV.tup (stripL _) = _ from congrArg AV.tup (stripL_cons (strip_c (clo_agg (Enc.clo _))) (stripL_cons rfl rfl)))
 refine w_o (a := .raw (.bool false)) (h := op_q (q_bool rfl hc8)) ?_
 refine w_met rfl rfl ?_
 refine w_o (a := .ptr 1 0) ?_
 refine w_met rfl rfl ?_
 refine w_o (a := .raw (.int .u8 j1.k)) ?_
 refine w_met rfl rfl ?_
 refine w_o (a := .raw (.bool (j1.k == 0))) ?_
 refine w_o (a := .raw (.bool (j1.k == 0))) ?_
 refine bif_e h (fun hc9 h => ?_) (fun hc9 h => ?_)
 refine w_condT hc9 rfl ?_
 refine w_seq (w_region ?_)
 refine w_o (a := .agg (Enc.cells ((En.mk 0 0 0 []) : En))) ?_
 refine w_om (σ'' := ⟨[(67, (Enc.cells ((En.mk 0 0 0 []) : En))), (67, (Enc.cells (j1 : En)))], [], [], 0, false⟩) (h := op_storeW (n := 4) rfl rfl rfl rfl rfl rfl rfl rfl (by decide)) ?_
 refine w_o (a := .raw (.bool false)) ?_
 exact end_pureF (fun (r : (En × Bool)) => (.tup [.agg (Enc.cells (r.1 : En)), .raw (.bool r.2)] : AV)) h (a := .tup [.agg (Enc.cells ((En.mk 0 0 0 []) : En)), .raw (.bool false)]) rfl (show okTrimL _ _ = true from (okTrimL_cons (okTrim_clo _ _ (clo_agg (Enc.clo _))) (by kernel_rfl))) (show AV.tup (stripL _) = _ from congrArg AV.tup (stripL_cons (strip_c (clo_agg (Enc.clo _))) (stripL_cons rfl rfl)))
 refine w_condF hc9 rfl ?_
 obtain ⟨g5, h⟩ := chk_e h
 obtain ⟨g6, h⟩ := chk_e h
 refine w_seqAny (id := 16) [.raw (.string (bs s)), .raw (.int .i64 a), .top, .top, .ptr 0 0, .top, .ptr 1 0, .top, .top, .top, .list (List.length (x7 : List Int)) (Enc.cellsL (x7 : List Int)) .none, .top, .top, .top, .top, .top, .top, .top, .top, .top, .top, .top, .top, .top, .top, .top, .top, .top, .top, .top, .top, .top, .top, .top, .top, .top, .top, .top, .top, .top, .top, .top, .top, .top, .top, .top, .top, .top, .top, .top, .top, .top, .top, .top, .top, .top, .raw (.string (bs s)), .raw (.string (bs x6)), .list (List.length (x7 : List Int)) (Enc.cellsL (x7 : List Int)) .none, .list (List.length (x7 : List Int)) (Enc.cellsL (x7 : List Int)) .none, .raw (.int .i64 (List.length x7 : Int)), .raw (.bool ((List.length x7 : Int) != 2)), .raw (.bool false), .ptr 1 0, .raw (.int .u8 j1.k), .raw (.bool (j1.k == 0)), .raw (.bool (j1.k == 0)), .top, .list (List.length (x7 : List Int)) (Enc.cellsL (x7 : List Int)) .none, .iptr (Enc.cells (ix x7 (0 : Int)) ++ Enc.cellsL (List.drop (Int.toNat (0 : Int) + 1) x7)), .raw (.int .i64 (ix x7 (0 : Int))), .list (List.length (x7 : List Int)) (Enc.cellsL (x7 : List Int)) .none, .iptr (Enc.cells (ix x7 (1 : Int)) ++ Enc.cellsL (List.drop (Int.toNat (1 : Int) + 1) x7)), .raw (.int .i64 (ix x7 (1 : Int))), .ptr 1 1, .ptr 1 2, .top, .top, .top, .top] ⟨[(67, (Enc.cells ((En.mk 0 0 0 []) : En))), (67, (Enc.cells ((En.mk ((En.mk j1.k (ix x7 (0 : Int)) j1.to j1.b).k) ((En.mk j1.k (ix x7 (0 : Int)) j1.to j1.b).fr) (ix x7 (1 : Int)) ((En.mk j1.k (ix x7 (0 : Int)) j1.to j1.b).b)) : En)))], [], [], 0, false⟩ ?_ ?_
 refine aany_intro (fun ops hops FIN hFIN S0 hS0 => ?_)
 let v68 : AV := .list (List.length (x7 : List Int)) (Enc.cellsL (x7 : List Int)) .none
 let v71 : AV := .list (List.length (x7 : List Int)) (Enc.cellsL (x7 : List Int)) .none
 let v69 : AV := .iptr (Enc.cells (ix x7 (0 : Int)) ++ Enc.cellsL (List.drop (Int.toNat (0 : Int) + 1) x7))
 let v72 : AV := .iptr (Enc.cells (ix x7 (1 : Int)) ++ Enc.cellsL (List.drop (Int.toNat (1 : Int) + 1) x7))
 let v70 : AV := .raw (.int .i64 (ix x7 (0 : Int)))
 let v73 : AV := .raw (.int .i64 (ix x7 (1 : Int)))
 let v74 : AV := .ptr 1 1
 let v75 : AV := .ptr 1 2
 let G0 : St := ⟨[(67, (Enc.cells ((En.mk 0 0 0 []) : En))), (67, (Enc.cells (j1 : En)))], [], [], 0, false⟩
 let G1 : St := ⟨[(67, (Enc.cells ((En.mk 0 0 0 []) : En))), (67, (Enc.cells ((En.mk j1.k (ix x7 (0 : Int)) j1.to j1.b) : En)))], [], [], 0, false⟩
 let G2 : St := ⟨[(67, (Enc.cells ((En.mk 0 0 0 []) : En))), (67, (Enc.cells ((En.mk ((En.mk j1.k (ix x7 (0 : Int)) j1.to j1.b).k) ((En.mk j1.k (ix x7 (0 : Int)) j1.to j1.b).fr) (ix x7 (1 : Int)) ((En.mk j1.k (ix x7 (0 : Int)) j1.to j1.b).b)) : En)))], [], [], 0, false⟩
 obtain ⟨ps, hps⟩ : ∃ ps : List (Option (Nat × AV)), ps = [some (68, v68), some (69, v69), some (70, v70), some (71, v71), some (72, v72), some (73, v73), some (74, v74), none, some (75, v75), none] := ⟨_, rfl⟩
 let N : Nat → Nat → St → Prop := fun k m σ => aN (ITP Tryz.prog) Tryz.prog none ops FIN S0 ps 10 k m σ
 have n25 : N 0 1023 G2 := by
  exact aN_0 hops hS0 hps (hFIN _ _ (Wk.refl _ _ _))
 have n24 : N 1 511 G1 := by
  refine aN_n hops hS0 hps [9] (all_cons (aopAt_l hops rfl ?_) all_nil)
  refine w_om (σ'' := G2) (h := op_store (n := 1) rfl rfl rfl rfl rfl ⟨rfl, rfl, Nat.le_of_ble_eq_true rfl, by decide⟩) ?_
  exact aN_of n25 hS0 hps
 have n23 : N 2 255 G1 := by
  refine aN_n hops hS0 hps [8] (all_cons (aopAt_l hops rfl ?_) all_nil)
  refine w_o (a := v75) ?_
  exact aN_of n24 hS0 hps
 have n22 : N 3 223 G1 := by
  refine aN_n hops hS0 hps [5] (all_cons (aopAt_l hops rfl ?_) all_nil)
  refine w_o (a := v73) ?_
  exact aN_of n23 hS0 hps
 have n21 : N 3 127 G0 := by
  refine aN_n hops hS0 hps [7] (all_cons (aopAt_l hops rfl ?_) all_nil)
  refine w_om (σ'' := G1) (h := op_store (n := 1) rfl rfl rfl rfl rfl ⟨rfl, rfl, Nat.le_of_ble_eq_true rfl, by decide⟩) ?_
  exact aN_of n23 hS0 hps
 have n20 : N 4 207 G1 := by
  refine aN_n hops hS0 hps [4] (all_cons (aopAt_l hops rfl ?_) all_nil)
  refine w_o (a := v72) (h := op_q (q_idx (α := Int) (l := x7) g6 rfl rfl rfl rfl rfl)) ?_
  exact aN_of n22 hS0 hps
 have n19 : N 4 95 G0 := by
  refine aN_n hops hS0 hps [5, 7] (all_cons (aopAt_l hops rfl ?_) (all_cons (aopAt_l hops rfl ?_) all_nil))
  refine w_o (a := v73) ?_
  exact aN_of n21 hS0 hps
  refine w_om (σ'' := G1) (h := op_store (n := 1) rfl rfl rfl rfl rfl ⟨rfl, rfl, Nat.le_of_ble_eq_true rfl, by decide⟩) ?_
  exact aN_of n22 hS0 hps
 have n18 : N 4 63 G0 := by
  refine aN_n hops hS0 hps [6] (all_cons (aopAt_l hops rfl ?_) all_nil)
  refine w_o (a := v74) ?_
  exact aN_of n21 hS0 hps
 have n17 : N 5 59 G0 := by
  refine aN_n hops hS0 hps [2] (all_cons (aopAt_l hops rfl ?_) all_nil)
  refine w_o (a := v70) ?_
  exact aN_of n18 hS0 hps
 have n16 : N 5 199 G1 := by
  refine aN_n hops hS0 hps [3] (all_cons (aopAt_l hops rfl ?_) all_nil)
  refine w_o (a := v71) ?_
  exact aN_of n20 hS0 hps
 have n15 : N 5 79 G0 := by
  refine aN_n hops hS0 hps [4, 7] (all_cons (aopAt_l hops rfl ?_) (all_cons (aopAt_l hops rfl ?_) all_nil))
  refine w_o (a := v72) (h := op_q (q_idx (α := Int) (l := x7) g6 rfl rfl rfl rfl rfl)) ?_
  exact aN_of n19 hS0 hps
  refine w_om (σ'' := G1) (h := op_store (n := 1) rfl rfl rfl rfl rfl ⟨rfl, rfl, Nat.le_of_ble_eq_true rfl, by decide⟩) ?_
  exact aN_of n20 hS0 hps
 have n14 : N 5 31 G0 := by
  refine aN_n hops hS0 hps [5, 6] (all_cons (aopAt_l hops rfl ?_) (all_cons (aopAt_l hops rfl ?_) all_nil))
  refine w_o (a := v73) ?_
  exact aN_of n18 hS0 hps
  refine w_o (a := v74) ?_
  exact aN_of n19 hS0 hps
 have n13 : N 6 57 G0 := by
  refine aN_n hops hS0 hps [1] (all_cons (aopAt_l hops rfl ?_) all_nil)
  refine w_o (a := v69) (h := op_q (q_idx (α := Int) (l := x7) g5 rfl rfl rfl rfl rfl)) ?_
  exact aN_of n17 hS0 hps
 have n12 : N 6 27 G0 := by
  refine aN_n hops hS0 hps [2, 5] (all_cons (aopAt_l hops rfl ?_) (all_cons (aopAt_l hops rfl ?_) all_nil))
  refine w_o (a := v70) ?_
  exact aN_of n14 hS0 hps
  refine w_o (a := v73) ?_
  exact aN_of n17 hS0 hps
 have n11 : N 6 71 G0 := by
  refine aN_n hops hS0 hps [3, 7] (all_cons (aopAt_l hops rfl ?_) (all_cons (aopAt_l hops rfl ?_) all_nil))
  refine w_o (a := v71) ?_
  exact aN_of n15 hS0 hps
  refine w_om (σ'' := G1) (h := op_store (n := 1) rfl rfl rfl rfl rfl ⟨rfl, rfl, Nat.le_of_ble_eq_true rfl, by decide⟩) ?_
  exact aN_of n16 hS0 hps
 have n10 : N 6 15 G0 := by
  refine aN_n hops hS0 hps [4, 6] (all_cons (aopAt_l hops rfl ?_) (all_cons (aopAt_l hops rfl ?_) all_nil))
  refine w_o (a := v72) (h := op_q (q_idx (α := Int) (l := x7) g6 rfl rfl rfl rfl rfl)) ?_
  exact aN_of n14 hS0 hps
  refine w_o (a := v74) ?_
  exact aN_of n15 hS0 hps
 have n9 : N 7 56 G0 := by
  refine aN_n hops hS0 hps [0] (all_cons (aopAt_l hops rfl ?_) all_nil)
  refine w_o (a := v68) ?_
  exact aN_of n13 hS0 hps
 have n8 : N 7 25 G0 := by
  refine aN_n hops hS0 hps [1, 5] (all_cons (aopAt_l hops rfl ?_) (all_cons (aopAt_l hops rfl ?_) all_nil))
  refine w_o (a := v69) (h := op_q (q_idx (α := Int) (l := x7) g5 rfl rfl rfl rfl rfl)) ?_
  exact aN_of n12 hS0 hps
  refine w_o (a := v73) ?_
  exact aN_of n13 hS0 hps
 have n7 : N 7 11 G0 := by
  refine aN_n hops hS0 hps [2, 4] (all_cons (aopAt_l hops rfl ?_) (all_cons (aopAt_l hops rfl ?_) all_nil))
  refine w_o (a := v70) ?_
  exact aN_of n10 hS0 hps
  refine w_o (a := v72) (h := op_q (q_idx (α := Int) (l := x7) g6 rfl rfl rfl rfl rfl)) ?_
  exact aN_of n12 hS0 hps
 have n6 : N 7 7 G0 := by
  refine aN_n hops hS0 hps [3, 6] (all_cons (aopAt_l hops rfl ?_) (all_cons (aopAt_l hops rfl ?_) all_nil))
  refine w_o (a := v71) ?_
  exact aN_of n10 hS0 hps
  refine w_o (a := v74) ?_
  exact aN_of n11 hS0 hps
 have n5 : N 8 24 G0 := by
  refine aN_n hops hS0 hps [0, 5] (all_cons (aopAt_l hops rfl ?_) (all_cons (aopAt_l hops rfl ?_) all_nil))
  refine w_o (a := v68) ?_
  exact aN_of n8 hS0 hps
  refine w_o (a := v73) ?_
  exact aN_of n9 hS0 hps
 have n4 : N 8 9 G0 := by
  refine aN_n hops hS0 hps [1, 4] (all_cons (aopAt_l hops rfl ?_) (all_cons (aopAt_l hops rfl ?_) all_nil))
  refine w_o (a := v69) (h := op_q (q_idx (α := Int) (l := x7) g5 rfl rfl rfl rfl rfl)) ?_
  exact aN_of n7 hS0 hps
  refine w_o (a := v72) (h := op_q (q_idx (α := Int) (l := x7) g6 rfl rfl rfl rfl rfl)) ?_
  exact aN_of n8 hS0 hps
 have n3 : N 8 3 G0 := by
  refine aN_n hops hS0 hps [2, 3] (all_cons (aopAt_l hops rfl ?_) (all_cons (aopAt_l hops rfl ?_) all_nil))
  refine w_o (a := v70) ?_
  exact aN_of n6 hS0 hps
  refine w_o (a := v71) ?_
  exact aN_of n7 hS0 hps
 have n2 : N 9 8 G0 := by
  refine aN_n hops hS0 hps [0, 4] (all_cons (aopAt_l hops rfl ?_) (all_cons (aopAt_l hops rfl ?_) all_nil))
  refine w_o (a := v68) ?_
  exact aN_of n4 hS0 hps
  refine w_o (a := v72) (h := op_q (q_idx (α := Int) (l := x7) g6 rfl rfl rfl rfl rfl)) ?_
  exact aN_of n5 hS0 hps
 have n1 : N 9 1 G0 := by
  refine aN_n hops hS0 hps [1, 3] (all_cons (aopAt_l hops rfl ?_) (all_cons (aopAt_l hops rfl ?_) all_nil))
  refine w_o (a := v69) (h := op_q (q_idx (α := Int) (l := x7) g5 rfl rfl rfl rfl rfl)) ?_
  exact aN_of n3 hS0 hps
  refine w_o (a := v71) ?_
  exact aN_of n4 hS0 hps
 have n0 : N 10 0 G0 := by
  refine aN_n hops hS0 hps [0, 3] (all_cons (aopAt_l hops rfl ?_) (all_cons (aopAt_l hops rfl ?_) all_nil))
  refine w_o (a := v68) ?_
  exact aN_of n1 hS0 hps
  refine w_o (a := v71) ?_
  exact aN_of n2 hS0 hps
 exact aN_start n0 hps
 obtain ⟨x8, hx8, h⟩ := bindE_e h
 refine w_seqAny (id := 17) [.raw (.string (bs s)), .raw (.int .i64 a), .top, .top, .ptr 0 0, .raw (.bool x8), .ptr 1 0, .top, .top, .top, .list (List.length (x7 : List Int)) (Enc.cellsL (x7 : List Int)) .none, .top, .top, .top, .top, .top, .top, .top, .top, .top, .top, .top, .top, .top, .top, .top, .top, .top, .top, .top, .top, .top, .top, .top, .top, .top, .top, .top, .top, .top, .top, .top, .top, .top, .top, .top, .top, .top, .top, .top, .top, .top, .top, .top, .top, .top, .raw (.string (bs s)), .raw (.string (bs x6)), .list (List.length (x7 : List Int)) (Enc.cellsL (x7 : List Int)) .none, .list (List.length (x7 : List Int)) (Enc.cellsL (x7 : List Int)) .none, .raw (.int .i64 (List.length x7 : Int)), .raw (.bool ((List.length x7 : Int) != 2)), .raw (.bool false), .ptr 1 0, .raw (.int .u8 j1.k), .raw (.bool (j1.k == 0)), .raw (.bool (j1.k == 0)), .top, .list (List.length (x7 : List Int)) (Enc.cellsL (x7 : List Int)) .none, .iptr (Enc.cells (ix x7 (0 : Int)) ++ Enc.cellsL (List.drop (Int.toNat (0 : Int) + 1) x7)), .raw (.int .i64 (ix x7 (0 : Int))), .list (List.length (x7 : List Int)) (Enc.cellsL (x7 : List Int)) .none, .iptr (Enc.cells (ix x7 (1 : Int)) ++ Enc.cellsL (List.drop (Int.toNat (1 : Int) + 1) x7)), .raw (.int .i64 (ix x7 (1 : Int))), .ptr 1 1, .ptr 1 2, .agg (Enc.cells ((En.mk ((En.mk j1.k (ix x7 (0 : Int)) j1.to j1.b).k) ((En.mk j1.k (ix x7 (0 : Int)) j1.to j1.b).fr) (ix x7 (1 : Int)) ((En.mk j1.k (ix x7 (0 : Int)) j1.to j1.b).b)) : En)), .agg (Enc.cells ((En.mk ((En.mk j1.k (ix x7 (0 : Int)) j1.to j1.b).k) ((En.mk j1.k (ix x7 (0 : Int)) j1.to j1.b).fr) (ix x7 (1 : Int)) ((En.mk j1.k (ix x7 (0 : Int)) j1.to j1.b).b)) : En)), .raw (.int .i64 a), .raw (.bool x8)] ⟨[(67, (Enc.cells ((En.mk ((En.mk j1.k (ix x7 (0 : Int)) j1.to j1.b).k) ((En.mk j1.k (ix x7 (0 : Int)) j1.to j1.b).fr) (ix x7 (1 : Int)) ((En.mk j1.k (ix x7 (0 : Int)) j1.to j1.b).b)) : En))), (67, (Enc.cells ((En.mk ((En.mk j1.k (ix x7 (0 : Int)) j1.to j1.b).k) ((En.mk j1.k (ix x7 (0 : Int)) j1.to j1.b).fr) (ix x7 (1 : Int)) ((En.mk j1.k (ix x7 (0 : Int)) j1.to j1.b).b)) : En)))], [], [], 0, false⟩ ?_ ?_
 refine aany_intro (fun ops hops FIN hFIN S0 hS0 => ?_)
 let v76 : AV := .agg (Enc.cells ((En.mk ((En.mk j1.k (ix x7 (0 : Int)) j1.to j1.b).k) ((En.mk j1.k (ix x7 (0 : Int)) j1.to j1.b).fr) (ix x7 (1 : Int)) ((En.mk j1.k (ix x7 (0 : Int)) j1.to j1.b).b)) : En))
 let v77 : AV := .agg (Enc.cells ((En.mk ((En.mk j1.k (ix x7 (0 : Int)) j1.to j1.b).k) ((En.mk j1.k (ix x7 (0 : Int)) j1.to j1.b).fr) (ix x7 (1 : Int)) ((En.mk j1.k (ix x7 (0 : Int)) j1.to j1.b).b)) : En))
 let v78 : AV := .raw (.int .i64 a)
 let v79 : AV := .raw (.bool x8)
 let v5 : AV := .raw (.bool x8)
 let G0 : St := ⟨[(67, (Enc.cells ((En.mk 0 0 0 []) : En))), (67, (Enc.cells ((En.mk ((En.mk j1.k (ix x7 (0 : Int)) j1.to j1.b).k) ((En.mk j1.k (ix x7 (0 : Int)) j1.to j1.b).fr) (ix x7 (1 : Int)) ((En.mk j1.k (ix x7 (0 : Int)) j1.to j1.b).b)) : En)))], [], [], 0, false⟩
 let G1 : St := ⟨[(67, (Enc.cells ((En.mk ((En.mk j1.k (ix x7 (0 : Int)) j1.to j1.b).k) ((En.mk j1.k (ix x7 (0 : Int)) j1.to j1.b).fr) (ix x7 (1 : Int)) ((En.mk j1.k (ix x7 (0 : Int)) j1.to j1.b).b)) : En))), (67, (Enc.cells ((En.mk ((En.mk j1.k (ix x7 (0 : Int)) j1.to j1.b).k) ((En.mk j1.k (ix x7 (0 : Int)) j1.to j1.b).fr) (ix x7 (1 : Int)) ((En.mk j1.k (ix x7 (0 : Int)) j1.to j1.b).b)) : En)))], [], [], 0, false⟩
 obtain ⟨ps, hps⟩ : ∃ ps : List (Option (Nat × AV)), ps = [some (76, v76), some (77, v77), some (78, v78), some (79, v79), none, some (5, v5)] := ⟨_, rfl⟩
 let N : Nat → Nat → St → Prop := fun k m σ => aN (ITP Tryz.prog) Tryz.prog none ops FIN S0 ps 6 k m σ
 have n11 : N 0 63 G1 := by
  exact aN_0 hops hS0 hps (hFIN _ _ (Wk.refl _ _ _))
 have n10 : N 1 31 G1 := by
  refine aN_n hops hS0 hps [5] (all_cons (aopAt_l hops rfl ?_) all_nil)
  refine w_o (a := v5) ?_
  exact aN_of n11 hS0 hps
 have n9 : N 2 15 G0 := by
  refine aN_n hops hS0 hps [4] (all_cons (aopAt_l hops rfl ?_) all_nil)
  refine w_om (σ'' := G1) (h := op_storeW (n := 4) rfl rfl rfl rfl rfl rfl rfl rfl (by decide)) ?_
  exact aN_of n10 hS0 hps
 have n8 : N 3 14 G0 := by
  refine aN_n hops hS0 hps [0] (all_cons (aopAt_l hops rfl ?_) all_nil)
  refine w_o (a := v76) ?_
  exact aN_of n9 hS0 hps
 have n7 : N 3 7 G0 := by
  refine aN_n hops hS0 hps [3] (all_cons (aopAt_l hops rfl ?_) all_nil)
  refine w_callc (args' := [.agg (Enc.cells ((En.mk ((En.mk j1.k (ix x7 (0 : Int)) j1.to j1.b).k) ((En.mk j1.k (ix x7 (0 : Int)) j1.to j1.b).fr) (ix x7 (1 : Int)) ((En.mk j1.k (ix x7 (0 : Int)) j1.to j1.b).b)) : En)), .raw (.int .i64 a)]) (r := v79) (rright_sh (En.mk ((En.mk j1.k (ix x7 (0 : Int)) j1.to j1.b).k) ((En.mk j1.k (ix x7 (0 : Int)) j1.to j1.b).fr) (ix x7 (1 : Int)) ((En.mk j1.k (ix x7 (0 : Int)) j1.to j1.b).b)) a x8 hx8) rfl rfl (stripL_cons (strip_c (clo_agg (Enc.clo _))) (stripL_cons rfl rfl)) (okTrimL_cons (okTrim_clo _ _ (clo_agg (Enc.clo _))) (by kernel_rfl)) (by dsimp only [aput, List.set]) ?_
  exact aN_of n9 hS0 hps
 have n6 : N 4 6 G0 := by
  refine aN_n hops hS0 hps [0, 3] (all_cons (aopAt_l hops rfl ?_) (all_cons (aopAt_l hops rfl ?_) all_nil))
  refine w_o (a := v76) ?_
  exact aN_of n7 hS0 hps
  refine w_callc (args' := [.agg (Enc.cells ((En.mk ((En.mk j1.k (ix x7 (0 : Int)) j1.to j1.b).k) ((En.mk j1.k (ix x7 (0 : Int)) j1.to j1.b).fr) (ix x7 (1 : Int)) ((En.mk j1.k (ix x7 (0 : Int)) j1.to j1.b).b)) : En)), .raw (.int .i64 a)]) (r := v79) (rright_sh (En.mk ((En.mk j1.k (ix x7 (0 : Int)) j1.to j1.b).k) ((En.mk j1.k (ix x7 (0 : Int)) j1.to j1.b).fr) (ix x7 (1 : Int)) ((En.mk j1.k (ix x7 (0 : Int)) j1.to j1.b).b)) a x8 hx8) rfl rfl (stripL_cons (strip_c (clo_agg (Enc.clo _))) (stripL_cons rfl rfl)) (okTrimL_cons (okTrim_clo _ _ (clo_agg (Enc.clo _))) (by kernel_rfl)) (by dsimp only [aput, List.set]) ?_
  exact aN_of n8 hS0 hps
 have n5 : N 4 5 G0 := by
  refine aN_n hops hS0 hps [1] (all_cons (aopAt_l hops rfl ?_) all_nil)
  refine w_o (a := v77) ?_
  exact aN_of n7 hS0 hps
 have n4 : N 4 3 G0 := by
  refine aN_n hops hS0 hps [2] (all_cons (aopAt_l hops rfl ?_) all_nil)
  refine w_o (a := v78) ?_
  exact aN_of n7 hS0 hps
 have n3 : N 5 4 G0 := by
  refine aN_n hops hS0 hps [0, 1] (all_cons (aopAt_l hops rfl ?_) (all_cons (aopAt_l hops rfl ?_) all_nil))
  refine w_o (a := v76) ?_
  exact aN_of n5 hS0 hps
  refine w_o (a := v77) ?_
  exact aN_of n6 hS0 hps
 have n2 : N 5 2 G0 := by
  refine aN_n hops hS0 hps [0, 2] (all_cons (aopAt_l hops rfl ?_) (all_cons (aopAt_l hops rfl ?_) all_nil))
  refine w_o (a := v76) ?_
  exact aN_of n4 hS0 hps
  refine w_o (a := v78) ?_
  exact aN_of n6 hS0 hps
 have n1 : N 5 1 G0 := by
  refine aN_n hops hS0 hps [1, 2] (all_cons (aopAt_l hops rfl ?_) (all_cons (aopAt_l hops rfl ?_) all_nil))
  refine w_o (a := v77) ?_
  exact aN_of n4 hS0 hps
  refine w_o (a := v78) ?_
  exact aN_of n5 hS0 hps
 have n0 : N 6 0 G0 := by
  refine aN_n hops hS0 hps [0, 1, 2] (all_cons (aopAt_l hops rfl ?_) (all_cons (aopAt_l hops rfl ?_) (all_cons (aopAt_l hops rfl ?_) all_nil)))
  refine w_o (a := v76) ?_
  exact aN_of n1 hS0 hps
  refine w_o (a := v77) ?_
  exact aN_of n2 hS0 hps
  refine w_o (a := v78) ?_
  exact aN_of n3 hS0 hps
 exact aN_start n0 hps
 exact end_pureF (fun (r : (En × Bool)) => (.tup [.agg (Enc.cells (r.1 : En)), .raw (.bool r.2)] : AV)) h (a := .tup [.agg (Enc.cells ((En.mk ((En.mk j1.k (ix x7 (0 : Int)) j1.to j1.b).k) ((En.mk j1.k (ix x7 (0 : Int)) j1.to j1.b).fr) (ix x7 (1 : Int)) ((En.mk j1.k (ix x7 (0 : Int)) j1.to j1.b).b)) : En)), .raw (.bool x8)]) rfl (show okTrimL _ _ = true from (okTrimL_cons (okTrim_clo _ _ (clo_agg (Enc.clo _))) (by kernel_rfl))) (show AV.tup (stripL _) = _ from congrArg AV.tup (stripL_cons (strip_c (clo_agg (Enc.clo _))) (stripL_cons rfl rfl)))
def F_rread (fuel : Nat) (s : (List UInt8)) : Option (Trc × Int × Int) :=
  (bif (decide ((List.length s : Int) > 1048576)) then (some ((Trc.mk [] (Ed.mk 0 0)), 0, 3)) else (cutE (τ := Int × Trc) (loopE (β := Int × Int × Int × Trc) (fun s1 => (bif (decide (s1.2.2.1 < (List.length s : Int))) then (cutE (τ := Int × Int × Trc) (chk (0 ≤ s1.2.2.1 ∧ s1.2.2.1 < (List.length s : Int)) (letE (ix s s1.2.2.1) (fun x1 => (bif ((((x1).toNat : Nat) : Int) != 10) then (some (Sum.inl (s1.1, s1.2.1, (Trc.mk s1.2.2.2.l (Ed.mk s1.2.2.2.e.k s1.2.2.2.e.c))))) else (chk (0 ≤ s1.2.1 ∧ s1.2.1 ≤ s1.2.2.1 ∧ s1.2.2.1 ≤ (List.length s : Int)) (letE (sub s s1.2.1 s1.2.2.1) (fun x2 => (chk (-9223372036854775808 ≤ (s1.2.2.1 + 1) ∧ (s1.2.2.1 + 1) < 9223372036854775808) (bindE (F_rend fuel x2) (fun x3 => (bif x3.2 then (bif (decide ((s1.2.2.1 + 1) < (List.length s : Int))) then (chk (-9223372036854775808 ≤ (s1.1 + 1) ∧ (s1.1 + 1) < 9223372036854775808) (some (Sum.inr (Sum.inr (Sum.inr ((Trc.mk [] (Ed.mk 0 0)), (s1.1 + 1), 332)))))) else (some (Sum.inr (Sum.inr (Sum.inr ((Trc.mk s1.2.2.2.l (Ed.mk x3.1.k x3.1.c)), 0, 0)))))) else (bindE (F_rat fuel s1.2.2.2.l) (fun x4 => (bindE (F_rentry fuel x2 x4) (fun x5 => (bif (!x5.2) then (some (Sum.inr (Sum.inr (Sum.inr ((Trc.mk [] (Ed.mk 0 0)), s1.1, 332))))) else (bif (decide ((List.length s1.2.2.2.l : Int) ≥ 65536)) then (some (Sum.inr (Sum.inr (Sum.inr ((Trc.mk [] (Ed.mk 0 0)), s1.1, 332))))) else (chk ((List.length s1.2.2.2.l + List.length [x5.1]) * 40 ≤ 140737488355328) (chk (-9223372036854775808 ≤ (s1.1 + 1) ∧ (s1.1 + 1) < 9223372036854775808) (some (Sum.inl ((s1.1 + 1), (s1.2.2.1 + 1), (Trc.mk (s1.2.2.2.l ++ [x5.1]) (Ed.mk s1.2.2.2.e.k s1.2.2.2.e.c)))))))))))))))))))))))) (fun j2 => (chk (-9223372036854775808 ≤ (s1.2.2.1 + 1) ∧ (s1.2.2.1 + 1) < 9223372036854775808) (some (Sum.inl (j2.1, j2.2.1, (s1.2.2.1 + 1), (Trc.mk j2.2.2.l (Ed.mk j2.2.2.e.k j2.2.2.e.c)))))))) else (some (Sum.inr (Sum.inl (s1.1, (Trc.mk s1.2.2.2.l (Ed.mk s1.2.2.2.e.k s1.2.2.2.e.c)))))))) fuel (1, 0, 0, (Trc.mk ([] : List En) (Ed.mk 0 0)))) (fun j1 => (some ((Trc.mk [] (Ed.mk 0 0)), j1.1, 332)))))
theorem ent8 : Ent Tryz.prog 8 := enters_of Tryz.func8 (by kernel_rfl) rfl
set_option maxRecDepth 100000 in
set_option maxHeartbeats 4000000 in
theorem rread_sh (fuel : Nat) (s : (List UInt8)) (r : (Trc × Int × Int)) (h : F_rread fuel s = some r) : Pure (ITP Tryz.prog) Tryz.prog 8 [.raw (.string (bs s))] (.tup [.agg (Enc.cells (r.1 : Trc)), .raw (.int .i64 r.2.1), .raw (.int .i64 r.2.2)]) := by
 obtain ⟨d, hd⟩ : ∃ d, Tryz.f8.body = some d := ⟨_, rfl⟩
 refine pure_of mix Tryz.func8 hd ent8 ?_
 cases hd
 unfold F_rread at h
 refine w_start (by dsimp only [abeginS, Tryz.f8, List.length_cons, List.length_nil, Nat.zero_add, Nat.reduceAdd, Nat.reduceSub, List.replicate, List.cons_append, List.nil_append]) (by dsimp only [St.empty]) ?_
 refine w_seq (w_region ?_)
 refine w_om (a := .ptr 0 0) (σ'' := ⟨[(34, [.list 0 [] .full, .raw (.int .u8 0), .raw (.int .i64 0)])], [], [], 0, false⟩) ?_
 refine w_o (a := .raw (.int .i64 0)) ?_
 refine w_o (a := .raw (.int .i64 0)) ?_
 refine w_seq ?_
 refine w_seq (w_region ?_)
 refine w_o (a := .raw (.string (bs s))) ?_
 refine w_o (a := .raw (.int .i64 (List.length s : Int))) (h := op_q (q_lenS rfl rfl rfl)) ?_
 refine w_o (a := .raw (.bool (decide ((List.length s : Int) > 1048576)))) ?_
 refine bif_e h (fun hc1 h => ?_) (fun hc1 h => ?_)
 refine w_condT hc1 rfl ?_
 refine w_seq (w_region ?_)
 refine w_qs (.agg (Enc.cells ((Trc.mk [] (Ed.mk 0 0)) : Trc))) (a0 := (trcR (Trc.mk [] (Ed.mk 0 0)) .full)) rfl rfl rfl (by kernel_rfl) (strip_trcR _ _) (by dsimp only [aput, List.set]) ?_
 refine w_om (σ'' := ⟨[(34, (Enc.cells ((Trc.mk [] (Ed.mk 0 0)) : Trc)))], [], [], 0, false⟩) (h := op_storeW (n := 3) rfl rfl rfl rfl rfl rfl rfl rfl (by decide)) ?_
 refine w_o (a := .raw (.int .i64 0)) ?_
 refine w_o (a := .raw (.int .i64 3)) ?_
 exact end_pureF (fun (r : (Trc × Int × Int)) => (.tup [.agg (Enc.cells (r.1 : Trc)), .raw (.int .i64 r.2.1), .raw (.int .i64 r.2.2)] : AV)) h (a := .tup [.agg (Enc.cells ((Trc.mk [] (Ed.mk 0 0)) : Trc)), .raw (.int .i64 0), .raw (.int .i64 3)]) rfl (show okTrimL _ _ = true from (okTrimL_cons (okTrim_clo _ _ (clo_agg (Enc.clo _))) (by kernel_rfl))) (show AV.tup (stripL _) = _ from congrArg AV.tup (stripL_cons (strip_c (clo_agg (Enc.clo _))) (stripL_cons rfl (stripL_cons rfl rfl))))
 refine w_condF hc1 rfl ?_
 refine w_seq (w_region ?_)
 refine w_om (a := .ptr 1 0) (σ'' := ⟨[(34, [.list 0 [] .full, .raw (.int .u8 0), .raw (.int .i64 0)]), (34, [.list (List.length (([] : List En) : List En)) (Enc.cellsL (([] : List En) : List En)) .full, .raw (.int .u8 0), .raw (.int .i64 0)])], [], [], 0, false⟩) ?_
 refine w_seq (w_region ?_)
 refine w_o (a := .raw (.int .i64 1)) ?_
 refine w_o (a := .raw (.int .i64 0)) ?_
 refine w_cutF h [0, 1, 3, 4, 5, 6, 7, 8, 9, 10, 11, 12, 13, 14, 15, 16, 17, 18, 19, 20, 21, 22, 23, 24, 25, 26, 27, 28, 29, 30, 31, 32, 33, 34, 35, 36, 37, 38, 39, 40, 41, 42, 43, 44, 45, 46, 47, 48, 49, 50, 51, 52, 53, 54, 55, 56, 57, 58, 59, 60, 61, 62, 63, 64, 65, 66, 67, 68, 69, 70, 71, 72, 73, 74, 75, 76, 77] (fun j1 => [(6, .raw (.int .i64 j1.1))]) (fun j1 => (ownSt [(34, [.list 0 [] .full, .raw (.int .u8 0), .raw (.int .i64 0)]), (34, [(ownAV (List.length (j1.2.l : List En)) (Enc.cellsL (j1.2.l : List En))), .raw (.int .u8 j1.2.e.k), .raw (.int .i64 j1.2.e.c)])] 67 (List.length (j1.2.l : List En)) 4)) ?_ ?_
 intro or1 h hr1
 refine w_seq (w_region ?_)
 refine w_o (a := .raw (.int .i64 0)) ?_
 refine w_block ?_
 refine w_loopF h [1, 3, 4, 6, 7, 8, 9, 10, 11, 12, 13, 14, 15, 16, 17, 18, 19, 20, 21, 22, 23, 24, 25, 26, 27, 28, 29, 30, 31, 32, 33, 34, 35, 36, 37, 38, 39, 40, 41, 42, 43, 44, 45, 46, 47, 48, 49, 50, 51, 52, 53, 54, 55, 56, 57, 58, 59, 60, 61, 62, 63, 64, 65, 66, 67, 68, 69, 70, 71, 72, 73, 74, 75, 76, 77] (fun s1 => [(6, .raw (.int .i64 s1.1)), (7, .raw (.int .i64 s1.2.1)), (8, .raw (.int .i64 s1.2.2.1))]) (fun s1 => (ownSt [(34, [.list 0 [] .full, .raw (.int .u8 0), .raw (.int .i64 0)]), (34, [(ownAV (List.length (s1.2.2.2.l : List En)) (Enc.cellsL (s1.2.2.2.l : List En))), .raw (.int .u8 s1.2.2.2.e.k), .raw (.int .i64 s1.2.2.2.e.c)])] 67 (List.length (s1.2.2.2.l : List En)) 4)) ?_ ?_
 exact wm_of (bl 78 485) (by kernel_rfl) (by kernel_rfl)
 intro s1 p1 h
 refine w_start (by dsimp only [setAll, topAll, List.foldl, List.set]) rfl ?_
 refine w_seq ?_
 refine w_seq (w_region ?_)
 refine w_o (a := .raw (.int .i64 s1.2.2.1)) ?_
 refine w_o (a := .raw (.string (bs s))) ?_
 refine w_o (a := .raw (.int .i64 (List.length s : Int))) (h := op_q (q_lenS rfl rfl rfl)) ?_
 refine w_o (a := .raw (.bool (decide (s1.2.2.1 < (List.length s : Int))))) ?_
 refine bif_e h (fun hc2 h => ?_) (fun hc2 h => ?_)
 refine w_condT hc2 rfl ?_
 refine w_cutF h [3, 4, 6, 7, 9, 10, 11, 12, 13, 18, 19, 20, 21, 24, 25, 26, 27, 28, 29, 30, 31, 32, 33, 34, 35, 36, 37, 38, 39, 40, 41, 42, 43, 44, 45, 46, 47, 48, 49, 50, 51, 52, 53, 54, 55, 56, 57, 58, 59, 60, 61, 62, 63, 64, 65, 66, 67, 68, 69, 70, 71, 72, 73, 74, 75] (fun j2 => [(6, .raw (.int .i64 j2.1)), (7, .raw (.int .i64 j2.2.1))]) (fun j2 => (ownSt [(34, [.list 0 [] .full, .raw (.int .u8 0), .raw (.int .i64 0)]), (34, [(ownAV (List.length (j2.2.2.l : List En)) (Enc.cellsL (j2.2.2.l : List En))), .raw (.int .u8 j2.2.2.e.k), .raw (.int .i64 j2.2.2.e.c)])] 67 (List.length (j2.2.2.l : List En)) 4)) ?_ ?_
 intro or2 h hr2
 refine w_block ?_
 refine w_seq ?_
 refine w_seq (w_region ?_)
 refine w_o (a := .raw (.string (bs s))) ?_
 refine w_o (a := .raw (.int .i64 s1.2.2.1)) ?_
 obtain ⟨g1, h⟩ := chk_e h
 obtain ⟨x1, hx1, h⟩ := letE_e h
 refine w_o (a := .raw (.int .u8 (((x1).toNat : Nat) : Int))) (h := op_q (by rw [← hx1]; exact (q_sidx (l := s) (n := s1.2.2.1) g1 rfl rfl rfl rfl))) ?_
 refine w_o (a := .raw (.bool ((((x1).toNat : Nat) : Int) != 10))) ?_
 refine bif_e h (fun hc3 h => ?_) (fun hc3 h => ?_)
 refine w_condT hc3 rfl ?_
 refine cut_done (o := or2) (s1.1, s1.2.1, (Trc.mk s1.2.2.2.l (Ed.mk s1.2.2.2.e.k s1.2.2.2.e.c))) h ?_
 exact wm_of (bl 78 226673591177742983086567) (by kernel_rfl) (by kernel_rfl)
 refine w_condF hc3 rfl ?_
 refine w_seq (w_region ?_)
 refine w_o (a := .raw (.string (bs s))) ?_
 refine w_o (a := .raw (.int .i64 s1.2.1)) ?_
 refine w_o (a := .raw (.int .i64 s1.2.2.1)) ?_
 obtain ⟨g2, h⟩ := chk_e h
 obtain ⟨x2, hx2, h⟩ := letE_e h
 refine w_o (a := .raw (.string (bs x2))) (h := op_q (by rw [← hx2]; exact (q_sslLH (l := s) g2 rfl rfl rfl rfl rfl))) ?_
 refine w_o (a := .raw (.string (bs x2))) ?_
 refine w_seq (w_region ?_)
 refine w_o (a := .raw (.int .i64 s1.2.2.1)) ?_
 obtain ⟨g3, h⟩ := chk_e h
 refine w_o (a := .raw (.int .i64 (s1.2.2.1 + 1))) (h := op_q (q_add rfl rfl rfl rfl g3.1 g3.2)) ?_
 refine w_o (a := .raw (.int .i64 (s1.2.2.1 + 1))) ?_
 refine w_seq ?_
 refine w_seq (w_region ?_)
 refine w_o (a := .raw (.string (bs x2))) ?_
 obtain ⟨x3, hx3, h⟩ := bindE_e h
 refine w_callc (args' := [.raw (.string (bs x2))]) (r := .tup [.agg (Enc.cells (x3.1 : Ed)), .raw (.bool x3.2)]) (rend_sh fuel x2 x3 hx3) rfl rfl (stripL_cons rfl rfl) (by kernel_rfl) (by dsimp only [aput, List.set]) ?_
 refine w_o (a := .tup [.agg (Enc.cells (x3.1 : Ed)), .raw (.bool x3.2)]) ?_
 refine w_o (a := .agg (Enc.cells (x3.1 : Ed))) ?_
 refine w_o (a := .raw (.bool x3.2)) ?_
 refine w_om (a := .ptr 2 0) (σ'' := (ownSt [(34, [.list 0 [] .full, .raw (.int .u8 0), .raw (.int .i64 0)]), (34, [(ownAV (List.length (s1.2.2.2.l : List En)) (Enc.cellsL (s1.2.2.2.l : List En))), .raw (.int .u8 s1.2.2.2.e.k), .raw (.int .i64 s1.2.2.2.e.c)]), (32, (Enc.cells ((Ed.mk 0 0) : Ed)))] 67 (List.length (s1.2.2.2.l : List En)) 4)) ?_
 refine w_om (σ'' := (ownSt [(34, [.list 0 [] .full, .raw (.int .u8 0), .raw (.int .i64 0)]), (34, [(ownAV (List.length (s1.2.2.2.l : List En)) (Enc.cellsL (s1.2.2.2.l : List En))), .raw (.int .u8 s1.2.2.2.e.k), .raw (.int .i64 s1.2.2.2.e.c)]), (32, (Enc.cells (x3.1 : Ed)))] 67 (List.length (s1.2.2.2.l : List En)) 4)) (h := op_storeW (n := 2) rfl rfl rfl rfl rfl rfl rfl rfl (by decide)) ?_
 refine w_o (a := .raw (.bool x3.2)) ?_
 refine w_seq (w_region ?_)
 refine w_o (a := .raw (.bool x3.2)) ?_
 refine bif_e h (fun hc4 h => ?_) (fun hc4 h => ?_)
 refine w_condT hc4 rfl ?_
 refine w_seq ?_
 refine w_seq (w_region ?_)
 refine w_o (a := .raw (.int .i64 (s1.2.2.1 + 1))) ?_
 refine w_o (a := .raw (.string (bs s))) ?_
 refine w_o (a := .raw (.int .i64 (List.length s : Int))) (h := op_q (q_lenS rfl rfl rfl)) ?_
 refine w_o (a := .raw (.bool (decide ((s1.2.2.1 + 1) < (List.length s : Int))))) ?_
 refine bif_e h (fun hc5 h => ?_) (fun hc5 h => ?_)
 refine w_condT hc5 rfl ?_
 refine w_seq (w_region ?_)
 refine w_qs (.agg (Enc.cells ((Trc.mk [] (Ed.mk 0 0)) : Trc))) (a0 := (trcR (Trc.mk [] (Ed.mk 0 0)) .full)) rfl rfl rfl (by kernel_rfl) (strip_trcR _ _) (by dsimp only [aput, List.set]) ?_
 refine w_o (a := .raw (.int .i64 s1.1)) ?_
 obtain ⟨g4, h⟩ := chk_e h
 refine w_o (a := .raw (.int .i64 (s1.1 + 1))) (h := op_q (q_add rfl rfl rfl rfl g4.1 g4.2)) ?_
 refine w_om (σ'' := (ownSt [(34, (Enc.cells ((Trc.mk [] (Ed.mk 0 0)) : Trc))), (34, [(ownAV (List.length (s1.2.2.2.l : List En)) (Enc.cellsL (s1.2.2.2.l : List En))), .raw (.int .u8 s1.2.2.2.e.k), .raw (.int .i64 s1.2.2.2.e.c)]), (32, (Enc.cells (x3.1 : Ed)))] 67 (List.length (s1.2.2.2.l : List En)) 4)) (h := op_storeW (n := 3) rfl rfl rfl rfl rfl rfl rfl rfl (by decide)) ?_
 refine w_o (a := .raw (.int .i64 (s1.1 + 1))) ?_
 refine w_o (a := .raw (.int .i64 332)) ?_
 replace h := cut_inr h hr2
 refine loop_exit h (fun h => ?_)
 replace h := cut_inr h hr1
 exact end_pureF (fun (r : (Trc × Int × Int)) => (.tup [.agg (Enc.cells (r.1 : Trc)), .raw (.int .i64 r.2.1), .raw (.int .i64 r.2.2)] : AV)) h (a := .tup [.agg (Enc.cells ((Trc.mk [] (Ed.mk 0 0)) : Trc)), .raw (.int .i64 (s1.1 + 1)), .raw (.int .i64 332)]) rfl (show okTrimL _ _ = true from (okTrimL_cons (okTrim_clo _ _ (clo_agg (Enc.clo _))) (by kernel_rfl))) (show AV.tup (stripL _) = _ from congrArg AV.tup (stripL_cons (strip_c (clo_agg (Enc.clo _))) (stripL_cons rfl (stripL_cons rfl rfl))))
 refine w_condF hc5 rfl ?_
 refine w_seq (w_region ?_)
 refine w_o (a := .agg (Enc.cells (x3.1 : Ed))) ?_
 refine w_o (a := .ptr 1 1) ?_
 refine w_om (σ'' := (ownSt [(34, [.list 0 [] .full, .raw (.int .u8 0), .raw (.int .i64 0)]), (34, [(ownAV (List.length (s1.2.2.2.l : List En)) (Enc.cellsL (s1.2.2.2.l : List En))), .raw (.int .u8 x3.1.k), .raw (.int .i64 x3.1.c)]), (32, (Enc.cells (x3.1 : Ed)))] 67 (List.length (s1.2.2.2.l : List En)) 4)) (h := op_store (n := 2) rfl rfl rfl rfl rfl ⟨rfl, rfl, Nat.le_of_ble_eq_true rfl, by decide⟩) ?_
 refine w_seq (w_region ?_)
 refine w_o (a := .agg [(ownAV (List.length (s1.2.2.2.l : List En)) (Enc.cellsL (s1.2.2.2.l : List En))), .raw (.int .u8 x3.1.k), .raw (.int .i64 x3.1.c)]) ?_
 refine w_om (σ'' := (ownSt [(34, [(ownAV (List.length (s1.2.2.2.l : List En)) (Enc.cellsL (s1.2.2.2.l : List En))), .raw (.int .u8 x3.1.k), .raw (.int .i64 x3.1.c)]), (34, [(ownAV (List.length (s1.2.2.2.l : List En)) (Enc.cellsL (s1.2.2.2.l : List En))), .raw (.int .u8 x3.1.k), .raw (.int .i64 x3.1.c)]), (32, (Enc.cells (x3.1 : Ed)))] 67 (List.length (s1.2.2.2.l : List En)) 4)) (h := op_storeW (n := 3) rfl rfl rfl rfl rfl rfl rfl rfl (by decide)) ?_
 refine w_o (a := .raw (.int .i64 0)) ?_
 refine w_o (a := .raw (.int .i64 0)) ?_
 replace h := cut_inr h hr2
 refine loop_exit h (fun h => ?_)
 replace h := cut_inr h hr1
 exact end_pureF (fun (r : (Trc × Int × Int)) => (.tup [.agg (Enc.cells (r.1 : Trc)), .raw (.int .i64 r.2.1), .raw (.int .i64 r.2.2)] : AV)) h (a := .tup [.agg [(ownAV (List.length (s1.2.2.2.l : List En)) (Enc.cellsL (s1.2.2.2.l : List En))), .raw (.int .u8 x3.1.k), .raw (.int .i64 x3.1.c)], .raw (.int .i64 0), .raw (.int .i64 0)]) rfl (show okTrimL _ _ = true from (okTrimL_cons (show okTrimL _ _ = true from (okTrimL_cons (okTrim_own (Enc.cloL _)) (by kernel_rfl))) (by kernel_rfl))) (show AV.tup (stripL _) = _ from congrArg AV.tup (stripL_cons (show AV.agg (stripL _) = _ from congrArg AV.agg (stripL_cons (strip_o (Enc.cloL _) Enc.z) (stripL_cons rfl (stripL_cons rfl rfl)))) (stripL_cons rfl (stripL_cons rfl rfl))))
 refine w_condF hc4 rfl ?_
 refine w_seq (w_region ?_)
 refine w_o (a := .raw (.string (bs x2))) ?_
 refine w_o (a := .ptr 1 0) ?_
 refine w_o (a := (ownAV (List.length (s1.2.2.2.l : List En)) (Enc.cellsL (s1.2.2.2.l : List En)))) ?_
 obtain ⟨x4, hx4, h⟩ := bindE_e h
 refine w_callc (args' := [.list (List.length (s1.2.2.2.l : List En)) (Enc.cellsL (s1.2.2.2.l : List En)) .none]) (r := .raw (.int .i64 x4)) (rat_sh fuel s1.2.2.2.l x4 hx4) rfl rfl (stripL_cons (strip_o (Enc.cloL _) Enc.z) rfl) (okTrimL_cons (okTrim_own (Enc.cloL _)) rfl) (by dsimp only [aput, List.set]) ?_
 obtain ⟨x5, hx5, h⟩ := bindE_e h
 refine w_callc (args' := [.raw (.string (bs x2)), .raw (.int .i64 x4)]) (r := .tup [.agg (Enc.cells (x5.1 : En)), .raw (.bool x5.2)]) (rentry_sh fuel x2 x4 x5 hx5) rfl rfl (stripL_cons rfl (stripL_cons rfl rfl)) (by kernel_rfl) (by dsimp only [aput, List.set]) ?_
 refine w_o (a := .tup [.agg (Enc.cells (x5.1 : En)), .raw (.bool x5.2)]) ?_
 refine w_o (a := .agg (Enc.cells (x5.1 : En))) ?_
 refine w_o (a := .raw (.bool x5.2)) ?_
 refine w_om (a := .ptr 3 0) (σ'' := (ownSt [(34, [.list 0 [] .full, .raw (.int .u8 0), .raw (.int .i64 0)]), (34, [(ownAV (List.length (s1.2.2.2.l : List En)) (Enc.cellsL (s1.2.2.2.l : List En))), .raw (.int .u8 s1.2.2.2.e.k), .raw (.int .i64 s1.2.2.2.e.c)]), (32, (Enc.cells (x3.1 : Ed))), (67, (Enc.cells ((En.mk 0 0 0 []) : En)))] 67 (List.length (s1.2.2.2.l : List En)) 4)) ?_
 refine w_om (σ'' := (ownSt [(34, [.list 0 [] .full, .raw (.int .u8 0), .raw (.int .i64 0)]), (34, [(ownAV (List.length (s1.2.2.2.l : List En)) (Enc.cellsL (s1.2.2.2.l : List En))), .raw (.int .u8 s1.2.2.2.e.k), .raw (.int .i64 s1.2.2.2.e.c)]), (32, (Enc.cells (x3.1 : Ed))), (67, (Enc.cells (x5.1 : En)))] 67 (List.length (s1.2.2.2.l : List En)) 4)) (h := op_storeW (n := 4) rfl rfl rfl rfl rfl rfl rfl rfl (by decide)) ?_
 refine w_o (a := .raw (.bool x5.2)) ?_
 refine w_seq ?_
 refine w_seq (w_region ?_)
 refine w_o (a := .raw (.bool x5.2)) ?_
 refine w_o (a := .raw (.bool (!x5.2))) ?_
 refine bif_e h (fun hc6 h => ?_) (fun hc6 h => ?_)
 refine w_o (a := .raw (.bool true)) (h := op_q (q_bool rfl hc6)) ?_
 refine w_po ?_
 refine w_po ?_
 refine w_po ?_
 refine w_po ?_
 refine w_o (a := .raw (.bool true)) ?_
 refine w_true rfl ?_
 refine w_seq (w_region ?_)
 refine w_qs (.agg (Enc.cells ((Trc.mk [] (Ed.mk 0 0)) : Trc))) (a0 := (trcR (Trc.mk [] (Ed.mk 0 0)) .full)) rfl rfl rfl (by kernel_rfl) (strip_trcR _ _) (by dsimp only [aput, List.set]) ?_
 refine w_o (a := .raw (.int .i64 s1.1)) ?_
 refine w_om (σ'' := (ownSt [(34, (Enc.cells ((Trc.mk [] (Ed.mk 0 0)) : Trc))), (34, [(ownAV (List.length (s1.2.2.2.l : List En)) (Enc.cellsL (s1.2.2.2.l : List En))), .raw (.int .u8 s1.2.2.2.e.k), .raw (.int .i64 s1.2.2.2.e.c)]), (32, (Enc.cells (x3.1 : Ed))), (67, (Enc.cells (x5.1 : En)))] 67 (List.length (s1.2.2.2.l : List En)) 4)) (h := op_storeW (n := 3) rfl rfl rfl rfl rfl rfl rfl rfl (by decide)) ?_
 refine w_o (a := .raw (.int .i64 s1.1)) ?_
 refine w_o (a := .raw (.int .i64 332)) ?_
 replace h := cut_inr h hr2
 refine loop_exit h (fun h => ?_)
 replace h := cut_inr h hr1
 exact end_pureF (fun (r : (Trc × Int × Int)) => (.tup [.agg (Enc.cells (r.1 : Trc)), .raw (.int .i64 r.2.1), .raw (.int .i64 r.2.2)] : AV)) h (a := .tup [.agg (Enc.cells ((Trc.mk [] (Ed.mk 0 0)) : Trc)), .raw (.int .i64 s1.1), .raw (.int .i64 332)]) rfl (show okTrimL _ _ = true from (okTrimL_cons (okTrim_clo _ _ (clo_agg (Enc.clo _))) (by kernel_rfl))) (show AV.tup (stripL _) = _ from congrArg AV.tup (stripL_cons (strip_c (clo_agg (Enc.clo _))) (stripL_cons rfl (stripL_cons rfl rfl))))
 refine w_o (a := .raw (.bool false)) (h := op_q (q_bool rfl hc6)) ?_
 refine w_met rfl rfl ?_
 refine w_o (a := .ptr 1 0) ?_
 refine w_met rfl rfl ?_
 refine w_o (a := (ownAV (List.length (s1.2.2.2.l : List En)) (Enc.cellsL (s1.2.2.2.l : List En)))) ?_
 refine w_met rfl rfl ?_
 refine w_o (a := .raw (.int .i64 (List.length s1.2.2.2.l : Int))) (h := op_q (q_lenO (α := En) (l := s1.2.2.2.l) rfl rfl rfl rfl rfl rfl)) ?_
 refine w_met rfl rfl ?_
 refine w_o (a := .raw (.bool (decide ((List.length s1.2.2.2.l : Int) ≥ 65536)))) ?_
 refine w_o (a := .raw (.bool (decide ((List.length s1.2.2.2.l : Int) ≥ 65536)))) ?_
 refine bif_e h (fun hc7 h => ?_) (fun hc7 h => ?_)
 refine w_condT hc7 rfl ?_
 refine w_seq (w_region ?_)
 refine w_qs (.agg (Enc.cells ((Trc.mk [] (Ed.mk 0 0)) : Trc))) (a0 := (trcR (Trc.mk [] (Ed.mk 0 0)) .full)) rfl rfl rfl (by kernel_rfl) (strip_trcR _ _) (by dsimp only [aput, List.set]) ?_
 refine w_o (a := .raw (.int .i64 s1.1)) ?_
 refine w_om (σ'' := (ownSt [(34, (Enc.cells ((Trc.mk [] (Ed.mk 0 0)) : Trc))), (34, [(ownAV (List.length (s1.2.2.2.l : List En)) (Enc.cellsL (s1.2.2.2.l : List En))), .raw (.int .u8 s1.2.2.2.e.k), .raw (.int .i64 s1.2.2.2.e.c)]), (32, (Enc.cells (x3.1 : Ed))), (67, (Enc.cells (x5.1 : En)))] 67 (List.length (s1.2.2.2.l : List En)) 4)) (h := op_storeW (n := 3) rfl rfl rfl rfl rfl rfl rfl rfl (by decide)) ?_
 refine w_o (a := .raw (.int .i64 s1.1)) ?_
 refine w_o (a := .raw (.int .i64 332)) ?_
 replace h := cut_inr h hr2
 refine loop_exit h (fun h => ?_)
 replace h := cut_inr h hr1
 exact end_pureF (fun (r : (Trc × Int × Int)) => (.tup [.agg (Enc.cells (r.1 : Trc)), .raw (.int .i64 r.2.1), .raw (.int .i64 r.2.2)] : AV)) h (a := .tup [.agg (Enc.cells ((Trc.mk [] (Ed.mk 0 0)) : Trc)), .raw (.int .i64 s1.1), .raw (.int .i64 332)]) rfl (show okTrimL _ _ = true from (okTrimL_cons (okTrim_clo _ _ (clo_agg (Enc.clo _))) (by kernel_rfl))) (show AV.tup (stripL _) = _ from congrArg AV.tup (stripL_cons (strip_c (clo_agg (Enc.clo _))) (stripL_cons rfl (stripL_cons rfl rfl))))
 refine w_condF hc7 rfl ?_
 refine w_seq (w_region ?_)
 refine w_o (a := .ptr 1 0) ?_
 refine w_o (a := (ownAV (List.length (s1.2.2.2.l : List En)) (Enc.cellsL (s1.2.2.2.l : List En)))) ?_
 refine w_o (a := .agg (Enc.cells (x5.1 : En))) ?_
 refine w_o (a := .list (List.length ([x5.1] : List En)) (Enc.cellsL ([x5.1] : List En)) .full) (h := op_q (q_lit (α := En) (l := [x5.1]) (cs := Enc.cells (x5.1 : En) ++ []) rfl (by rw [Enc.cons, Enc.nil]))) ?_
 obtain ⟨g5, h⟩ := chk_e h
 refine w_opm (a := (ownAV (List.length ((s1.2.2.2.l ++ [x5.1]) : List En)) (Enc.cellsL ((s1.2.2.2.l ++ [x5.1]) : List En)))) (σ'' := (ownSt [(34, [.list 0 [] .full, .raw (.int .u8 0), .raw (.int .i64 0)]), (34, [(ownAV (List.length (s1.2.2.2.l : List En)) (Enc.cellsL (s1.2.2.2.l : List En))), .raw (.int .u8 s1.2.2.2.e.k), .raw (.int .i64 s1.2.2.2.e.c)]), (32, (Enc.cells (x3.1 : Ed))), (67, (Enc.cells (x5.1 : En)))] 67 (List.length ((s1.2.2.2.l ++ [x5.1]) : List En)) 4)) rfl rfl rfl (op_append rfl rfl rfl rfl (append_ownE (α := En) (bs := [(34, [.list 0 [] .full, .raw (.int .u8 0), .raw (.int .i64 0)]), (34, [(ownAV (List.length (s1.2.2.2.l : List En)) (Enc.cellsL (s1.2.2.2.l : List En))), .raw (.int .u8 s1.2.2.2.e.k), .raw (.int .i64 s1.2.2.2.e.c)]), (32, (Enc.cells (x3.1 : Ed))), (67, (Enc.cells (x5.1 : En)))]) (a := s1.2.2.2.l) (b := [x5.1]) g5 rfl rfl rfl rfl rfl ⟨rfl, by decide⟩)) (by dsimp only [aput, List.set]) rfl ?_
 refine w_o (a := .ptr 1 0) ?_
 refine w_om (σ'' := (ownSt [(34, [.list 0 [] .full, .raw (.int .u8 0), .raw (.int .i64 0)]), (34, [(ownAV (List.length ((s1.2.2.2.l ++ [x5.1]) : List En)) (Enc.cellsL ((s1.2.2.2.l ++ [x5.1]) : List En))), .raw (.int .u8 s1.2.2.2.e.k), .raw (.int .i64 s1.2.2.2.e.c)]), (32, (Enc.cells (x3.1 : Ed))), (67, (Enc.cells (x5.1 : En)))] 67 (List.length ((s1.2.2.2.l ++ [x5.1]) : List En)) 4)) (h := op_storeO rfl rfl rfl rfl rfl (Nat.le_of_ble_eq_true rfl)) ?_
 refine w_region (k0 := 0) (id := 21) ?_
 refine w_o (a := .raw (.int .i64 s1.1)) ?_
 obtain ⟨g6, h⟩ := chk_e h
 refine w_o (a := .raw (.int .i64 (s1.1 + 1))) (h := op_q (q_add rfl rfl rfl rfl g6.1 g6.2)) ?_
 refine w_o (a := .raw (.int .i64 (s1.1 + 1))) ?_
 refine cut_done (o := or2) ((s1.1 + 1), (s1.2.2.1 + 1), (Trc.mk (s1.2.2.2.l ++ [x5.1]) (Ed.mk s1.2.2.2.e.k s1.2.2.2.e.c))) h ?_
 exact wm_trim (bl 78 226673591177742983086567) 2 (by kernel_rfl) (Nat.le_of_ble_eq_true rfl) (okSt_of (okB_cons rfl (okB_cons (okTrimL_cons (okTrim_own (Enc.cloL _)) (by kernel_rfl)) rfl))) (by dsimp only [setAll, topAll, List.foldl, List.set]; exact (okTrimL_cons rfl (okTrimL_cons rfl (okTrimL_cons (by decide) (okTrimL_cons rfl (okTrimL_cons rfl (okTrimL_cons (by decide) (by kernel_rfl)))))))) (by kernel_rfl)
 intro j2 h
 refine w_start (by dsimp only [setAll, topAll, List.foldl, List.set]) rfl ?_
 refine w_region (k0 := 0) (id := 7) ?_
 refine w_o (a := .raw (.int .i64 s1.2.2.1)) ?_
 obtain ⟨g7, h⟩ := chk_e h
 refine w_o (a := .raw (.int .i64 (s1.2.2.1 + 1))) (h := op_q (q_add rfl rfl rfl rfl g7.1 g7.2)) ?_
 refine w_o (a := .raw (.int .i64 (s1.2.2.1 + 1))) ?_
 refine loop_next (p := p1) (j2.1, j2.2.1, (s1.2.2.1 + 1), (Trc.mk j2.2.2.l (Ed.mk j2.2.2.e.k j2.2.2.e.c))) h ?_
 exact wm_of (bl 78 485) (by kernel_rfl) (by kernel_rfl)
 refine w_condF hc2 rfl ?_
 refine loop_exit h (fun h => ?_)
 refine cut_done (o := or1) (s1.1, (Trc.mk s1.2.2.2.l (Ed.mk s1.2.2.2.e.k s1.2.2.2.e.c))) h ?_
 exact wm_of (bl 78 68) (by kernel_rfl) (by kernel_rfl)
 intro j1 h
 refine w_start (by dsimp only [setAll, topAll, List.foldl, List.set]) rfl ?_
 refine w_seq (w_region ?_)
 refine w_qs (.agg (Enc.cells ((Trc.mk [] (Ed.mk 0 0)) : Trc))) (a0 := (trcR (Trc.mk [] (Ed.mk 0 0)) .full)) rfl rfl rfl (by kernel_rfl) (strip_trcR _ _) (by dsimp only [aput, List.set]) ?_
 refine w_o (a := .raw (.int .i64 j1.1)) ?_
 refine w_om (σ'' := (ownSt [(34, (Enc.cells ((Trc.mk [] (Ed.mk 0 0)) : Trc))), (34, [(ownAV (List.length (j1.2.l : List En)) (Enc.cellsL (j1.2.l : List En))), .raw (.int .u8 j1.2.e.k), .raw (.int .i64 j1.2.e.c)])] 67 (List.length (j1.2.l : List En)) 4)) (h := op_storeW (n := 3) rfl rfl rfl rfl rfl rfl rfl rfl (by decide)) ?_
 refine w_o (a := .raw (.int .i64 j1.1)) ?_
 refine w_o (a := .raw (.int .i64 332)) ?_
 exact end_pureF (fun (r : (Trc × Int × Int)) => (.tup [.agg (Enc.cells (r.1 : Trc)), .raw (.int .i64 r.2.1), .raw (.int .i64 r.2.2)] : AV)) h (a := .tup [.agg (Enc.cells ((Trc.mk [] (Ed.mk 0 0)) : Trc)), .raw (.int .i64 j1.1), .raw (.int .i64 332)]) rfl (show okTrimL _ _ = true from (okTrimL_cons (okTrim_clo _ _ (clo_agg (Enc.clo _))) (by kernel_rfl))) (show AV.tup (stripL _) = _ from congrArg AV.tup (stripL_cons (strip_c (clo_agg (Enc.clo _))) (stripL_cons rfl (stripL_cons rfl rfl))))
end Go.Ab

