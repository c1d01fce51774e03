/-
  schedule: the laws own functions.
-/
import Derived.Test.YtblibgbakbhlkaaGreatDoorZvW3
import Derived.Test.YtblibgbakbhlkaaGreatDoorZvW4
import Derived.Test.YtblibgbakbhlkaaGreatDoorZvW5
import Derived.Test.YtblibgbakbhlkaaGreatDoorZdQp
set_option linter.unusedSimpArgs false
set_option linter.unusedVariables false
namespace Go.Ab
open Go Go.RowKit Go.Fwd Go.Proofs
def F_made (fuel : Nat) (l : (List UInt8)) (en : Int) : Option (List Ev) :=
  (cutE (τ := (List Ev)) (chk (0 ≤ 0 ∧ 0 ≤ (min (List.length l : Int) 100) ∧ (min (List.length l : Int) 100) ≤ (List.length l : Int)) (loopE (β := (List Ev) × Int) (fun s1 => (bif (decide (s1.2 < (List.length (sub l 0 (min (List.length l : Int) 100)) : Int))) then (cutE (τ := (List Ev)) (chk (0 ≤ s1.2 ∧ s1.2 < (List.length (sub l 0 (min (List.length l : Int) 100)) : Int)) (letE (ix (sub l 0 (min (List.length l : Int) 100)) s1.2) (fun x1 => (cutE (τ := (List Ev)) (bif (decide (en > 0)) then (chk (-9223372036854775808 ≤ en ∧ en < 9223372036854775808) (bif (s1.2 == en) then (chk ((List.length s1.1 + List.length [(Ev.mk 3 0)]) * 2 ≤ 140737488355328) (some (Sum.inl ((s1.1 ++ [(Ev.mk 3 0)]))))) else (some (Sum.inl (s1.1))))) else (some (Sum.inl (s1.1)))) (fun j3 => (bif ((Int.tmod (((x1).toNat : Nat) : Int) 4) == 3) then (chk ((List.length j3 + List.length [(Ev.mk 2 0)]) * 2 ≤ 140737488355328) (some (Sum.inl ((j3 ++ [(Ev.mk 2 0)]))))) else (bif (decide (en > 0)) then (chk (-9223372036854775808 ≤ en ∧ en < 9223372036854775808) (bif (decide (s1.2 ≥ en)) then (chk ((List.length j3 + List.length [(Ev.mk 2 0)]) * 2 ≤ 140737488355328) (some (Sum.inl ((j3 ++ [(Ev.mk 2 0)]))))) else (chk ((List.length j3 + List.length [(Ev.mk 1 (((x1).toNat : Nat) : Int))]) * 2 ≤ 140737488355328) (some (Sum.inl ((j3 ++ [(Ev.mk 1 (((x1).toNat : Nat) : Int))]))))))) else (chk ((List.length j3 + List.length [(Ev.mk 1 (((x1).toNat : Nat) : Int))]) * 2 ≤ 140737488355328) (some (Sum.inl ((j3 ++ [(Ev.mk 1 (((x1).toNat : Nat) : Int))])))))))))))) (fun j2 => (chk (-9223372036854775808 ≤ (s1.2 + 1) ∧ (s1.2 + 1) < 9223372036854775808) (some (Sum.inl (j2, (s1.2 + 1))))))) else (some (Sum.inr (Sum.inl (s1.1)))))) fuel (([] : (List Ev)), 0))) (fun j1 => (some j1)))
theorem ent14 : Ent Tryz.prog 14 := enters_of Tryz.func14 (by kernel_rfl) rfl
set_option maxRecDepth 100000 in
set_option maxHeartbeats 4000000 in
theorem made_sh (fuel : Nat) (l : (List UInt8)) (en : Int) (r : (List Ev)) (h : F_made fuel l en = some r) : Pure (ITP Tryz.prog) Tryz.prog 14 [.list (List.length (l : List UInt8)) (Enc.cellsL (l : List UInt8)) .none, .raw (.int .u8 en)] (.list (List.length (r : List Ev)) (Enc.cellsL (r : List Ev)) .none) := by
 obtain ⟨d, hd⟩ : ∃ d, Tryz.f14.body = some d := ⟨_, rfl⟩
 refine pure_of mix Tryz.func14 hd ent14 ?_
 cases hd
 unfold F_made at h
 refine w_start (by dsimp only [abeginS, Tryz.f14, List.length_cons, List.length_nil, Nat.zero_add, Nat.reduceAdd, Nat.reduceSub, List.replicate, List.cons_append, List.nil_append]) (by dsimp only [St.empty]) ?_
 refine w_seq (w_region ?_)
 refine w_o (a := .list 0 [] .full) ?_
 refine w_seq (w_region ?_)
 refine w_o (a := .list 0 [] .full) ?_
 refine w_cutF h [0, 1, 2, 3, 4, 5, 6, 7, 8, 9, 10, 11, 12, 13, 14, 15, 16, 17, 18, 19, 20, 21, 22, 23, 24, 25, 26, 27, 28, 29, 30, 31, 32, 33, 34, 35, 36, 37, 38, 39, 40, 41, 42, 43, 44, 45, 46, 47, 48, 49, 50, 51, 52, 53, 54] (fun j1 => [(5, (ownAV (List.length (j1 : List Ev)) (Enc.cellsL (j1 : List Ev))))]) (fun j1 => (ownSt [] 27 (List.length (j1 : List Ev)) 2)) ?_ ?_
 intro or1 h hr1
 refine w_seq (w_region ?_)
 refine w_mv ?_
 refine w_mv ?_
 refine w_o (a := .i (List.length l : Int)) ?_
 refine w_o (a := .i (min (List.length l : Int) 100)) (h := op_q (q_min rfl rfl rfl rfl rfl)) ?_
 obtain ⟨g1, h⟩ := chk_e h
 refine w_qs (.list (List.length ((sub l 0 (min (List.length l : Int) 100)) : List UInt8)) (Enc.cellsL ((sub l 0 (min (List.length l : Int) 100)) : List UInt8)) .none) rfl rfl rfl (q_sub_H (α := UInt8) (l := l) g1 rfl rfl rfl rfl rfl) (strip_sub _ _ _) (by dsimp only [aput, List.set]) ?_
 refine w_o (a := .i (List.length (sub l 0 (min (List.length l : Int) 100)) : Int)) ?_
 refine w_o (a := .i 0) ?_
 refine w_block ?_
 refine w_loopF h [0, 2, 3, 4, 5, 6, 7, 8, 9, 10, 11, 14, 15, 16, 17, 18, 19, 20, 21, 22, 23, 24, 25, 26, 27, 28, 29, 30, 31, 32, 33, 34, 35, 36, 37, 38, 39, 40, 41, 42, 43, 44, 45, 46, 47, 48, 49, 50, 51, 52, 53, 54] (fun s1 => [(5, (ownAV (List.length (s1.1 : List Ev)) (Enc.cellsL (s1.1 : List Ev)))), (14, .i s1.2)]) (fun s1 => (ownSt [] 27 (List.length (s1.1 : List Ev)) 2)) ?_ ?_
 exact wm_of (bl 55 28706) (by kernel_rfl) (by kernel_rfl)
 intro s1 p1 h
 refine w_start (by dsimp only [setAll, topAll, List.foldl, List.set]) rfl ?_
 refine w_seq (w_region ?_)
 refine w_o (a := .b (decide (s1.2 < (List.length (sub l 0 (min (List.length l : Int) 100)) : Int)))) ?_
 refine w_seq ?_
 refine bif_e h (fun hc1 h => ?_) (fun hc1 h => ?_)
 refine w_condT hc1 rfl ?_
 refine w_cutF h [5, 6, 7, 15, 16, 17, 18, 19, 20, 21, 22, 23, 24, 25, 26, 27, 28, 29, 30, 31, 32, 33, 34, 35, 36, 37, 38, 39, 40, 41, 42, 43, 44, 45, 46, 47, 48, 49, 50, 51, 52] (fun j2 => [(5, (ownAV (List.length (j2 : List Ev)) (Enc.cellsL (j2 : List Ev))))]) (fun j2 => (ownSt [] 27 (List.length (j2 : List Ev)) 2)) ?_ ?_
 intro or2 h hr2
 refine w_block ?_
 refine w_seq (w_region ?_)
 refine w_mv ?_
 obtain ⟨g2, h⟩ := chk_e h
 obtain ⟨x1, hx1, h⟩ := letE_e h
 refine w_o (a := .iptr (Enc.cells x1 ++ Enc.cellsL (List.drop (Int.toNat s1.2 + 1) (sub l 0 (min (List.length l : Int) 100))))) (h := op_q (by rw [← hx1]; exact (q_idx (α := UInt8) (l := (sub l 0 (min (List.length l : Int) 100))) g2 rfl rfl rfl rfl rfl))) ?_
 refine w_o (a := .u (((x1).toNat : Nat) : Int)) ?_
 refine w_mv ?_
 refine w_mv ?_
 refine w_cutF h [5, 15, 16, 17, 18, 19, 20, 21, 22, 23, 24, 25, 26, 27, 28, 29, 30] (fun j3 => [(5, (ownAV (List.length (j3 : List Ev)) (Enc.cellsL (j3 : List Ev))))]) (fun j3 => (ownSt [] 27 (List.length (j3 : List Ev)) 2)) ?_ ?_
 intro or3 h hr3
 refine w_seq (w_region ?_)
 refine w_mv ?_
 refine w_o (a := .b (decide (en > 0))) ?_
 refine bif_e h (fun hc2 h => ?_) (fun hc2 h => ?_)
 refine w_o (a := .b true) (h := op_q (q_bool rfl hc2)) ?_
 refine w_met rfl rfl ?_
 refine w_mv ?_
 refine w_met rfl rfl ?_
 refine w_mv ?_
 refine w_met rfl rfl ?_
 obtain ⟨g3, h⟩ := chk_e h
 refine w_o (a := .i en) (h := op_q (q_conv64 g3 rfl rfl rfl)) ?_
 refine w_met rfl rfl ?_
 refine w_o (a := .b (s1.2 == en)) ?_
 refine w_o (a := .b (s1.2 == en)) ?_
 refine bif_e h (fun hc3 h => ?_) (fun hc3 h => ?_)
 refine w_condT hc3 rfl ?_
 refine w_region (k0 := 0) (id := 6) ?_
 refine w_mv ?_
 refine w_o (a := .agg (Enc.cells ((Ev.mk 3 0) : Ev))) ?_
 refine w_o (a := .list (List.length ([(Ev.mk 3 0)] : List Ev)) (Enc.cellsL ([(Ev.mk 3 0)] : List Ev)) .full) (h := op_q (q_lit (α := Ev) (l := [(Ev.mk 3 0)]) (cs := Enc.cells ((Ev.mk 3 0) : Ev) ++ []) rfl (by rw [Enc.cons, Enc.nil]))) ?_
 obtain ⟨g4, h⟩ := chk_e h
 refine w_opm (a := (ownAV (List.length ((s1.1 ++ [(Ev.mk 3 0)]) : List Ev)) (Enc.cellsL ((s1.1 ++ [(Ev.mk 3 0)]) : List Ev)))) (σ'' := (ownSt [] 27 (List.length ((s1.1 ++ [(Ev.mk 3 0)]) : List Ev)) 2)) rfl rfl rfl (op_append rfl rfl rfl rfl (append_ownE (α := Ev) (bs := []) (a := s1.1) (b := [(Ev.mk 3 0)]) g4 rfl rfl rfl rfl rfl ⟨rfl, by decide⟩)) (by dsimp only [aput, List.set]) rfl ?_
 refine w_mv ?_
 refine cut_done (o := or3) ((s1.1 ++ [(Ev.mk 3 0)])) h ?_
 exact wm_of (bl 55 36028794871513087) (by kernel_rfl) (by kernel_rfl)
 refine w_condF hc3 rfl ?_
 refine cut_done (o := or3) (s1.1) h ?_
 exact wm_of (bl 55 36028794871513087) (by kernel_rfl) (by kernel_rfl)
 refine w_o (a := .b false) (h := op_q (q_bool rfl hc2)) ?_
 refine w_po ?_
 refine w_po ?_
 refine w_po ?_
 refine w_po ?_
 refine w_o (a := .b false) ?_
 refine w_false rfl ?_
 refine cut_done (o := or3) (s1.1) h ?_
 exact wm_of (bl 55 36028794871513087) (by kernel_rfl) (by kernel_rfl)
 intro j3 h
 refine w_start (by dsimp only [setAll, topAll, List.foldl, List.set]) rfl ?_
 refine w_seq (w_region ?_)
 refine w_mv ?_
 refine w_o (a := .u (Int.tmod (((x1).toNat : Nat) : Int) 4)) ?_
 refine w_o (a := .b ((Int.tmod (((x1).toNat : Nat) : Int) 4) == 3)) ?_
 refine bif_e h (fun hc4 h => ?_) (fun hc4 h => ?_)
 refine w_o (a := .b true) (h := op_q (q_bool rfl hc4)) ?_
 refine w_po ?_
 refine w_po ?_
 refine w_po ?_
 refine w_po ?_
 refine w_po ?_
 refine w_po ?_
 refine w_po ?_
 refine w_po ?_
 refine w_o (a := .b true) ?_
 refine w_true rfl ?_
 refine w_region (k0 := 0) (id := 8) ?_
 refine w_mv ?_
 refine w_o (a := .agg (Enc.cells ((Ev.mk 2 0) : Ev))) ?_
 refine w_o (a := .list (List.length ([(Ev.mk 2 0)] : List Ev)) (Enc.cellsL ([(Ev.mk 2 0)] : List Ev)) .full) (h := op_q (q_lit (α := Ev) (l := [(Ev.mk 2 0)]) (cs := Enc.cells ((Ev.mk 2 0) : Ev) ++ []) rfl (by rw [Enc.cons, Enc.nil]))) ?_
 obtain ⟨g5, h⟩ := chk_e h
 refine w_opm (a := (ownAV (List.length ((j3 ++ [(Ev.mk 2 0)]) : List Ev)) (Enc.cellsL ((j3 ++ [(Ev.mk 2 0)]) : List Ev)))) (σ'' := (ownSt [] 27 (List.length ((j3 ++ [(Ev.mk 2 0)]) : List Ev)) 2)) rfl rfl rfl (op_append rfl rfl rfl rfl (append_ownE (α := Ev) (bs := []) (a := j3) (b := [(Ev.mk 2 0)]) g5 rfl rfl rfl rfl rfl ⟨rfl, by decide⟩)) (by dsimp only [aput, List.set]) rfl ?_
 refine w_mv ?_
 refine cut_done (o := or2) ((j3 ++ [(Ev.mk 2 0)])) h ?_
 exact wm_of (bl 55 27021597764255551) (by kernel_rfl) (by kernel_rfl)
 refine w_o (a := .b false) (h := op_q (q_bool rfl hc4)) ?_
 refine w_met rfl rfl ?_
 refine w_mv ?_
 refine w_met rfl rfl ?_
 refine w_o (a := .b (decide (en > 0))) ?_
 refine w_met rfl rfl ?_
 refine bif_e h (fun hc5 h => ?_) (fun hc5 h => ?_)
 refine w_o (a := .b true) (h := op_q (q_bool rfl hc5)) ?_
 refine w_met rfl rfl ?_
 refine w_mv ?_
 refine w_met rfl rfl ?_
 refine w_mv ?_
 refine w_met rfl rfl ?_
 obtain ⟨g6, h⟩ := chk_e h
 refine w_o (a := .i en) (h := op_q (q_conv64 g6 rfl rfl rfl)) ?_
 refine w_met rfl rfl ?_
 refine w_o (a := .b (decide (s1.2 ≥ en))) ?_
 refine w_met rfl rfl ?_
 refine w_o (a := .b (decide (s1.2 ≥ en))) ?_
 refine w_o (a := .b (decide (s1.2 ≥ en))) ?_
 refine bif_e h (fun hc6 h => ?_) (fun hc6 h => ?_)
 refine w_condT hc6 rfl ?_
 refine w_region (k0 := 0) (id := 8) ?_
 refine w_mv ?_
 refine w_o (a := .agg (Enc.cells ((Ev.mk 2 0) : Ev))) ?_
 refine w_o (a := .list (List.length ([(Ev.mk 2 0)] : List Ev)) (Enc.cellsL ([(Ev.mk 2 0)] : List Ev)) .full) (h := op_q (q_lit (α := Ev) (l := [(Ev.mk 2 0)]) (cs := Enc.cells ((Ev.mk 2 0) : Ev) ++ []) rfl (by rw [Enc.cons, Enc.nil]))) ?_
 obtain ⟨g7, h⟩ := chk_e h
 refine w_opm (a := (ownAV (List.length ((j3 ++ [(Ev.mk 2 0)]) : List Ev)) (Enc.cellsL ((j3 ++ [(Ev.mk 2 0)]) : List Ev)))) (σ'' := (ownSt [] 27 (List.length ((j3 ++ [(Ev.mk 2 0)]) : List Ev)) 2)) rfl rfl rfl (op_append rfl rfl rfl rfl (append_ownE (α := Ev) (bs := []) (a := j3) (b := [(Ev.mk 2 0)]) g7 rfl rfl rfl rfl rfl ⟨rfl, by decide⟩)) (by dsimp only [aput, List.set]) rfl ?_
 refine w_mv ?_
 refine cut_done (o := or2) ((j3 ++ [(Ev.mk 2 0)])) h ?_
 exact wm_of (bl 55 27021597764255551) (by kernel_rfl) (by kernel_rfl)
 refine w_condF hc6 rfl ?_
 refine w_region (k0 := 0) (id := 9) ?_
 refine w_mv ?_
 refine w_mv ?_
 refine w_o (a := .agg (Enc.cells ((Ev.mk 1 (((x1).toNat : Nat) : Int)) : Ev))) ?_
 refine w_o (a := .list (List.length ([(Ev.mk 1 (((x1).toNat : Nat) : Int))] : List Ev)) (Enc.cellsL ([(Ev.mk 1 (((x1).toNat : Nat) : Int))] : List Ev)) .full) (h := op_q (q_lit (α := Ev) (l := [(Ev.mk 1 (((x1).toNat : Nat) : Int))]) (cs := Enc.cells ((Ev.mk 1 (((x1).toNat : Nat) : Int)) : Ev) ++ []) rfl (by rw [Enc.cons, Enc.nil]))) ?_
 obtain ⟨g8, h⟩ := chk_e h
 refine w_opm (a := (ownAV (List.length ((j3 ++ [(Ev.mk 1 (((x1).toNat : Nat) : Int))]) : List Ev)) (Enc.cellsL ((j3 ++ [(Ev.mk 1 (((x1).toNat : Nat) : Int))]) : List Ev)))) (σ'' := (ownSt [] 27 (List.length ((j3 ++ [(Ev.mk 1 (((x1).toNat : Nat) : Int))]) : List Ev)) 2)) rfl rfl rfl (op_append rfl rfl rfl rfl (append_ownE (α := Ev) (bs := []) (a := j3) (b := [(Ev.mk 1 (((x1).toNat : Nat) : Int))]) g8 rfl rfl rfl rfl rfl ⟨rfl, by decide⟩)) (by dsimp only [aput, List.set]) rfl ?_
 refine w_mv ?_
 refine cut_done (o := or2) ((j3 ++ [(Ev.mk 1 (((x1).toNat : Nat) : Int))])) h ?_
 exact wm_of (bl 55 27021597764255551) (by kernel_rfl) (by kernel_rfl)
 refine w_o (a := .b false) (h := op_q (q_bool rfl hc5)) ?_
 refine w_po ?_
 refine w_po ?_
 refine w_po ?_
 refine w_po ?_
 refine w_met rfl rfl ?_
 refine w_o (a := .b false) ?_
 refine w_o (a := .b false) ?_
 refine w_false rfl ?_
 refine w_region (k0 := 0) (id := 9) ?_
 refine w_mv ?_
 refine w_mv ?_
 refine w_o (a := .agg (Enc.cells ((Ev.mk 1 (((x1).toNat : Nat) : Int)) : Ev))) ?_
 refine w_o (a := .list (List.length ([(Ev.mk 1 (((x1).toNat : Nat) : Int))] : List Ev)) (Enc.cellsL ([(Ev.mk 1 (((x1).toNat : Nat) : Int))] : List Ev)) .full) (h := op_q (q_lit (α := Ev) (l := [(Ev.mk 1 (((x1).toNat : Nat) : Int))]) (cs := Enc.cells ((Ev.mk 1 (((x1).toNat : Nat) : Int)) : Ev) ++ []) rfl (by rw [Enc.cons, Enc.nil]))) ?_
 obtain ⟨g9, h⟩ := chk_e h
 refine w_opm (a := (ownAV (List.length ((j3 ++ [(Ev.mk 1 (((x1).toNat : Nat) : Int))]) : List Ev)) (Enc.cellsL ((j3 ++ [(Ev.mk 1 (((x1).toNat : Nat) : Int))]) : List Ev)))) (σ'' := (ownSt [] 27 (List.length ((j3 ++ [(Ev.mk 1 (((x1).toNat : Nat) : Int))]) : List Ev)) 2)) rfl rfl rfl (op_append rfl rfl rfl rfl (append_ownE (α := Ev) (bs := []) (a := j3) (b := [(Ev.mk 1 (((x1).toNat : Nat) : Int))]) g9 rfl rfl rfl rfl rfl ⟨rfl, by decide⟩)) (by dsimp only [aput, List.set]) rfl ?_
 refine w_mv ?_
 refine cut_done (o := or2) ((j3 ++ [(Ev.mk 1 (((x1).toNat : Nat) : Int))])) h ?_
 exact wm_of (bl 55 27021597764255551) (by kernel_rfl) (by kernel_rfl)
 intro j2 h
 refine w_start (by dsimp only [setAll, topAll, List.foldl, List.set]) rfl ?_
 refine w_region (k0 := 0) (id := 10) ?_
 obtain ⟨g10, h⟩ := chk_e h
 refine w_o (a := .i (s1.2 + 1)) (h := op_q (q_add rfl rfl rfl rfl g10.1 g10.2)) ?_
 refine w_mv ?_
 refine loop_next (p := p1) (j2, (s1.2 + 1)) h ?_
 exact wm_of (bl 55 28706) (by kernel_rfl) (by kernel_rfl)
 refine w_condF hc1 rfl ?_
 refine loop_exit h (fun h => ?_)
 refine cut_done (o := or1) (s1.1) h ?_
 exact wm_of (bl 55 32) (by kernel_rfl) (by kernel_rfl)
 intro j1 h
 refine w_start (by dsimp only [setAll, topAll, List.foldl, List.set]) rfl ?_
 refine w_seq (w_region ?_)
 refine w_mv ?_
 refine w_mv ?_
 exact end_pureF (fun (r : (List Ev)) => (.list (List.length (r : List Ev)) (Enc.cellsL (r : List Ev)) .none : AV)) h (a := (ownAV (List.length (j1 : List Ev)) (Enc.cellsL (j1 : List Ev)))) rfl (okTrim_own (Enc.cloL _)) (strip_o (Enc.cloL _) Enc.z)
def exampleL7 : List Ev := [(Ev.mk 1 97), (Ev.mk 1 98), (Ev.mk 2 0), (Ev.mk 2 0), (Ev.mk 1 99), (Ev.mk 3 0)]
def F_example  : Option (List Ev) :=
  (some exampleL7)
theorem ent22 : Ent Tryz.prog 22 := enters_of Tryz.func22 (by kernel_rfl) rfl
set_option maxRecDepth 100000 in
set_option maxHeartbeats 4000000 in
theorem example_sh  (r : (List Ev)) (h : F_example  = some r) : Pure (ITP Tryz.prog) Tryz.prog 22 [] (.list (List.length (r : List Ev)) (Enc.cellsL (r : List Ev)) .none) := by
 obtain ⟨d, hd⟩ : ∃ d, Tryz.f22.body = some d := ⟨_, rfl⟩
 refine pure_of mix Tryz.func22 hd ent22 ?_
 cases hd
 unfold F_example at h
 refine w_start (by dsimp only [abeginS, Tryz.f22, List.length_cons, List.length_nil, Nat.zero_add, Nat.reduceAdd, Nat.reduceSub, List.replicate, List.cons_append, List.nil_append]) (by dsimp only [St.empty]) ?_
 refine w_seq (w_region ?_)
 refine w_o (a := .list 0 [] .full) ?_
 refine w_seq (w_region ?_)
 refine w_o (a := .agg (Enc.cells ((Ev.mk 1 97) : Ev))) ?_
 refine w_o (a := .agg (Enc.cells ((Ev.mk 1 98) : Ev))) ?_
 refine w_o (a := .agg (Enc.cells ((Ev.mk 2 0) : Ev))) ?_
 refine w_o (a := .agg (Enc.cells ((Ev.mk 2 0) : Ev))) ?_
 refine w_o (a := .agg (Enc.cells ((Ev.mk 1 99) : Ev))) ?_
 refine w_o (a := .agg (Enc.cells ((Ev.mk 3 0) : Ev))) ?_
 refine w_o (a := .list (List.length (exampleL7 : List Ev)) (Enc.cellsL (exampleL7 : List Ev)) .full) (h := op_q (q_lit (α := Ev) (l := exampleL7) (cs := Enc.cells ((Ev.mk 1 97) : Ev) ++ (Enc.cells ((Ev.mk 1 98) : Ev) ++ (Enc.cells ((Ev.mk 2 0) : Ev) ++ (Enc.cells ((Ev.mk 2 0) : Ev) ++ (Enc.cells ((Ev.mk 1 99) : Ev) ++ (Enc.cells ((Ev.mk 3 0) : Ev) ++ [])))))) (by kernel_rfl) (by unfold exampleL7; rw [Enc.cons, Enc.cons, Enc.cons, Enc.cons, Enc.cons, Enc.cons, Enc.nil]))) ?_
 refine w_mv ?_
 exact end_pureF (fun (r : (List Ev)) => (.list (List.length (r : List Ev)) (Enc.cellsL (r : List Ev)) .none : AV)) h (a := .list (List.length (exampleL7 : List Ev)) (Enc.cellsL (exampleL7 : List Ev)) .full) rfl (okTrim_l (Enc.cloL _)) (strip_l (Enc.cloL _))
def F_piece (s : (List UInt8)) : Option Ck :=
  (some (Ck.mk 1 s))
theorem ent24 : Ent Tryz.prog 24 := enters_of Tryz.func24 (by kernel_rfl) rfl
set_option maxRecDepth 100000 in
set_option maxHeartbeats 4000000 in
theorem piece_sh (s : (List UInt8)) (r : Ck) (h : F_piece s = some r) : Pure (ITP Tryz.prog) Tryz.prog 24 [.raw (.string (bs s))] (.agg (Enc.cells (r : Ck))) := by
 obtain ⟨d, hd⟩ : ∃ d, Tryz.f24.body = some d := ⟨_, rfl⟩
 refine pure_of mix Tryz.func24 hd ent24 ?_
 cases hd
 unfold F_piece at h
 refine w_start (by dsimp only [abeginS, Tryz.f24, List.length_cons, List.length_nil, Nat.zero_add, Nat.reduceAdd, Nat.reduceSub, List.replicate, List.cons_append, List.nil_append]) (by dsimp only [St.empty]) ?_
 refine w_seq (w_region ?_)
 refine w_om (a := .ptr 0 0) (σ'' := ⟨[(30, [.u 0, .list 0 [] .full])], [], [], 0, false⟩) ?_
 refine w_seq (w_region ?_)
 refine w_mv ?_
 refine w_opB (a := .list (List.length (s : List UInt8)) (Enc.cellsL (s : List UInt8)) .none) (σ'' := ⟨[(30, [.u 0, .list 0 [] .full])], [], [], 0, false⟩) rfl rfl rfl (opB_strB (l := s) rfl rfl rfl rfl rfl) (by dsimp only [aput, List.set]) rfl ?_
 refine w_qs (.agg (Enc.cells ((Ck.mk 1 s) : Ck))) (a0 := (ckR (Ck.mk 1 s) .none)) rfl rfl rfl (by kernel_rfl) (strip_ckR _ _) (by dsimp only [aput, List.set]) ?_
 refine w_om (σ'' := ⟨[(30, (Enc.cells ((Ck.mk 1 s) : Ck)))], [], [], 0, false⟩) (h := op_storeW (n := 2) rfl rfl rfl rfl rfl rfl rfl rfl (by decide)) ?_
 exact end_pureF (fun (r : Ck) => (.agg (Enc.cells (r : Ck)) : AV)) h (a := .agg (Enc.cells ((Ck.mk 1 s) : Ck))) rfl (okTrim_clo _ _ (clo_agg (Enc.clo _))) (strip_c (clo_agg (Enc.clo _)))
def F_beq (a : (List UInt8)) (b : (List UInt8)) : Option Bool :=
  (some (a == b))
theorem ent35 : Ent Tryz.prog 35 := enters_of Tryz.func35 (by kernel_rfl) rfl
set_option maxRecDepth 100000 in
set_option maxHeartbeats 4000000 in
theorem beq_sh (a : (List UInt8)) (b : (List UInt8)) (r : Bool) (h : F_beq a b = some r) : Pure (ITP Tryz.prog) Tryz.prog 35 [.list (List.length (a : List UInt8)) (Enc.cellsL (a : List UInt8)) .none, .list (List.length (b : List UInt8)) (Enc.cellsL (b : List UInt8)) .none] (.raw (.bool r)) := by
 obtain ⟨d, hd⟩ : ∃ d, Tryz.f35.body = some d := ⟨_, rfl⟩
 refine pure_of mix Tryz.func35 hd ent35 ?_
 cases hd
 unfold F_beq at h
 refine w_start (by dsimp only [abeginS, Tryz.f35, List.length_cons, List.length_nil, Nat.zero_add, Nat.reduceAdd, Nat.reduceSub, List.replicate, List.cons_append, List.nil_append]) (by dsimp only [St.empty]) ?_
 refine w_seq (w_region ?_)
 refine w_o (a := .b false) ?_
 refine w_seq (w_region ?_)
 refine w_mv ?_
 refine w_o (a := .s a) (h := op_q (q_bstr (l := a) rfl rfl ⟨rfl, rfl⟩ rfl)) ?_
 refine w_mv ?_
 refine w_o (a := .s b) (h := op_q (q_bstr (l := b) rfl rfl ⟨rfl, rfl⟩ rfl)) ?_
 refine w_o (a := .b (a == b)) (h := op_q (q_streq rfl rfl rfl)) ?_
 refine w_mv ?_
 exact end_b h
def F_ckeq (x : Ck) (y : Ck) : Option Bool :=
  (bif (x.k == y.k) then (bindE (F_beq x.l y.l) (fun x1 => (some x1))) else (some false))
theorem ent65 : Ent Tryz.prog 65 := enters_of Tryz.func65 (by kernel_rfl) rfl
set_option maxRecDepth 100000 in
set_option maxHeartbeats 4000000 in
theorem ckeq_sh (x : Ck) (y : Ck) (r : Bool) (h : F_ckeq x y = some r) : Pure (ITP Tryz.prog) Tryz.prog 65 [.agg (Enc.cells (x : Ck)), .agg (Enc.cells (y : Ck))] (.raw (.bool r)) := by
 obtain ⟨d, hd⟩ : ∃ d, Tryz.f65.body = some d := ⟨_, rfl⟩
 refine pure_of mix Tryz.func65 hd ent65 ?_
 cases hd
 unfold F_ckeq at h
 refine w_start (by dsimp only [abeginS, Tryz.f65, List.length_cons, List.length_nil, Nat.zero_add, Nat.reduceAdd, Nat.reduceSub, List.replicate, List.cons_append, List.nil_append]) (by dsimp only [St.empty]) ?_
 refine w_seq (w_region ?_)
 refine w_om (a := .ptr 0 0) (σ'' := ⟨[(30, (Enc.cells (x : Ck)))], [], [], 0, false⟩) ?_
 refine w_om (a := .ptr 1 0) (σ'' := ⟨[(30, (Enc.cells (x : Ck))), (30, (Enc.cells (y : Ck)))], [], [], 0, false⟩) ?_
 refine w_o (a := .b false) ?_
 refine w_seq (w_region ?_)
 refine w_o (a := .ptr 0 0) ?_
 refine w_o (a := .u x.k) ?_
 refine w_o (a := .ptr 1 0) ?_
 refine w_o (a := .u y.k) ?_
 refine w_o (a := .b (x.k == y.k)) ?_
 refine bif_e h (fun hc1 h => ?_) (fun hc1 h => ?_)
 refine w_o (a := .b true) (h := op_q (q_bool rfl hc1)) ?_
 refine w_met rfl rfl ?_
 refine w_o (a := .ptr 0 1) ?_
 refine w_met rfl rfl ?_
 refine w_o (a := .list (List.length (x.l : List UInt8)) (Enc.cellsL (x.l : List UInt8)) .none) ?_
 refine w_met rfl rfl ?_
 refine w_o (a := .ptr 1 1) ?_
 refine w_met rfl rfl ?_
 refine w_o (a := .list (List.length (y.l : List UInt8)) (Enc.cellsL (y.l : List UInt8)) .none) ?_
 refine w_met rfl rfl ?_
 obtain ⟨x1, hx1, h⟩ := bindE_e h
 refine w_callc (args' := [.list (List.length (x.l : List UInt8)) (Enc.cellsL (x.l : List UInt8)) .none, .list (List.length (y.l : List UInt8)) (Enc.cellsL (y.l : List UInt8)) .none]) (r := .b x1) (beq_sh x.l y.l x1 hx1) rfl rfl (stripL_cons (strip_l (Enc.cloL _)) (stripL_cons (strip_l (Enc.cloL _)) rfl)) (okTrimL_cons (okTrim_l (Enc.cloL _)) (okTrimL_cons (okTrim_l (Enc.cloL _)) rfl)) (by dsimp only [aput, List.set]) ?_
 refine w_o (a := .b x1) ?_
 refine w_mv ?_
 exact end_b h
 refine w_o (a := .b false) (h := op_q (q_bool rfl hc1)) ?_
 refine w_po ?_
 refine w_po ?_
 refine w_po ?_
 refine w_po ?_
 refine w_po ?_
 refine w_o (a := .b false) ?_
 refine w_mv ?_
 exact end_b h
def F_eqcks (fuel : Nat) (a : (List Ck)) (b : (List Ck)) : Option Bool :=
  (bif ((List.length a : Int) != (List.length b : Int)) then (some false) else (cutE (τ := Unit) (loopE (β := Int) (fun s1 => (bif (decide (s1 < (List.length a : Int))) then (chk (0 ≤ s1 ∧ s1 < (List.length a : Int)) (letE (ix a s1) (fun x1 => (chk (0 ≤ s1 ∧ s1 < (List.length b : Int)) (letE (ix b s1) (fun x2 => (bindE (F_ckeq x1 x2) (fun x3 => (bif (!x3) then (some (Sum.inr (Sum.inr false))) else (chk (-9223372036854775808 ≤ (s1 + 1) ∧ (s1 + 1) < 9223372036854775808) (some (Sum.inl ((s1 + 1)))))))))))))) else (some (Sum.inr (Sum.inl ()))))) fuel (0)) (fun j1 => (some true))))
theorem ent64 : Ent Tryz.prog 64 := enters_of Tryz.func64 (by kernel_rfl) rfl
set_option maxRecDepth 100000 in
set_option maxHeartbeats 4000000 in
theorem eqcks_sh (fuel : Nat) (a : (List Ck)) (b : (List Ck)) (r : Bool) (h : F_eqcks fuel a b = some r) : Pure (ITP Tryz.prog) Tryz.prog 64 [.list (List.length (a : List Ck)) (Enc.cellsL (a : List Ck)) .none, .list (List.length (b : List Ck)) (Enc.cellsL (b : List Ck)) .none, .clos 65 []] (.raw (.bool r)) := by
 obtain ⟨d, hd⟩ : ∃ d, Tryz.f64.body = some d := ⟨_, rfl⟩
 refine pure_of mix Tryz.func64 hd ent64 ?_
 cases hd
 unfold F_eqcks at h
 refine w_start (by dsimp only [abeginS, Tryz.f64, List.length_cons, List.length_nil, Nat.zero_add, Nat.reduceAdd, Nat.reduceSub, List.replicate, List.cons_append, List.nil_append]) (by dsimp only [St.empty]) ?_
 refine w_seq (w_region ?_)
 refine w_o (a := .b false) ?_
 refine w_seq ?_
 refine w_seq (w_region ?_)
 refine w_mv ?_
 refine w_o (a := .i (List.length a : Int)) ?_
 refine w_mv ?_
 refine w_o (a := .i (List.length b : Int)) ?_
 refine w_o (a := .b ((List.length a : Int) != (List.length b : Int))) ?_
 refine bif_e h (fun hc1 h => ?_) (fun hc1 h => ?_)
 refine w_condT hc1 rfl ?_
 refine w_seq (w_region ?_)
 refine w_o (a := .b false) ?_
 exact end_b h
 refine w_condF hc1 rfl ?_
 refine w_cutF h [0, 1, 2, 3, 4, 5, 6, 7, 8, 9, 10, 11, 12, 13, 14, 15, 16, 17, 18, 19, 20, 21, 22, 23, 24, 25, 26, 27, 28, 29, 30, 31] (fun j1 => []) (fun j1 => ⟨[], [], [], 0, false⟩) ?_ ?_
 intro or1 h hr1
 refine w_seq (w_region ?_)
 refine w_mv ?_
 refine w_o (a := .i (List.length a : Int)) ?_
 refine w_o (a := .i 0) ?_
 refine w_block ?_
 refine w_loopF h [0, 3, 4, 5, 6, 7, 8, 9, 10, 11, 12, 13, 14, 17, 18, 19, 20, 21, 22, 23, 24, 25, 26, 27, 28, 29, 30, 31] (fun s1 => [(17, .i s1)]) (fun s1 => ⟨[], [], [], 0, false⟩) ?_ ?_
 exact wm_of (bl 32 229382) (by kernel_rfl) (by kernel_rfl)
 intro s1 p1 h
 refine w_start (by dsimp only [setAll, topAll, List.foldl, List.set]) rfl ?_
 refine w_seq (w_region ?_)
 refine w_o (a := .b (decide (s1 < (List.length a : Int)))) ?_
 refine w_seq ?_
 refine bif_e h (fun hc2 h => ?_) (fun hc2 h => ?_)
 refine w_condT hc2 rfl ?_
 refine w_seq ?_
 refine w_block ?_
 refine w_seq (w_region ?_)
 refine w_mv ?_
 obtain ⟨g1, h⟩ := chk_e h
 obtain ⟨x1, hx1, h⟩ := letE_e h
 refine w_o (a := .iptr (Enc.cells x1 ++ Enc.cellsL (List.drop (Int.toNat s1 + 1) a))) (h := op_q (by rw [← hx1]; exact (q_idx (α := Ck) (l := a) g1 rfl rfl rfl rfl rfl))) ?_
 refine w_o (a := .agg (Enc.cells (x1 : Ck))) ?_
 refine w_om (a := .ptr 0 0) (σ'' := ⟨[(30, [.u 0, .list 0 [] .full])], [], [], 0, false⟩) ?_
 refine w_mv ?_
 refine w_om (σ'' := ⟨[(30, (Enc.cells (x1 : Ck)))], [], [], 0, false⟩) (h := op_storeW (n := 2) rfl rfl rfl rfl rfl rfl rfl rfl (by decide)) ?_
 refine w_seq (w_region ?_)
 refine w_mv ?_
 refine w_mv ?_
 obtain ⟨g2, h⟩ := chk_e h
 obtain ⟨x2, hx2, h⟩ := letE_e h
 refine w_o (a := .iptr (Enc.cells x2 ++ Enc.cellsL (List.drop (Int.toNat s1 + 1) b))) (h := op_q (by rw [← hx2]; exact (q_idx (α := Ck) (l := b) g2 rfl rfl rfl rfl rfl))) ?_
 refine w_o (a := .agg (Enc.cells (x2 : Ck))) ?_
 refine w_om (a := .ptr 1 0) (σ'' := ⟨[(30, (Enc.cells (x1 : Ck))), (30, [.u 0, .list 0 [] .full])], [], [], 0, false⟩) ?_
 refine w_om (σ'' := ⟨[(30, (Enc.cells (x1 : Ck))), (30, (Enc.cells (x2 : Ck)))], [], [], 0, false⟩) (h := op_storeW (n := 2) rfl rfl rfl rfl rfl rfl rfl rfl (by decide)) ?_
 refine w_seq (w_region ?_)
 refine w_mv ?_
 refine w_o (a := .agg (Enc.cells (x1 : Ck))) ?_
 refine w_o (a := .agg (Enc.cells (x2 : Ck))) ?_
 obtain ⟨x3, hx3, h⟩ := bindE_e h
 refine w_callc (args' := [.agg (Enc.cells (x1 : Ck)), .agg (Enc.cells (x2 : Ck))]) (r := .b x3) (ckeq_sh x1 x2 x3 hx3) rfl rfl (stripL_cons (strip_c (clo_agg (Enc.clo _))) (stripL_cons (strip_c (clo_agg (Enc.clo _))) rfl)) (okTrimL_cons (okTrim_clo _ _ (clo_agg (Enc.clo _))) (okTrimL_cons (okTrim_clo _ _ (clo_agg (Enc.clo _))) rfl)) (by dsimp only [aput, List.set]) ?_
 refine w_o (a := .b (!x3)) ?_
 refine bif_e h (fun hc3 h => ?_) (fun hc3 h => ?_)
 refine w_condT hc3 rfl ?_
 refine w_seq (w_region ?_)
 refine w_o (a := .b false) ?_
 refine loop_exit h (fun h => ?_)
 replace h := cut_inr h hr1
 exact end_b h
 refine w_condF hc3 rfl ?_
 refine w_region (k0 := 0) (id := 9) ?_
 obtain ⟨g3, h⟩ := chk_e h
 refine w_o (a := .i (s1 + 1)) (h := op_q (q_add rfl rfl rfl rfl g3.1 g3.2)) ?_
 refine w_mv ?_
 refine loop_next (p := p1) ((s1 + 1)) h ?_
 exact wm_trim (bl 32 229382) 0 (by kernel_rfl) (Nat.le_of_ble_eq_true rfl) (okSt_of rfl) (by dsimp only [setAll, topAll, List.foldl, List.set]; exact (okTrimL_cons rfl (okTrimL_cons (okTrim_l (Enc.cloL _)) (okTrimL_cons (show okTrimL _ _ = true from rfl) (okTrimL_cons rfl (okTrimL_cons rfl (okTrimL_cons rfl (okTrimL_cons rfl (okTrimL_cons rfl (okTrimL_cons rfl (okTrimL_cons rfl (okTrimL_cons rfl (okTrimL_cons rfl (okTrimL_cons rfl (okTrimL_cons rfl (okTrimL_cons rfl (okTrimL_cons (okTrim_l (Enc.cloL _)) (by kernel_rfl)))))))))))))))))) (by kernel_rfl)
 refine w_condF hc2 rfl ?_
 refine loop_exit h (fun h => ?_)
 refine cut_done (o := or1) () h ?_
 exact wm_of (bl 32 0) (by kernel_rfl) (by kernel_rfl)
 intro j1 h
 refine w_start (by dsimp only [setAll, topAll, List.foldl, List.set]) rfl ?_
 refine w_seq (w_region ?_)
 refine w_o (a := .b true) ?_
 exact end_b h
def F_chunks (fuel : Nat) (a : (List Ck)) (b : (List Ck)) : Option Bool :=
  (bindE (F_eqcks fuel a b) (fun x1 => (some x1)))
theorem ent26 : Ent Tryz.prog 26 := enters_of Tryz.func26 (by kernel_rfl) rfl
set_option maxRecDepth 100000 in
set_option maxHeartbeats 4000000 in
theorem chunks_sh (fuel : Nat) (a : (List Ck)) (b : (List Ck)) (r : Bool) (h : F_chunks fuel a b = some r) : Pure (ITP Tryz.prog) Tryz.prog 26 [.list (List.length (a : List Ck)) (Enc.cellsL (a : List Ck)) .none, .list (List.length (b : List Ck)) (Enc.cellsL (b : List Ck)) .none] (.raw (.bool r)) := by
 obtain ⟨d, hd⟩ : ∃ d, Tryz.f26.body = some d := ⟨_, rfl⟩
 refine pure_of mix Tryz.func26 hd ent26 ?_
 cases hd
 unfold F_chunks at h
 refine w_start (by dsimp only [abeginS, Tryz.f26, List.length_cons, List.length_nil, Nat.zero_add, Nat.reduceAdd, Nat.reduceSub, List.replicate, List.cons_append, List.nil_append]) (by dsimp only [St.empty]) ?_
 refine w_seq (w_region ?_)
 refine w_o (a := .b false) ?_
 refine w_seq (w_region ?_)
 refine w_mv ?_
 refine w_mv ?_
 obtain ⟨x1, hx1, h⟩ := bindE_e h
 refine w_callc (args' := [.list (List.length (a : List Ck)) (Enc.cellsL (a : List Ck)) .none, .list (List.length (b : List Ck)) (Enc.cellsL (b : List Ck)) .none, .clos 65 []]) (r := .b x1) (eqcks_sh fuel a b x1 hx1) rfl rfl (stripL_cons (strip_l (Enc.cloL _)) (stripL_cons (strip_l (Enc.cloL _)) (stripL_cons (show AV.clos _ (stripL _) = _ from congrArg (AV.clos _) rfl) rfl))) (okTrimL_cons (okTrim_l (Enc.cloL _)) (okTrimL_cons (okTrim_l (Enc.cloL _)) (okTrimL_cons (show okTrimL _ _ = true from rfl) rfl))) (by dsimp only [aput, List.set]) ?_
 refine w_mv ?_
 exact end_b h
end Go.Ab

