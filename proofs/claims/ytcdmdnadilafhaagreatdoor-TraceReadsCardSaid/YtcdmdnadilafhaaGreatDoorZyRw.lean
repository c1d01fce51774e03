/-
  reparteeref02 and reparteeref33: numbers, quoting.
-/
import Derived.Test.YtcdmdnadilafhaaGreatDoorZyRc
import Derived.Test.YtcdmdnadilafhaaGreatDoorZdQo
set_option linter.unusedSimpArgs false
set_option linter.unusedVariables false
namespace Go.Ab
open Go Go.RowKit Go.Fwd Go.Proofs
def F_rbegins (s : (List UInt8)) (t : (List UInt8)) : Option Bool :=
  (bif (decide ((List.length s : Int) ≥ (List.length t : Int))) then (chk (0 ≤ 0 ∧ 0 ≤ (List.length t : Int) ∧ (List.length t : Int) ≤ (List.length s : Int)) (letE (sub s 0 (List.length t : Int)) (fun x1 => (some (x1 == t))))) else (some false))
theorem ent98 : Ent Tryz.prog 98 := enters_of Tryz.func98 (by kernel_rfl) rfl
set_option maxRecDepth 100000 in
set_option maxHeartbeats 4000000 in
theorem rbegins_sh (s : (List UInt8)) (t : (List UInt8)) (r : Bool) (h : F_rbegins s t = some r) : Pure (ITP Tryz.prog) Tryz.prog 98 [.raw (.string (bs s)), .raw (.string (bs t))] (.raw (.bool r)) := by
 obtain ⟨d, hd⟩ : ∃ d, Tryz.f98.body = some d := ⟨_, rfl⟩
 refine pure_of mix Tryz.func98 hd ent98 ?_
 cases hd
 unfold F_rbegins at h
 refine w_start (by dsimp only [abeginS, Tryz.f98, List.length_cons, List.length_nil, Nat.zero_add, Nat.reduceAdd, Nat.reduceSub, List.replicate, List.cons_append, List.nil_append]) (by dsimp only [St.empty]) ?_
 refine w_seq (w_region ?_)
 refine w_o (a := .raw (.bool false)) ?_
 refine w_seq (w_region ?_)
 refine w_o (a := .raw (.string (bs s))) ?_
 refine w_o (a := .raw (.int .i64 (List.length s : Int))) (h := op_q (q_lenS rfl rfl rfl)) ?_
 refine w_o (a := .raw (.string (bs t))) ?_
 refine w_o (a := .raw (.int .i64 (List.length t : Int))) (h := op_q (q_lenS rfl rfl rfl)) ?_
 refine w_o (a := .raw (.bool (decide ((List.length s : Int) ≥ (List.length t : Int))))) ?_
 refine bif_e h (fun hc1 h => ?_) (fun hc1 h => ?_)
 refine w_o (a := .raw (.bool true)) (h := op_q (q_bool rfl hc1)) ?_
 refine w_met rfl rfl ?_
 refine w_o (a := .raw (.string (bs s))) ?_
 refine w_met rfl rfl ?_
 refine w_o (a := .raw (.string (bs t))) ?_
 refine w_met rfl rfl ?_
 refine w_o (a := .raw (.int .i64 (List.length t : Int))) (h := op_q (q_lenS rfl rfl rfl)) ?_
 refine w_met rfl rfl ?_
 obtain ⟨g1, h⟩ := chk_e h
 obtain ⟨x1, hx1, h⟩ := letE_e h
 refine w_o (a := .raw (.string (bs x1))) (h := op_q (by rw [← hx1]; exact (q_ssl_H (l := s) g1 rfl rfl rfl rfl))) ?_
 refine w_met rfl rfl ?_
 refine w_o (a := .raw (.string (bs t))) ?_
 refine w_met rfl rfl ?_
 refine w_o (a := .raw (.bool (x1 == t))) (h := op_q (q_streq rfl rfl rfl)) ?_
 refine w_o (a := .raw (.bool (x1 == t))) ?_
 refine w_o (a := .raw (.bool (x1 == t))) ?_
 exact end_pureF (fun (r : Bool) => (.raw (.bool r) : AV)) h (a := .raw (.bool (x1 == t))) rfl rfl rfl
 refine w_o (a := .raw (.bool false)) (h := op_q (q_bool rfl hc1)) ?_
 refine w_po ?_
 refine w_po ?_
 refine w_po ?_
 refine w_po ?_
 refine w_po ?_
 refine w_po ?_
 refine w_o (a := .raw (.bool false)) ?_
 refine w_o (a := .raw (.bool false)) ?_
 exact end_pureF (fun (r : Bool) => (.raw (.bool r) : AV)) h (a := .raw (.bool false)) rfl rfl rfl
def F_rmay (s : (List UInt8)) : Option (List UInt8) :=
  (bif ((List.length s : Int) == 0) then (chk (0 ≤ 0 ∧ 0 ≤ (min (List.length s : Int) 1) ∧ (min (List.length s : Int) 1) ≤ (List.length s : Int)) (letE (sub s 0 (min (List.length s : Int) 1)) (fun x1 => (some x1)))) else (chk (0 ≤ (0 : Int) ∧ (0 : Int) < (List.length s : Int)) (letE (ix s (0 : Int)) (fun x2 => (bif ((((x2).toNat : Nat) : Int) != 92) then (chk (0 ≤ 0 ∧ 0 ≤ (min (List.length s : Int) 1) ∧ (min (List.length s : Int) 1) ≤ (List.length s : Int)) (letE (sub s 0 (min (List.length s : Int) 1)) (fun x3 => (some x3)))) else (bif (decide ((List.length s : Int) > 1)) then (chk (0 ≤ (1 : Int) ∧ (1 : Int) < (List.length s : Int)) (letE (ix s (1 : Int)) (fun x4 => (chk (0 ≤ (((x4).toNat : Nat) : Int) ∧ (((x4).toNat : Nat) : Int) < 256) (chk ((List.length ([9, 10, 13] : List UInt8) + List.length ([(u8of (((x4).toNat : Nat) : Int))] : List UInt8)) * 1 ≤ 140737488355328) (bif (decide ((List.length s : Int) > 3)) then (chk (0 ≤ (2 : Int) ∧ (2 : Int) < (List.length s : Int)) (letE (ix s (2 : Int)) (fun x5 => (letE (digP x5) (fun x6 => (chk (-9223372036854775808 ≤ (16 * x6) ∧ (16 * x6) < 9223372036854775808) (chk (0 ≤ (3 : Int) ∧ (3 : Int) < (List.length s : Int)) (letE (ix s (3 : Int)) (fun x7 => (letE (digP x7) (fun x8 => (chk (-9223372036854775808 ≤ ((16 * x6) + x8) ∧ ((16 * x6) + x8) < 9223372036854775808) (chk (0 ≤ (IntKind.u8.wrap ((16 * x6) + x8)) ∧ (IntKind.u8.wrap ((16 * x6) + x8)) < 256) (chk ((List.length (([9, 10, 13] : List UInt8) ++ ([(u8of (((x4).toNat : Nat) : Int))] : List UInt8)) + List.length ([(u8of (IntKind.u8.wrap ((16 * x6) + x8)))] : List UInt8)) * 1 ≤ 140737488355328) (some ((([9, 10, 13] : List UInt8) ++ ([(u8of (((x4).toNat : Nat) : Int))] : List UInt8)) ++ ([(u8of (IntKind.u8.wrap ((16 * x6) + x8)))] : List UInt8))))))))))))))))) else (some (([9, 10, 13] : List UInt8) ++ ([(u8of (((x4).toNat : Nat) : Int))] : List UInt8))))))))) else (bif (decide ((List.length s : Int) > 3)) then (chk (0 ≤ (2 : Int) ∧ (2 : Int) < (List.length s : Int)) (letE (ix s (2 : Int)) (fun x9 => (letE (digP x9) (fun x10 => (chk (-9223372036854775808 ≤ (16 * x10) ∧ (16 * x10) < 9223372036854775808) (chk (0 ≤ (3 : Int) ∧ (3 : Int) < (List.length s : Int)) (letE (ix s (3 : Int)) (fun x11 => (letE (digP x11) (fun x12 => (chk (-9223372036854775808 ≤ ((16 * x10) + x12) ∧ ((16 * x10) + x12) < 9223372036854775808) (chk (0 ≤ (IntKind.u8.wrap ((16 * x10) + x12)) ∧ (IntKind.u8.wrap ((16 * x10) + x12)) < 256) (chk ((List.length ([9, 10, 13] : List UInt8) + List.length ([(u8of (IntKind.u8.wrap ((16 * x10) + x12)))] : List UInt8)) * 1 ≤ 140737488355328) (some (([9, 10, 13] : List UInt8) ++ ([(u8of (IntKind.u8.wrap ((16 * x10) + x12)))] : List UInt8))))))))))))))))) else (some ([9, 10, 13] : List UInt8)))))))))
theorem ent96 : Ent Tryz.prog 96 := enters_of Tryz.func96 (by kernel_rfl) rfl
set_option maxRecDepth 100000 in
set_option maxHeartbeats 4000000 in
theorem rmay_sh (s : (List UInt8)) (r : (List UInt8)) (h : F_rmay s = some r) : Pure (ITP Tryz.prog) Tryz.prog 96 [.raw (.string (bs s))] (.list (List.length (r : List UInt8)) (Enc.cellsL (r : List UInt8)) .none) := by
 obtain ⟨d, hd⟩ : ∃ d, Tryz.f96.body = some d := ⟨_, rfl⟩
 refine pure_of mix Tryz.func96 hd ent96 ?_
 cases hd
 unfold F_rmay at h
 refine w_start (by dsimp only [abeginS, Tryz.f96, List.length_cons, List.length_nil, Nat.zero_add, Nat.reduceAdd, Nat.reduceSub, List.replicate, List.cons_append, List.nil_append]) (by dsimp only [St.empty]) ?_
 refine w_seq (w_region ?_)
 refine w_o (a := .list 0 [] .full) ?_
 refine w_seq ?_
 refine w_seq (w_region ?_)
 refine w_o (a := .raw (.string (bs s))) ?_
 refine w_o (a := .raw (.int .i64 (List.length s : Int))) (h := op_q (q_lenS rfl rfl rfl)) ?_
 refine w_o (a := .raw (.bool ((List.length s : Int) == 0))) ?_
 refine bif_e h (fun hc1 h => ?_) (fun hc1 h => ?_)
 refine w_o (a := .raw (.bool true)) (h := op_q (q_bool rfl hc1)) ?_
 refine w_po ?_
 refine w_po ?_
 refine w_po ?_
 refine w_o (a := .raw (.bool true)) ?_
 refine w_true rfl ?_
 refine w_seq (w_region ?_)
 refine w_o (a := .raw (.string (bs s))) ?_
 refine w_o (a := .raw (.string (bs s))) ?_
 refine w_o (a := .raw (.int .i64 (List.length s : Int))) (h := op_q (q_lenS rfl rfl rfl)) ?_
 refine w_o (a := .raw (.int .i64 (min (List.length s : Int) 1))) (h := op_q (q_min rfl rfl rfl rfl rfl)) ?_
 obtain ⟨g1, h⟩ := chk_e h
 obtain ⟨x1, hx1, h⟩ := letE_e h
 refine w_o (a := .raw (.string (bs x1))) (h := op_q (by rw [← hx1]; exact (q_ssl_H (l := s) g1 rfl rfl rfl rfl))) ?_
 refine w_opB (a := .list (List.length (x1 : List UInt8)) (Enc.cellsL (x1 : List UInt8)) .none) (σ'' := ⟨[], [], [], 0, false⟩) rfl rfl rfl (opB_strB (l := x1) rfl rfl rfl rfl rfl) (by dsimp only [aput, List.set]) rfl ?_
 refine w_o (a := .list (List.length (x1 : List UInt8)) (Enc.cellsL (x1 : List UInt8)) .none) ?_
 exact end_pureF (fun (r : (List UInt8)) => (.list (List.length (r : List UInt8)) (Enc.cellsL (r : List UInt8)) .none : AV)) h (a := .list (List.length (x1 : List UInt8)) (Enc.cellsL (x1 : List UInt8)) .none) rfl (okTrim_l (Enc.cloL _)) (strip_l (Enc.cloL _))
 refine w_o (a := .raw (.bool false)) (h := op_q (q_bool rfl hc1)) ?_
 refine w_met rfl rfl ?_
 refine w_o (a := .raw (.string (bs s))) ?_
 refine w_met rfl rfl ?_
 obtain ⟨g2, h⟩ := chk_e h
 obtain ⟨x2, hx2, h⟩ := letE_e h
 refine w_o (a := .raw (.int .u8 (((x2).toNat : Nat) : Int))) (h := op_q (by rw [← hx2]; exact (q_sidx (l := s) (n := (0 : Int)) g2 rfl rfl rfl rfl))) ?_
 refine w_met rfl rfl ?_
 refine w_o (a := .raw (.bool ((((x2).toNat : Nat) : Int) != 92))) ?_
 refine w_o (a := .raw (.bool ((((x2).toNat : Nat) : Int) != 92))) ?_
 refine bif_e h (fun hc2 h => ?_) (fun hc2 h => ?_)
 refine w_condT hc2 rfl ?_
 refine w_seq (w_region ?_)
 refine w_o (a := .raw (.string (bs s))) ?_
 refine w_o (a := .raw (.string (bs s))) ?_
 refine w_o (a := .raw (.int .i64 (List.length s : Int))) (h := op_q (q_lenS rfl rfl rfl)) ?_
 refine w_o (a := .raw (.int .i64 (min (List.length s : Int) 1))) (h := op_q (q_min rfl rfl rfl rfl rfl)) ?_
 obtain ⟨g3, h⟩ := chk_e h
 obtain ⟨x3, hx3, h⟩ := letE_e h
 refine w_o (a := .raw (.string (bs x3))) (h := op_q (by rw [← hx3]; exact (q_ssl_H (l := s) g3 rfl rfl rfl rfl))) ?_
 refine w_opB (a := .list (List.length (x3 : List UInt8)) (Enc.cellsL (x3 : List UInt8)) .none) (σ'' := ⟨[], [], [], 0, false⟩) rfl rfl rfl (opB_strB (l := x3) rfl rfl rfl rfl rfl) (by dsimp only [aput, List.set]) rfl ?_
 refine w_o (a := .list (List.length (x3 : List UInt8)) (Enc.cellsL (x3 : List UInt8)) .none) ?_
 exact end_pureF (fun (r : (List UInt8)) => (.list (List.length (r : List UInt8)) (Enc.cellsL (r : List UInt8)) .none : AV)) h (a := .list (List.length (x3 : List UInt8)) (Enc.cellsL (x3 : List UInt8)) .none) rfl (okTrim_l (Enc.cloL _)) (strip_l (Enc.cloL _))
 refine w_condF hc2 rfl ?_
 refine w_seq (w_region ?_)
 refine w_o (a := .list (List.length (([9, 10, 13] : List UInt8) : List UInt8)) (Enc.cellsL (([9, 10, 13] : List UInt8) : List UInt8)) .full) (h := op_q (q_lit (α := UInt8) (l := ([9, 10, 13] : List UInt8)) (cs := [.raw (.int .u8 9), .raw (.int .u8 10), .raw (.int .u8 13)]) (by kernel_rfl) rfl)) ?_
 refine w_o (a := .list (List.length (([9, 10, 13] : List UInt8) : List UInt8)) (Enc.cellsL (([9, 10, 13] : List UInt8) : List UInt8)) .full) ?_
 refine w_seq ?_
 refine w_seq (w_region ?_)
 refine w_o (a := .raw (.string (bs s))) ?_
 refine w_o (a := .raw (.int .i64 (List.length s : Int))) (h := op_q (q_lenS rfl rfl rfl)) ?_
 refine w_o (a := .raw (.bool (decide ((List.length s : Int) > 1)))) ?_
 refine bif_e h (fun hc3 h => ?_) (fun hc3 h => ?_)
 refine w_condT hc3 rfl ?_
 refine w_region (k0 := 0) (id := 5) ?_
 refine w_o (a := .list (List.length (([9, 10, 13] : List UInt8) : List UInt8)) (Enc.cellsL (([9, 10, 13] : List UInt8) : List UInt8)) .full) ?_
 refine w_o (a := .raw (.string (bs s))) ?_
 obtain ⟨g4, h⟩ := chk_e h
 obtain ⟨x4, hx4, h⟩ := letE_e h
 refine w_o (a := .raw (.int .u8 (((x4).toNat : Nat) : Int))) (h := op_q (by rw [← hx4]; exact (q_sidx (l := s) (n := (1 : Int)) g4 rfl rfl rfl rfl))) ?_
 obtain ⟨g5, h⟩ := chk_e h
 refine w_o (a := .list (List.length (([(u8of (((x4).toNat : Nat) : Int))] : List UInt8) : List UInt8)) (Enc.cellsL (([(u8of (((x4).toNat : Nat) : Int))] : List UInt8) : List UInt8)) .full) (h := op_q (q_lit (α := UInt8) (l := ([(u8of (((x4).toNat : Nat) : Int))] : List UInt8)) (cs := [.raw (.int .u8 (((x4).toNat : Nat) : Int))]) rfl (by show List.map _ _ = _; simp only [List.map_cons, List.map_nil, u8c g5]))) ?_
 obtain ⟨g6, h⟩ := chk_e h
 refine w_opm (a := (ownAV (List.length ((([9, 10, 13] : List UInt8) ++ ([(u8of (((x4).toNat : Nat) : Int))] : List UInt8)) : List UInt8)) (Enc.cellsL ((([9, 10, 13] : List UInt8) ++ ([(u8of (((x4).toNat : Nat) : Int))] : List UInt8)) : List UInt8)))) (σ'' := (ownSt [] 5 (List.length ((([9, 10, 13] : List UInt8) ++ ([(u8of (((x4).toNat : Nat) : Int))] : List UInt8)) : List UInt8)) 1)) rfl rfl rfl (op_append rfl rfl rfl rfl (append_fullE (α := UInt8) (bx := []) (a := ([9, 10, 13] : List UInt8)) (b := ([(u8of (((x4).toNat : Nat) : Int))] : List UInt8)) g6 (Nat.zero_lt_succ _) rfl rfl rfl rfl rfl ⟨rfl, by decide⟩)) (by dsimp only [aput, List.set]) rfl ?_
 refine w_o (a := (ownAV (List.length ((([9, 10, 13] : List UInt8) ++ ([(u8of (((x4).toNat : Nat) : Int))] : List UInt8)) : List UInt8)) (Enc.cellsL ((([9, 10, 13] : List UInt8) ++ ([(u8of (((x4).toNat : Nat) : Int))] : List UInt8)) : List UInt8)))) ?_
 refine w_seq ?_
 refine w_seq (w_region ?_)
 refine w_o (a := .raw (.string (bs s))) ?_
 refine w_o (a := .raw (.int .i64 (List.length s : Int))) (h := op_q (q_lenS rfl rfl rfl)) ?_
 refine w_o (a := .raw (.bool (decide ((List.length s : Int) > 3)))) ?_
 refine bif_e h (fun hc4 h => ?_) (fun hc4 h => ?_)
 refine w_condT hc4 rfl ?_
 refine w_draw (k0 := 0) (id := 7) 11 (by kernel_rfl) (by kernel_rfl) ?_
 refine h_o (a := (ownAV (List.length ((([9, 10, 13] : List UInt8) ++ ([(u8of (((x4).toNat : Nat) : Int))] : List UInt8)) : List UInt8)) (Enc.cellsL ((([9, 10, 13] : List UInt8) ++ ([(u8of (((x4).toNat : Nat) : Int))] : List UInt8)) : List UInt8)))) ?_
 refine h_o (a := .raw (.string (bs s))) ?_
 obtain ⟨g7, h⟩ := chk_e h
 obtain ⟨x5, hx5, h⟩ := letE_e h
 refine h_o (a := .raw (.int .u8 (((x5).toNat : Nat) : Int))) (h := by rw [← hx5]; exact (q_sidx (l := s) (n := (2 : Int)) g7 rfl rfl rfl rfl)) ?_
 obtain ⟨x6, hx6, h⟩ := letE_e h
 refine h_call (args' := [.raw (.int .u8 (((x5).toNat : Nat) : Int))]) (r := .raw (.int .i64 x6)) (by rw [← hx6]; exact (dig_pure x5)) rfl rfl rfl (stripL_cons rfl rfl) (by kernel_rfl) (by dsimp only [aput, List.set]) ?_
 obtain ⟨g8, h⟩ := chk_e h
 refine h_o (a := .raw (.int .i64 (16 * x6))) (h := q_mul rfl rfl rfl rfl g8.1 g8.2) ?_
 refine h_o (a := .raw (.string (bs s))) ?_
 obtain ⟨g9, h⟩ := chk_e h
 obtain ⟨x7, hx7, h⟩ := letE_e h
 refine h_o (a := .raw (.int .u8 (((x7).toNat : Nat) : Int))) (h := by rw [← hx7]; exact (q_sidx (l := s) (n := (3 : Int)) g9 rfl rfl rfl rfl)) ?_
 obtain ⟨x8, hx8, h⟩ := letE_e h
 refine h_call (args' := [.raw (.int .u8 (((x7).toNat : Nat) : Int))]) (r := .raw (.int .i64 x8)) (by rw [← hx8]; exact (dig_pure x7)) rfl rfl rfl (stripL_cons rfl rfl) (by kernel_rfl) (by dsimp only [aput, List.set]) ?_
 obtain ⟨g10, h⟩ := chk_e h
 refine h_o (a := .raw (.int .i64 ((16 * x6) + x8))) (h := q_add rfl rfl rfl rfl g10.1 g10.2) ?_
 refine h_o (a := .raw (.int .u8 (IntKind.u8.wrap ((16 * x6) + x8)))) ?_
 obtain ⟨g11, h⟩ := chk_e h
 refine h_o (a := .list (List.length (([(u8of (IntKind.u8.wrap ((16 * x6) + x8)))] : List UInt8) : List UInt8)) (Enc.cellsL (([(u8of (IntKind.u8.wrap ((16 * x6) + x8)))] : List UInt8) : List UInt8)) .full) (h := q_lit (α := UInt8) (l := ([(u8of (IntKind.u8.wrap ((16 * x6) + x8)))] : List UInt8)) (cs := [.raw (.int .u8 (IntKind.u8.wrap ((16 * x6) + x8)))]) rfl (by show List.map _ _ = _; simp only [List.map_cons, List.map_nil, u8c g11])) ?_
 refine h_end ?_
 obtain ⟨g12, h⟩ := chk_e h
 refine w_opm (a := (ownAV (List.length (((([9, 10, 13] : List UInt8) ++ ([(u8of (((x4).toNat : Nat) : Int))] : List UInt8)) ++ ([(u8of (IntKind.u8.wrap ((16 * x6) + x8)))] : List UInt8)) : List UInt8)) (Enc.cellsL (((([9, 10, 13] : List UInt8) ++ ([(u8of (((x4).toNat : Nat) : Int))] : List UInt8)) ++ ([(u8of (IntKind.u8.wrap ((16 * x6) + x8)))] : List UInt8)) : List UInt8)))) (σ'' := (ownSt [] 5 (List.length (((([9, 10, 13] : List UInt8) ++ ([(u8of (((x4).toNat : Nat) : Int))] : List UInt8)) ++ ([(u8of (IntKind.u8.wrap ((16 * x6) + x8)))] : List UInt8)) : List UInt8)) 1)) rfl rfl rfl (op_append rfl rfl rfl rfl (append_ownE (α := UInt8) (bs := []) (a := (([9, 10, 13] : List UInt8) ++ ([(u8of (((x4).toNat : Nat) : Int))] : List UInt8))) (b := ([(u8of (IntKind.u8.wrap ((16 * x6) + x8)))] : List UInt8)) g12 rfl rfl rfl rfl rfl ⟨rfl, by decide⟩)) (by dsimp only [aput, List.set]) rfl ?_
 refine w_o (a := (ownAV (List.length (((([9, 10, 13] : List UInt8) ++ ([(u8of (((x4).toNat : Nat) : Int))] : List UInt8)) ++ ([(u8of (IntKind.u8.wrap ((16 * x6) + x8)))] : List UInt8)) : List UInt8)) (Enc.cellsL (((([9, 10, 13] : List UInt8) ++ ([(u8of (((x4).toNat : Nat) : Int))] : List UInt8)) ++ ([(u8of (IntKind.u8.wrap ((16 * x6) + x8)))] : List UInt8)) : List UInt8)))) ?_
 refine w_seq (w_region ?_)
 refine w_o (a := (ownAV (List.length (((([9, 10, 13] : List UInt8) ++ ([(u8of (((x4).toNat : Nat) : Int))] : List UInt8)) ++ ([(u8of (IntKind.u8.wrap ((16 * x6) + x8)))] : List UInt8)) : List UInt8)) (Enc.cellsL (((([9, 10, 13] : List UInt8) ++ ([(u8of (((x4).toNat : Nat) : Int))] : List UInt8)) ++ ([(u8of (IntKind.u8.wrap ((16 * x6) + x8)))] : List UInt8)) : List UInt8)))) ?_
 refine w_o (a := (ownAV (List.length (((([9, 10, 13] : List UInt8) ++ ([(u8of (((x4).toNat : Nat) : Int))] : List UInt8)) ++ ([(u8of (IntKind.u8.wrap ((16 * x6) + x8)))] : List UInt8)) : List UInt8)) (Enc.cellsL (((([9, 10, 13] : List UInt8) ++ ([(u8of (((x4).toNat : Nat) : Int))] : List UInt8)) ++ ([(u8of (IntKind.u8.wrap ((16 * x6) + x8)))] : List UInt8)) : List UInt8)))) ?_
 exact end_pureF (fun (r : (List UInt8)) => (.list (List.length (r : List UInt8)) (Enc.cellsL (r : List UInt8)) .none : AV)) h (a := (ownAV (List.length (((([9, 10, 13] : List UInt8) ++ ([(u8of (((x4).toNat : Nat) : Int))] : List UInt8)) ++ ([(u8of (IntKind.u8.wrap ((16 * x6) + x8)))] : List UInt8)) : List UInt8)) (Enc.cellsL (((([9, 10, 13] : List UInt8) ++ ([(u8of (((x4).toNat : Nat) : Int))] : List UInt8)) ++ ([(u8of (IntKind.u8.wrap ((16 * x6) + x8)))] : List UInt8)) : List UInt8)))) rfl (okTrim_own (Enc.cloL _)) (strip_o (Enc.cloL _) Enc.z)
 refine w_condF hc4 rfl ?_
 refine w_seq (w_region ?_)
 refine w_o (a := (ownAV (List.length ((([9, 10, 13] : List UInt8) ++ ([(u8of (((x4).toNat : Nat) : Int))] : List UInt8)) : List UInt8)) (Enc.cellsL ((([9, 10, 13] : List UInt8) ++ ([(u8of (((x4).toNat : Nat) : Int))] : List UInt8)) : List UInt8)))) ?_
 refine w_o (a := (ownAV (List.length ((([9, 10, 13] : List UInt8) ++ ([(u8of (((x4).toNat : Nat) : Int))] : List UInt8)) : List UInt8)) (Enc.cellsL ((([9, 10, 13] : List UInt8) ++ ([(u8of (((x4).toNat : Nat) : Int))] : List UInt8)) : List UInt8)))) ?_
 exact end_pureF (fun (r : (List UInt8)) => (.list (List.length (r : List UInt8)) (Enc.cellsL (r : List UInt8)) .none : AV)) h (a := (ownAV (List.length ((([9, 10, 13] : List UInt8) ++ ([(u8of (((x4).toNat : Nat) : Int))] : List UInt8)) : List UInt8)) (Enc.cellsL ((([9, 10, 13] : List UInt8) ++ ([(u8of (((x4).toNat : Nat) : Int))] : List UInt8)) : List UInt8)))) rfl (okTrim_own (Enc.cloL _)) (strip_o (Enc.cloL _) Enc.z)
 refine w_condF hc3 rfl ?_
 refine w_seq ?_
 refine w_seq (w_region ?_)
 refine w_o (a := .raw (.string (bs s))) ?_
 refine w_o (a := .raw (.int .i64 (List.length s : Int))) (h := op_q (q_lenS rfl rfl rfl)) ?_
 refine w_o (a := .raw (.bool (decide ((List.length s : Int) > 3)))) ?_
 refine bif_e h (fun hc5 h => ?_) (fun hc5 h => ?_)
 refine w_condT hc5 rfl ?_
 refine w_draw (k0 := 0) (id := 7) 11 (by kernel_rfl) (by kernel_rfl) ?_
 refine h_o (a := .list (List.length (([9, 10, 13] : List UInt8) : List UInt8)) (Enc.cellsL (([9, 10, 13] : List UInt8) : List UInt8)) .full) ?_
 refine h_o (a := .raw (.string (bs s))) ?_
 obtain ⟨g13, h⟩ := chk_e h
 obtain ⟨x9, hx9, h⟩ := letE_e h
 refine h_o (a := .raw (.int .u8 (((x9).toNat : Nat) : Int))) (h := by rw [← hx9]; exact (q_sidx (l := s) (n := (2 : Int)) g13 rfl rfl rfl rfl)) ?_
 obtain ⟨x10, hx10, h⟩ := letE_e h
 refine h_call (args' := [.raw (.int .u8 (((x9).toNat : Nat) : Int))]) (r := .raw (.int .i64 x10)) (by rw [← hx10]; exact (dig_pure x9)) rfl rfl rfl (stripL_cons rfl rfl) (by kernel_rfl) (by dsimp only [aput, List.set]) ?_
 obtain ⟨g14, h⟩ := chk_e h
 refine h_o (a := .raw (.int .i64 (16 * x10))) (h := q_mul rfl rfl rfl rfl g14.1 g14.2) ?_
 refine h_o (a := .raw (.string (bs s))) ?_
 obtain ⟨g15, h⟩ := chk_e h
 obtain ⟨x11, hx11, h⟩ := letE_e h
 refine h_o (a := .raw (.int .u8 (((x11).toNat : Nat) : Int))) (h := by rw [← hx11]; exact (q_sidx (l := s) (n := (3 : Int)) g15 rfl rfl rfl rfl)) ?_
 obtain ⟨x12, hx12, h⟩ := letE_e h
 refine h_call (args' := [.raw (.int .u8 (((x11).toNat : Nat) : Int))]) (r := .raw (.int .i64 x12)) (by rw [← hx12]; exact (dig_pure x11)) rfl rfl rfl (stripL_cons rfl rfl) (by kernel_rfl) (by dsimp only [aput, List.set]) ?_
 obtain ⟨g16, h⟩ := chk_e h
 refine h_o (a := .raw (.int .i64 ((16 * x10) + x12))) (h := q_add rfl rfl rfl rfl g16.1 g16.2) ?_
 refine h_o (a := .raw (.int .u8 (IntKind.u8.wrap ((16 * x10) + x12)))) ?_
 obtain ⟨g17, h⟩ := chk_e h
 refine h_o (a := .list (List.length (([(u8of (IntKind.u8.wrap ((16 * x10) + x12)))] : List UInt8) : List UInt8)) (Enc.cellsL (([(u8of (IntKind.u8.wrap ((16 * x10) + x12)))] : List UInt8) : List UInt8)) .full) (h := q_lit (α := UInt8) (l := ([(u8of (IntKind.u8.wrap ((16 * x10) + x12)))] : List UInt8)) (cs := [.raw (.int .u8 (IntKind.u8.wrap ((16 * x10) + x12)))]) rfl (by show List.map _ _ = _; simp only [List.map_cons, List.map_nil, u8c g17])) ?_
 refine h_end ?_
 obtain ⟨g18, h⟩ := chk_e h
 refine w_opm (a := (ownAV (List.length ((([9, 10, 13] : List UInt8) ++ ([(u8of (IntKind.u8.wrap ((16 * x10) + x12)))] : List UInt8)) : List UInt8)) (Enc.cellsL ((([9, 10, 13] : List UInt8) ++ ([(u8of (IntKind.u8.wrap ((16 * x10) + x12)))] : List UInt8)) : List UInt8)))) (σ'' := (ownSt [] 5 (List.length ((([9, 10, 13] : List UInt8) ++ ([(u8of (IntKind.u8.wrap ((16 * x10) + x12)))] : List UInt8)) : List UInt8)) 1)) rfl rfl rfl (op_append rfl rfl rfl rfl (append_fullE (α := UInt8) (bx := []) (a := ([9, 10, 13] : List UInt8)) (b := ([(u8of (IntKind.u8.wrap ((16 * x10) + x12)))] : List UInt8)) g18 (Nat.zero_lt_succ _) rfl rfl rfl rfl rfl ⟨rfl, by decide⟩)) (by dsimp only [aput, List.set]) rfl ?_
 refine w_o (a := (ownAV (List.length ((([9, 10, 13] : List UInt8) ++ ([(u8of (IntKind.u8.wrap ((16 * x10) + x12)))] : List UInt8)) : List UInt8)) (Enc.cellsL ((([9, 10, 13] : List UInt8) ++ ([(u8of (IntKind.u8.wrap ((16 * x10) + x12)))] : List UInt8)) : List UInt8)))) ?_
 refine w_seq (w_region ?_)
 refine w_o (a := (ownAV (List.length ((([9, 10, 13] : List UInt8) ++ ([(u8of (IntKind.u8.wrap ((16 * x10) + x12)))] : List UInt8)) : List UInt8)) (Enc.cellsL ((([9, 10, 13] : List UInt8) ++ ([(u8of (IntKind.u8.wrap ((16 * x10) + x12)))] : List UInt8)) : List UInt8)))) ?_
 refine w_o (a := (ownAV (List.length ((([9, 10, 13] : List UInt8) ++ ([(u8of (IntKind.u8.wrap ((16 * x10) + x12)))] : List UInt8)) : List UInt8)) (Enc.cellsL ((([9, 10, 13] : List UInt8) ++ ([(u8of (IntKind.u8.wrap ((16 * x10) + x12)))] : List UInt8)) : List UInt8)))) ?_
 exact end_pureF (fun (r : (List UInt8)) => (.list (List.length (r : List UInt8)) (Enc.cellsL (r : List UInt8)) .none : AV)) h (a := (ownAV (List.length ((([9, 10, 13] : List UInt8) ++ ([(u8of (IntKind.u8.wrap ((16 * x10) + x12)))] : List UInt8)) : List UInt8)) (Enc.cellsL ((([9, 10, 13] : List UInt8) ++ ([(u8of (IntKind.u8.wrap ((16 * x10) + x12)))] : List UInt8)) : List UInt8)))) rfl (okTrim_own (Enc.cloL _)) (strip_o (Enc.cloL _) Enc.z)
 refine w_condF hc5 rfl ?_
 refine w_seq (w_region ?_)
 refine w_o (a := .list (List.length (([9, 10, 13] : List UInt8) : List UInt8)) (Enc.cellsL (([9, 10, 13] : List UInt8) : List UInt8)) .full) ?_
 refine w_o (a := .list (List.length (([9, 10, 13] : List UInt8) : List UInt8)) (Enc.cellsL (([9, 10, 13] : List UInt8) : List UInt8)) .full) ?_
 exact end_pureF (fun (r : (List UInt8)) => (.list (List.length (r : List UInt8)) (Enc.cellsL (r : List UInt8)) .none : AV)) h (a := .list (List.length (([9, 10, 13] : List UInt8) : List UInt8)) (Enc.cellsL (([9, 10, 13] : List UInt8) : List UInt8)) .full) rfl (okTrim_l (Enc.cloL _)) (strip_l (Enc.cloL _))
def F_rreadbyte (fuel : Nat) (s : (List UInt8)) (m : RSet) : Option (Int × Int × Int) :=
  (bindE (F_rmay s) (fun x1 => (cutE (τ := Unit) (loopE (β := Int) (fun s1 => (bif (decide (s1 < (List.length x1 : Int))) then (cutE (τ := Unit) (chk (0 ≤ s1 ∧ s1 < (List.length x1 : Int)) (chk (m = RSet.mk false) (letE (formsP (ix x1 s1)) (fun x2 => (loopE (β := Int) (fun s2 => (bif (decide (s2 < (List.length x2 : Int))) then (chk (0 ≤ s2 ∧ s2 < (List.length x2 : Int)) (bindE (F_rbegins s (ix x2 s2)) (fun x3 => (bif x3 then (chk (0 ≤ s1 ∧ s1 < (List.length x1 : Int)) (chk (0 ≤ s2 ∧ s2 < (List.length x2 : Int)) (some (Sum.inr (Sum.inr (Sum.inr (Sum.inr (((((ix x1 s1)).toNat : Nat) : Int), (List.length (ix x2 s2) : Int), 0)))))))) else (chk (-9223372036854775808 ≤ (s2 + 1) ∧ (s2 + 1) < 9223372036854775808) (some (Sum.inl ((s2 + 1))))))))) else (some (Sum.inr (Sum.inl ()))))) fuel (0)))))) (fun j2 => (chk (-9223372036854775808 ≤ (s1 + 1) ∧ (s1 + 1) < 9223372036854775808) (some (Sum.inl ((s1 + 1))))))) else (some (Sum.inr (Sum.inl ()))))) fuel (0)) (fun j1 => (some (0, 0, 20))))))
theorem ent78 : Ent Tryz.prog 78 := enters_of Tryz.func78 (by kernel_rfl) rfl
set_option maxRecDepth 100000 in
set_option maxHeartbeats 4000000 in
theorem rreadbyte_sh (fuel : Nat) (s : (List UInt8)) (m : RSet) (r : (Int × Int × Int)) (h : F_rreadbyte fuel s m = some r) : Pure (ITP Tryz.prog) Tryz.prog 78 [.raw (.string (bs s)), .agg (Enc.cells (m : RSet))] (.tup [.raw (.int .u8 r.1), .raw (.int .i64 r.2.1), .raw (.int .i64 r.2.2)]) := by
 obtain ⟨d, hd⟩ : ∃ d, Tryz.f78.body = some d := ⟨_, rfl⟩
 refine pure_of mix Tryz.func78 hd ent78 ?_
 cases hd
 unfold F_rreadbyte at h
 refine w_start (by dsimp only [abeginS, Tryz.f78, List.length_cons, List.length_nil, Nat.zero_add, Nat.reduceAdd, Nat.reduceSub, List.replicate, List.cons_append, List.nil_append]) (by dsimp only [St.empty]) ?_
 refine w_seq (w_region ?_)
 refine w_om (a := .ptr 0 0) (σ'' := ⟨[(128, (Enc.cells (m : RSet)))], [], [], 0, false⟩) ?_
 refine w_o (a := .raw (.int .u8 0)) ?_
 refine w_o (a := .raw (.int .i64 0)) ?_
 refine w_o (a := .raw (.int .i64 0)) ?_
 refine w_seq (w_region ?_)
 refine w_o (a := .raw (.string (bs s))) ?_
 obtain ⟨x1, hx1, h⟩ := bindE_e h
 refine w_callc (args' := [.raw (.string (bs s))]) (r := .list (List.length (x1 : List UInt8)) (Enc.cellsL (x1 : List UInt8)) .none) (rmay_sh s x1 hx1) rfl rfl (stripL_cons rfl rfl) (by kernel_rfl) (by dsimp only [aput, List.set]) ?_
 refine w_o (a := .list (List.length (x1 : List UInt8)) (Enc.cellsL (x1 : List UInt8)) .none) ?_
 refine w_cutF h [0, 1, 2, 3, 4, 5, 6, 7, 8, 9, 10, 11, 12, 13, 14, 15, 16, 17, 18, 19, 20, 21, 22, 23, 24, 25, 26, 27, 28, 29, 30, 31, 32, 33, 34, 35, 36, 37, 38, 39, 40, 41, 42, 43, 44, 45] (fun j1 => []) (fun j1 => ⟨[(128, (Enc.cells (m : RSet)))], [], [], 0, false⟩) ?_ ?_
 intro or1 h hr1
 refine w_seq (w_region ?_)
 refine w_o (a := .raw (.int .i64 0)) ?_
 refine w_block ?_
 refine w_loopF h [1, 2, 4, 5, 6, 8, 9, 10, 11, 12, 13, 14, 15, 16, 17, 18, 19, 20, 21, 22, 23, 24, 25, 26, 27, 28, 29, 30, 31, 32, 33, 34, 35, 36, 37, 38, 39, 40, 41, 42, 43, 44, 45] (fun s1 => [(8, .raw (.int .i64 s1))]) (fun s1 => ⟨[(128, (Enc.cells (m : RSet)))], [], [], 0, false⟩) ?_ ?_
 exact wm_of (bl 46 393) (by kernel_rfl) (by kernel_rfl)
 intro s1 p1 h
 refine w_start (by dsimp only [setAll, topAll, List.foldl, List.set]) rfl ?_
 refine w_seq ?_
 refine w_seq (w_region ?_)
 refine w_o (a := .raw (.int .i64 s1)) ?_
 refine w_o (a := .list (List.length (x1 : List UInt8)) (Enc.cellsL (x1 : List UInt8)) .none) ?_
 refine w_o (a := .raw (.int .i64 (List.length x1 : Int))) ?_
 refine w_o (a := .raw (.bool (decide (s1 < (List.length x1 : Int))))) ?_
 refine bif_e h (fun hc1 h => ?_) (fun hc1 h => ?_)
 refine w_condT hc1 rfl ?_
 refine w_cutF h [4, 5, 6, 9, 10, 13, 14, 15, 16, 19, 20, 21, 22, 23, 24, 25, 26, 27, 28, 29, 30, 31, 32, 33, 34, 35, 36, 37, 38, 39, 40, 41, 42, 43, 44, 45] (fun j2 => []) (fun j2 => ⟨[(128, (Enc.cells (m : RSet)))], [], [], 0, false⟩) ?_ ?_
 intro or2 h hr2
 refine w_block ?_
 refine w_seq ?_
 refine w_draw (k0 := 0) (id := 5) 5 (by kernel_rfl) (by kernel_rfl) ?_
 refine h_o (a := .list (List.length (x1 : List UInt8)) (Enc.cellsL (x1 : List UInt8)) .none) ?_
 refine h_o (a := .raw (.int .i64 s1)) ?_
 obtain ⟨g1, h⟩ := chk_e h
 refine h_o (a := .iptr (Enc.cells (ix x1 s1) ++ Enc.cellsL (List.drop (Int.toNat s1 + 1) x1))) (h := q_idx (α := UInt8) (l := x1) g1 rfl rfl rfl rfl rfl) ?_
 refine h_o (a := .raw (.int .u8 ((((ix x1 s1)).toNat : Nat) : Int))) ?_
 refine h_o (a := .agg (Enc.cells (m : RSet))) (h := q_loadArr m (by decide) rfl rfl rfl) ?_
 refine h_end ?_
 obtain ⟨g2, h⟩ := chk_e h
 obtain ⟨x2, hx2, h⟩ := letE_e h
 refine w_callc (args' := [.raw (.int .u8 ((((ix x1 s1)).toNat : Nat) : Int)), .agg (Enc.cells (m : RSet))]) (r := .list (List.length (x2 : List (List UInt8))) (Enc.cellsL (x2 : List (List UInt8))) .none) (by rw [← hx2]; exact (by rw [g2]; exact forms_pure (ix x1 s1))) rfl rfl (stripL_cons rfl (stripL_cons (strip_c (clo_agg (Enc.clo _))) rfl)) (okTrimL_cons rfl (okTrimL_cons (okTrim_clo _ _ (clo_agg (Enc.clo _))) rfl)) (by dsimp only [aput, List.set]) ?_
 refine w_o (a := .list (List.length (x2 : List (List UInt8))) (Enc.cellsL (x2 : List (List UInt8))) .none) ?_
 refine w_seq (w_region ?_)
 refine w_o (a := .raw (.int .i64 0)) ?_
 refine w_block ?_
 refine w_loopF h [4, 5, 6, 10, 13, 14, 15, 16, 19, 20, 21, 22, 23, 24, 25, 26, 27, 28, 29, 30, 31, 32, 33, 34, 35, 36, 37, 38, 39, 40, 41, 42, 43, 44, 45] (fun s2 => [(10, .raw (.int .i64 s2))]) (fun s2 => ⟨[(128, (Enc.cells (m : RSet)))], [], [], 0, false⟩) ?_ ?_
 exact wm_of (bl 46 401295) (by kernel_rfl) (by kernel_rfl)
 intro s2 p2 h
 refine w_start (by dsimp only [setAll, topAll, List.foldl, List.set]) rfl ?_
 refine w_seq ?_
 refine w_seq (w_region ?_)
 refine w_o (a := .raw (.int .i64 s2)) ?_
 refine w_o (a := .list (List.length (x2 : List (List UInt8))) (Enc.cellsL (x2 : List (List UInt8))) .none) ?_
 refine w_o (a := .raw (.int .i64 (List.length x2 : Int))) ?_
 refine w_o (a := .raw (.bool (decide (s2 < (List.length x2 : Int))))) ?_
 refine bif_e h (fun hc2 h => ?_) (fun hc2 h => ?_)
 refine w_condT hc2 rfl ?_
 refine w_seq ?_
 refine w_block ?_
 refine w_seq (w_region ?_)
 refine w_o (a := .raw (.string (bs s))) ?_
 refine w_o (a := .list (List.length (x2 : List (List UInt8))) (Enc.cellsL (x2 : List (List UInt8))) .none) ?_
 refine w_o (a := .raw (.int .i64 s2)) ?_
 obtain ⟨g3, h⟩ := chk_e h
 refine w_o (a := .iptr (Enc.cells (ix x2 s2) ++ Enc.cellsL (List.drop (Int.toNat s2 + 1) x2))) (h := op_q (q_idx (α := (List UInt8)) (l := x2) g3 rfl rfl rfl rfl rfl)) ?_
 refine w_o (a := .raw (.string (bs (ix x2 s2)))) ?_
 obtain ⟨x3, hx3, h⟩ := bindE_e h
 refine w_callc (args' := [.raw (.string (bs s)), .raw (.string (bs (ix x2 s2)))]) (r := .raw (.bool x3)) (rbegins_sh s (ix x2 s2) x3 hx3) rfl rfl (stripL_cons rfl (stripL_cons rfl rfl)) (by kernel_rfl) (by dsimp only [aput, List.set]) ?_
 refine bif_e h (fun hc3 h => ?_) (fun hc3 h => ?_)
 refine w_condT hc3 rfl ?_
 refine w_seq ?_
 refine w_draw (k0 := 0) (id := 10) 10 (by kernel_rfl) (by kernel_rfl) ?_
 refine h_o (a := .list (List.length (x1 : List UInt8)) (Enc.cellsL (x1 : List UInt8)) .none) ?_
 refine h_o (a := .raw (.int .i64 s1)) ?_
 obtain ⟨g4, h⟩ := chk_e h
 refine h_o (a := .iptr (Enc.cells (ix x1 s1) ++ Enc.cellsL (List.drop (Int.toNat s1 + 1) x1))) (h := q_idx (α := UInt8) (l := x1) g4 rfl rfl rfl rfl rfl) ?_
 refine h_o (a := .raw (.int .u8 ((((ix x1 s1)).toNat : Nat) : Int))) ?_
 refine h_o (a := .list (List.length (x2 : List (List UInt8))) (Enc.cellsL (x2 : List (List UInt8))) .none) ?_
 refine h_o (a := .raw (.int .i64 s2)) ?_
 obtain ⟨g5, h⟩ := chk_e h
 refine h_o (a := .iptr (Enc.cells (ix x2 s2) ++ Enc.cellsL (List.drop (Int.toNat s2 + 1) x2))) (h := q_idx (α := (List UInt8)) (l := x2) g5 rfl rfl rfl rfl rfl) ?_
 refine h_o (a := .raw (.string (bs (ix x2 s2)))) ?_
 refine h_o (a := .raw (.int .i64 (List.length (ix x2 s2) : Int))) (h := q_lenS rfl rfl rfl) ?_
 refine h_o (a := .raw (.int .u8 ((((ix x1 s1)).toNat : Nat) : Int))) ?_
 refine h_end ?_
 refine w_o (a := .raw (.int .i64 (List.length (ix x2 s2) : Int))) ?_
 refine w_o (a := .raw (.int .i64 0)) ?_
 refine loop_exit h (fun h => ?_)
 replace h := cut_inr h hr2
 refine loop_exit h (fun h => ?_)
 replace h := cut_inr h hr1
 exact end_pureF (fun (r : (Int × Int × Int)) => (.tup [.raw (.int .u8 r.1), .raw (.int .i64 r.2.1), .raw (.int .i64 r.2.2)] : AV)) h (a := .tup [.raw (.int .u8 ((((ix x1 s1)).toNat : Nat) : Int)), .raw (.int .i64 (List.length (ix x2 s2) : Int)), .raw (.int .i64 0)]) rfl (show okTrimL _ _ = true from (by kernel_rfl)) (show AV.tup (stripL _) = _ from congrArg AV.tup (stripL_cons rfl (stripL_cons rfl (stripL_cons rfl rfl))))
 refine w_condF hc3 rfl ?_
 refine w_region (k0 := 0) (id := 8) ?_
 refine w_o (a := .raw (.int .i64 s2)) ?_
 obtain ⟨g6, h⟩ := chk_e h
 refine w_o (a := .raw (.int .i64 (s2 + 1))) (h := op_q (q_add rfl rfl rfl rfl g6.1 g6.2)) ?_
 refine w_o (a := .raw (.int .i64 (s2 + 1))) ?_
 refine loop_next (p := p2) ((s2 + 1)) h ?_
 exact wm_of (bl 46 401295) (by kernel_rfl) (by kernel_rfl)
 refine w_condF hc2 rfl ?_
 refine loop_exit h (fun h => ?_)
 refine cut_done (o := or2) () h ?_
 exact wm_of (bl 46 399759) (by kernel_rfl) (by kernel_rfl)
 intro j2 h
 refine w_start (by dsimp only [setAll, topAll, List.foldl, List.set]) rfl ?_
 refine w_region (k0 := 0) (id := 4) ?_
 refine w_o (a := .raw (.int .i64 s1)) ?_
 obtain ⟨g7, h⟩ := chk_e h
 refine w_o (a := .raw (.int .i64 (s1 + 1))) (h := op_q (q_add rfl rfl rfl rfl g7.1 g7.2)) ?_
 refine w_o (a := .raw (.int .i64 (s1 + 1))) ?_
 refine loop_next (p := p1) ((s1 + 1)) h ?_
 exact wm_of (bl 46 393) (by kernel_rfl) (by kernel_rfl)
 refine w_condF hc1 rfl ?_
 refine loop_exit h (fun h => ?_)
 refine cut_done (o := or1) () h ?_
 exact wm_of (bl 46 0) (by kernel_rfl) (by kernel_rfl)
 intro j1 h
 refine w_start (by dsimp only [setAll, topAll, List.foldl, List.set]) rfl ?_
 refine w_seq (w_region ?_)
 refine w_o (a := .raw (.int .u8 0)) ?_
 refine w_o (a := .raw (.int .i64 0)) ?_
 refine w_o (a := .raw (.int .i64 20)) ?_
 exact end_pureF (fun (r : (Int × Int × Int)) => (.tup [.raw (.int .u8 r.1), .raw (.int .i64 r.2.1), .raw (.int .i64 r.2.2)] : AV)) h (a := .tup [.raw (.int .u8 0), .raw (.int .i64 0), .raw (.int .i64 20)]) rfl (show okTrimL _ _ = true from (by kernel_rfl)) (show AV.tup (stripL _) = _ from congrArg AV.tup (stripL_cons rfl (stripL_cons rfl (stripL_cons rfl rfl))))
def F_rbytes (fuel : Nat) (b : (List UInt8)) (m : RSet) : Option (List UInt8) :=
  (cutE (τ := (List UInt8)) (loopE (β := (List UInt8) × Int) (fun s1 => (bif (decide (s1.2 < (List.length b : Int))) then (chk (0 ≤ s1.2 ∧ s1.2 < (List.length b : Int)) (letE (ix b s1.2) (fun x1 => (chk (m = RSet.mk false) (letE (byteP x1) (fun x2 => (chk ((List.length s1.1 + List.length x2) * 1 ≤ 140737488355328) (chk (-9223372036854775808 ≤ (s1.2 + 1) ∧ (s1.2 + 1) < 9223372036854775808) (some (Sum.inl ((s1.1 ++ x2), (s1.2 + 1)))))))))))) else (some (Sum.inr (Sum.inl (s1.1)))))) fuel (([] : (List UInt8)), 0)) (fun j1 => (some j1)))
theorem ent79 : Ent Tryz.prog 79 := enters_of Tryz.func79 (by kernel_rfl) rfl
set_option maxRecDepth 100000 in
set_option maxHeartbeats 4000000 in
theorem rbytes_sh (fuel : Nat) (b : (List UInt8)) (m : RSet) (r : (List UInt8)) (h : F_rbytes fuel b m = some r) : Pure (ITP Tryz.prog) Tryz.prog 79 [.raw (.string (bs b)), .agg (Enc.cells (m : RSet))] (.raw (.string (bs r))) := by
 obtain ⟨d, hd⟩ : ∃ d, Tryz.f79.body = some d := ⟨_, rfl⟩
 refine pure_of mix Tryz.func79 hd ent79 ?_
 cases hd
 unfold F_rbytes at h
 refine w_start (by dsimp only [abeginS, Tryz.f79, List.length_cons, List.length_nil, Nat.zero_add, Nat.reduceAdd, Nat.reduceSub, List.replicate, List.cons_append, List.nil_append]) (by dsimp only [St.empty]) ?_
 refine w_seq (w_region ?_)
 refine w_om (a := .ptr 0 0) (σ'' := ⟨[(128, (Enc.cells (m : RSet)))], [], [], 0, false⟩) ?_
 refine w_o (a := .raw (.string (bs ([] : List UInt8)))) ?_
 refine w_seq (w_region ?_)
 refine w_o (a := .list 0 [] .full) ?_
 refine w_cutF h [0, 1, 2, 3, 4, 5, 6, 7, 8, 9, 10, 11, 12, 13, 14, 15, 16, 17, 18, 19, 20, 21] (fun j1 => [(5, (ownAV (List.length (j1 : List UInt8)) (Enc.cellsL (j1 : List UInt8))))]) (fun j1 => (ownSt [(128, (Enc.cells (m : RSet)))] 5 (List.length (j1 : List UInt8)) 1)) ?_ ?_
 intro or1 h hr1
 refine w_seq (w_region ?_)
 refine w_o (a := .raw (.int .i64 0)) ?_
 refine w_block ?_
 refine w_loopF h [1, 2, 4, 5, 6, 7, 8, 9, 10, 11, 12, 13, 14, 15, 16, 17, 18, 19, 20, 21] (fun s1 => [(5, (ownAV (List.length (s1.1 : List UInt8)) (Enc.cellsL (s1.1 : List UInt8)))), (6, .raw (.int .i64 s1.2))]) (fun s1 => (ownSt [(128, (Enc.cells (m : RSet)))] 5 (List.length (s1.1 : List UInt8)) 1)) ?_ ?_
 exact wm_of (bl 22 105) (by kernel_rfl) (by kernel_rfl)
 intro s1 p1 h
 refine w_start (by dsimp only [setAll, topAll, List.foldl, List.set]) rfl ?_
 refine w_seq ?_
 refine w_seq (w_region ?_)
 refine w_o (a := .raw (.int .i64 s1.2)) ?_
 refine w_o (a := .raw (.string (bs b))) ?_
 refine w_o (a := .raw (.int .i64 (List.length b : Int))) (h := op_q (q_lenS rfl rfl rfl)) ?_
 refine w_o (a := .raw (.bool (decide (s1.2 < (List.length b : Int))))) ?_
 refine bif_e h (fun hc1 h => ?_) (fun hc1 h => ?_)
 refine w_condT hc1 rfl ?_
 refine w_seq ?_
 refine w_block ?_
 refine w_draw (k0 := 0) (id := 5) 6 (by kernel_rfl) (by kernel_rfl) ?_
 refine h_o (a := (ownAV (List.length (s1.1 : List UInt8)) (Enc.cellsL (s1.1 : List UInt8)))) ?_
 refine h_o (a := .raw (.string (bs b))) ?_
 refine h_o (a := .raw (.int .i64 s1.2)) ?_
 obtain ⟨g1, h⟩ := chk_e h
 obtain ⟨x1, hx1, h⟩ := letE_e h
 refine h_o (a := .raw (.int .u8 (((x1).toNat : Nat) : Int))) (h := by rw [← hx1]; exact (q_sidx (l := b) (n := s1.2) g1 rfl rfl rfl rfl)) ?_
 refine h_o (a := .agg (Enc.cells (m : RSet))) (h := q_loadArr m (by decide) rfl rfl rfl) ?_
 obtain ⟨g2, h⟩ := chk_e h
 obtain ⟨x2, hx2, h⟩ := letE_e h
 refine h_call (args' := [.raw (.int .u8 (((x1).toNat : Nat) : Int)), .agg (Enc.cells (m : RSet))]) (r := .raw (.string (bs x2))) (by rw [← hx2]; exact (by rw [g2]; exact rbyte_pure x1)) rfl rfl rfl (stripL_cons rfl (stripL_cons (strip_c (clo_agg (Enc.clo _))) rfl)) (okTrimL_cons rfl (okTrimL_cons (okTrim_clo _ _ (clo_agg (Enc.clo _))) rfl)) (by dsimp only [aput, List.set]) ?_
 refine h_end ?_
 obtain ⟨g3, h⟩ := chk_e h
 refine w_opm (a := (ownAV (List.length ((s1.1 ++ x2) : List UInt8)) (Enc.cellsL ((s1.1 ++ x2) : List UInt8)))) (σ'' := (ownSt [(128, (Enc.cells (m : RSet)))] 5 (List.length ((s1.1 ++ x2) : List UInt8)) 1)) rfl rfl rfl (op_appendS rfl rfl rfl rfl (by decide) (append_ownS (bx := [(128, (Enc.cells (m : RSet)))]) (a := s1.1) (b := x2) g3 rfl rfl rfl rfl rfl rfl rfl)) (by dsimp only [aput, List.set]) rfl ?_
 refine w_o (a := (ownAV (List.length ((s1.1 ++ x2) : List UInt8)) (Enc.cellsL ((s1.1 ++ x2) : List UInt8)))) ?_
 refine w_region (k0 := 0) (id := 4) ?_
 refine w_o (a := .raw (.int .i64 s1.2)) ?_
 obtain ⟨g4, h⟩ := chk_e h
 refine w_o (a := .raw (.int .i64 (s1.2 + 1))) (h := op_q (q_add rfl rfl rfl rfl g4.1 g4.2)) ?_
 refine w_o (a := .raw (.int .i64 (s1.2 + 1))) ?_
 refine loop_next (p := p1) ((s1.1 ++ x2), (s1.2 + 1)) h ?_
 exact wm_of (bl 22 105) (by kernel_rfl) (by kernel_rfl)
 refine w_condF hc1 rfl ?_
 refine loop_exit h (fun h => ?_)
 refine cut_done (o := or1) (s1.1) h ?_
 exact wm_of (bl 22 32) (by kernel_rfl) (by kernel_rfl)
 intro j1 h
 refine w_start (by dsimp only [setAll, topAll, List.foldl, List.set]) rfl ?_
 refine w_seq (w_region ?_)
 refine w_o (a := (ownAV (List.length (j1 : List UInt8)) (Enc.cellsL (j1 : List UInt8)))) ?_
 refine w_o (a := .raw (.string (bs j1))) (h := op_q (q_bstrO (l := j1) rfl rfl ⟨rfl, rfl⟩ rfl)) ?_
 refine w_o (a := .raw (.string (bs j1))) ?_
 exact end_pureF (fun (r : (List UInt8)) => (.raw (.string (bs r)) : AV)) h (a := .raw (.string (bs j1))) rfl rfl rfl
def F_runquote (fuel : Nat) (s : (List UInt8)) : Option ((List UInt8) × Int × Int) :=
  (bif ((List.length s : Int) == 0) then (some (([] : List UInt8), 0, 21)) else (chk (0 ≤ (0 : Int) ∧ (0 : Int) < (List.length s : Int)) (letE (ix s (0 : Int)) (fun x1 => (bif ((((x1).toNat : Nat) : Int) != 34) then (some (([] : List UInt8), 0, 21)) else (cutE (τ := (List UInt8) × Int) (loopE (β := (List UInt8) × Int) (fun s1 => (bif (decide (s1.2 < (List.length s : Int))) then (chk (0 ≤ s1.2 ∧ s1.2 < (List.length s : Int)) (letE (ix s s1.2) (fun x2 => (bif ((((x2).toNat : Nat) : Int) != 34) then (chk (0 ≤ s1.2 ∧ s1.2 ≤ (List.length s : Int) ∧ (List.length s : Int) ≤ (List.length s : Int)) (letE (sub s s1.2 (List.length s : Int)) (fun x3 => (bindE (F_rreadbyte fuel x3 (RSet.mk false)) (fun x4 => (bif (x4.2.2 != 0) then (some (Sum.inr (Sum.inr (([] : List UInt8), s1.2, x4.2.2)))) else (chk (0 ≤ x4.1 ∧ x4.1 < 256) (chk ((List.length s1.1 + List.length ([(u8of x4.1)] : List UInt8)) * 1 ≤ 140737488355328) (chk (-9223372036854775808 ≤ (s1.2 + x4.2.1) ∧ (s1.2 + x4.2.1) < 9223372036854775808) (some (Sum.inl ((s1.1 ++ ([(u8of x4.1)] : List UInt8)), (s1.2 + x4.2.1))))))))))))) else (some (Sum.inr (Sum.inl (s1.1, s1.2)))))))) else (some (Sum.inr (Sum.inl (s1.1, s1.2)))))) fuel (([] : (List UInt8)), 1)) (fun j1 => (bif (j1.2 == (List.length s : Int)) then (some (([] : List UInt8), j1.2, 21)) else (chk (-9223372036854775808 ≤ (j1.2 + 1) ∧ (j1.2 + 1) < 9223372036854775808) (some (j1.1, (j1.2 + 1), 0)))))))))))
theorem ent60 : Ent Tryz.prog 60 := enters_of Tryz.func60 (by kernel_rfl) rfl
set_option maxRecDepth 100000 in
set_option maxHeartbeats 4000000 in
theorem runquote_sh (fuel : Nat) (s : (List UInt8)) (r : ((List UInt8) × Int × Int)) (h : F_runquote fuel s = some r) : Pure (ITP Tryz.prog) Tryz.prog 60 [.raw (.string (bs s))] (.tup [.raw (.string (bs r.1)), .raw (.int .i64 r.2.1), .raw (.int .i64 r.2.2)]) := by
 obtain ⟨d, hd⟩ : ∃ d, Tryz.f60.body = some d := ⟨_, rfl⟩
 refine pure_of mix Tryz.func60 hd ent60 ?_
 cases hd
 unfold F_runquote at h
 refine w_start (by dsimp only [abeginS, Tryz.f60, List.length_cons, List.length_nil, Nat.zero_add, Nat.reduceAdd, Nat.reduceSub, List.replicate, List.cons_append, List.nil_append]) (by dsimp only [St.empty]) ?_
 refine w_seq (w_region ?_)
 refine w_o (a := .raw (.string (bs ([] : List UInt8)))) ?_
 refine w_o (a := .raw (.int .i64 0)) ?_
 refine w_o (a := .raw (.int .i64 0)) ?_
 refine w_seq ?_
 refine w_seq (w_region ?_)
 refine w_o (a := .raw (.string (bs s))) ?_
 refine w_o (a := .raw (.int .i64 (List.length s : Int))) (h := op_q (q_lenS rfl rfl rfl)) ?_
 refine w_o (a := .raw (.bool ((List.length s : Int) == 0))) ?_
 refine bif_e h (fun hc1 h => ?_) (fun hc1 h => ?_)
 refine w_o (a := .raw (.bool true)) (h := op_q (q_bool rfl hc1)) ?_
 refine w_po ?_
 refine w_po ?_
 refine w_po ?_
 refine w_o (a := .raw (.bool true)) ?_
 refine w_true rfl ?_
 refine w_seq (w_region ?_)
 refine w_o (a := .raw (.string (bs ([] : List UInt8)))) ?_
 refine w_o (a := .raw (.int .i64 0)) ?_
 refine w_o (a := .raw (.int .i64 21)) ?_
 exact end_pureF (fun (r : ((List UInt8) × Int × Int)) => (.tup [.raw (.string (bs r.1)), .raw (.int .i64 r.2.1), .raw (.int .i64 r.2.2)] : AV)) h (a := .tup [.raw (.string (bs ([] : List UInt8))), .raw (.int .i64 0), .raw (.int .i64 21)]) rfl (show okTrimL _ _ = true from (by kernel_rfl)) (show AV.tup (stripL _) = _ from congrArg AV.tup (stripL_cons rfl (stripL_cons rfl (stripL_cons rfl rfl))))
 refine w_o (a := .raw (.bool false)) (h := op_q (q_bool rfl hc1)) ?_
 refine w_met rfl rfl ?_
 refine w_o (a := .raw (.string (bs s))) ?_
 refine w_met rfl rfl ?_
 obtain ⟨g1, h⟩ := chk_e h
 obtain ⟨x1, hx1, h⟩ := letE_e h
 refine w_o (a := .raw (.int .u8 (((x1).toNat : Nat) : Int))) (h := op_q (by rw [← hx1]; exact (q_sidx (l := s) (n := (0 : Int)) g1 rfl rfl rfl rfl))) ?_
 refine w_met rfl rfl ?_
 refine w_o (a := .raw (.bool ((((x1).toNat : Nat) : Int) != 34))) ?_
 refine w_o (a := .raw (.bool ((((x1).toNat : Nat) : Int) != 34))) ?_
 refine bif_e h (fun hc2 h => ?_) (fun hc2 h => ?_)
 refine w_condT hc2 rfl ?_
 refine w_seq (w_region ?_)
 refine w_o (a := .raw (.string (bs ([] : List UInt8)))) ?_
 refine w_o (a := .raw (.int .i64 0)) ?_
 refine w_o (a := .raw (.int .i64 21)) ?_
 exact end_pureF (fun (r : ((List UInt8) × Int × Int)) => (.tup [.raw (.string (bs r.1)), .raw (.int .i64 r.2.1), .raw (.int .i64 r.2.2)] : AV)) h (a := .tup [.raw (.string (bs ([] : List UInt8))), .raw (.int .i64 0), .raw (.int .i64 21)]) rfl (show okTrimL _ _ = true from (by kernel_rfl)) (show AV.tup (stripL _) = _ from congrArg AV.tup (stripL_cons rfl (stripL_cons rfl (stripL_cons rfl rfl))))
 refine w_condF hc2 rfl ?_
 refine w_seq (w_region ?_)
 refine w_o (a := .list (List.length (([34] : List UInt8) : List UInt8)) (Enc.cellsL (([34] : List UInt8) : List UInt8)) .full) (h := op_q (q_lit (α := UInt8) (l := ([34] : List UInt8)) (cs := [.raw (.int .u8 34)]) rfl rfl)) ?_
 refine w_callc (args' := [.list (List.length (([34] : List UInt8) : List UInt8)) (Enc.cellsL (([34] : List UInt8) : List UInt8)) .none]) (r := .agg (Enc.cells ((RSet.mk false) : RSet))) rof_pure rfl rfl (stripL_cons (strip_l (Enc.cloL _)) rfl) (okTrimL_cons (okTrim_l (Enc.cloL _)) rfl) (by dsimp only [aput, List.set]) ?_
 refine w_opm (a := .ptr 0 0) (σ'' := ⟨[(128, (Enc.cells ((RSet.mk true) : RSet)))], [], [], 0, false⟩) rfl rfl rfl (op_allocA (by decide) rfl) (by dsimp only [aput, List.set]) rfl ?_
 refine w_om (σ'' := ⟨[(128, (Enc.cells ((RSet.mk false) : RSet)))], [], [], 0, false⟩) (h := op_storeW (n := 256) rfl rfl rfl rfl rfl (Enc.len _) rfl (Enc.len _) (by decide)) ?_
 refine w_seq (w_region ?_)
 refine w_o (a := .list 0 [] .full) ?_
 refine w_seq (w_region ?_)
 refine w_o (a := .raw (.int .i64 1)) ?_
 refine w_cutF h [1, 2, 3, 4, 5, 6, 7, 8, 9, 10, 11, 12, 13, 14, 15, 16, 17, 18, 19, 20, 21, 22, 23, 24, 25, 26, 27, 28, 29, 30, 31, 32, 33, 34, 35, 36, 37, 38, 39, 40, 41, 42, 43, 44, 45, 46, 47, 48, 49, 50, 51, 52, 53, 54, 55, 56, 57, 58, 59] (fun j1 => [(6, (ownAV (List.length (j1.1 : List UInt8)) (Enc.cellsL (j1.1 : List UInt8)))), (7, .raw (.int .i64 j1.2))]) (fun j1 => (ownSt [(128, (Enc.cells ((RSet.mk false) : RSet)))] 5 (List.length (j1.1 : List UInt8)) 1)) ?_ ?_
 intro or1 h hr1
 refine w_block ?_
 refine w_loopF h [1, 2, 3, 4, 6, 7, 8, 9, 10, 11, 12, 13, 14, 15, 16, 17, 18, 19, 20, 21, 22, 23, 24, 25, 26, 27, 28, 29, 30, 31, 32, 33, 34, 35, 36, 37, 38, 39, 40, 41, 42, 43, 44, 45, 46, 47, 48, 49, 50, 51, 52, 53, 54, 55, 56, 57, 58, 59] (fun s1 => [(6, (ownAV (List.length (s1.1 : List UInt8)) (Enc.cellsL (s1.1 : List UInt8)))), (7, .raw (.int .i64 s1.2))]) (fun s1 => (ownSt [(128, (Enc.cells ((RSet.mk false) : RSet)))] 5 (List.length (s1.1 : List UInt8)) 1)) ?_ ?_
 exact wm_of (bl 60 225) (by kernel_rfl) (by kernel_rfl)
 intro s1 p1 h
 refine w_start (by dsimp only [setAll, topAll, List.foldl, List.set]) rfl ?_
 refine w_seq ?_
 refine w_seq (w_region ?_)
 refine w_o (a := .raw (.int .i64 s1.2)) ?_
 refine w_o (a := .raw (.string (bs s))) ?_
 refine w_o (a := .raw (.int .i64 (List.length s : Int))) (h := op_q (q_lenS rfl rfl rfl)) ?_
 refine w_o (a := .raw (.bool (decide (s1.2 < (List.length s : Int))))) ?_
 refine bif_e h (fun hc3 h => ?_) (fun hc3 h => ?_)
 refine w_o (a := .raw (.bool true)) (h := op_q (q_bool rfl hc3)) ?_
 refine w_met rfl rfl ?_
 refine w_o (a := .raw (.string (bs s))) ?_
 refine w_met rfl rfl ?_
 refine w_o (a := .raw (.int .i64 s1.2)) ?_
 refine w_met rfl rfl ?_
 obtain ⟨g2, h⟩ := chk_e h
 obtain ⟨x2, hx2, h⟩ := letE_e h
 refine w_o (a := .raw (.int .u8 (((x2).toNat : Nat) : Int))) (h := op_q (by rw [← hx2]; exact (q_sidx (l := s) (n := s1.2) g2 rfl rfl rfl rfl))) ?_
 refine w_met rfl rfl ?_
 refine w_o (a := .raw (.bool ((((x2).toNat : Nat) : Int) != 34))) ?_
 refine w_o (a := .raw (.bool ((((x2).toNat : Nat) : Int) != 34))) ?_
 refine bif_e h (fun hc4 h => ?_) (fun hc4 h => ?_)
 refine w_condT hc4 rfl ?_
 refine w_block ?_
 refine w_seq ?_
 refine w_draw (k0 := 0) (id := 7) 11 (by kernel_rfl) (by kernel_rfl) ?_
 refine h_o (a := .raw (.string (bs s))) ?_
 refine h_o (a := .raw (.int .i64 s1.2)) ?_
 obtain ⟨g3, h⟩ := chk_e h
 obtain ⟨x3, hx3, h⟩ := letE_e h
 refine h_o (a := .raw (.string (bs x3))) (h := by rw [← hx3]; exact (q_sslL_ (l := s) g3 rfl rfl rfl rfl)) ?_
 refine h_o (a := .agg (Enc.cells ((RSet.mk false) : RSet))) (h := q_loadArr (RSet.mk false) (by decide) rfl rfl rfl) ?_
 obtain ⟨x4, hx4, h⟩ := bindE_e h
 refine h_call (args' := [.raw (.string (bs x3)), .agg (Enc.cells ((RSet.mk false) : RSet))]) (r := .tup [.raw (.int .u8 x4.1), .raw (.int .i64 x4.2.1), .raw (.int .i64 x4.2.2)]) (rreadbyte_sh fuel x3 (RSet.mk false) x4 hx4) rfl rfl rfl (stripL_cons rfl (stripL_cons (strip_c (clo_agg (Enc.clo _))) rfl)) (okTrimL_cons rfl (okTrimL_cons (okTrim_clo _ _ (clo_agg (Enc.clo _))) rfl)) (by dsimp only [aput, List.set]) ?_
 refine h_o (a := .tup [.raw (.int .u8 x4.1), .raw (.int .i64 x4.2.1), .raw (.int .i64 x4.2.2)]) ?_
 refine h_o (a := .raw (.int .u8 x4.1)) ?_
 refine h_o (a := .raw (.int .i64 x4.2.1)) ?_
 refine h_o (a := .raw (.int .i64 x4.2.2)) ?_
 refine h_o (a := .raw (.int .u8 x4.1)) ?_
 refine h_o (a := .raw (.int .i64 x4.2.1)) ?_
 refine h_end ?_
 refine w_o (a := .raw (.int .i64 x4.2.2)) ?_
 refine w_seq ?_
 refine w_seq (w_region ?_)
 refine w_o (a := .raw (.int .i64 x4.2.2)) ?_
 refine w_o (a := .raw (.bool (x4.2.2 != 0))) ?_
 refine bif_e h (fun hc5 h => ?_) (fun hc5 h => ?_)
 refine w_condT hc5 rfl ?_
 refine w_seq (w_region ?_)
 refine w_o (a := .raw (.int .i64 s1.2)) ?_
 refine w_o (a := .raw (.int .i64 x4.2.2)) ?_
 refine w_o (a := .raw (.string (bs ([] : List UInt8)))) ?_
 refine w_o (a := .raw (.int .i64 s1.2)) ?_
 refine w_o (a := .raw (.int .i64 x4.2.2)) ?_
 refine loop_exit h (fun h => ?_)
 replace h := cut_inr h hr1
 exact end_pureF (fun (r : ((List UInt8) × Int × Int)) => (.tup [.raw (.string (bs r.1)), .raw (.int .i64 r.2.1), .raw (.int .i64 r.2.2)] : AV)) h (a := .tup [.raw (.string (bs ([] : List UInt8))), .raw (.int .i64 s1.2), .raw (.int .i64 x4.2.2)]) rfl (show okTrimL _ _ = true from (by kernel_rfl)) (show AV.tup (stripL _) = _ from congrArg AV.tup (stripL_cons rfl (stripL_cons rfl (stripL_cons rfl rfl))))
 refine w_condF hc5 rfl ?_
 refine w_seq (w_region ?_)
 refine w_o (a := (ownAV (List.length (s1.1 : List UInt8)) (Enc.cellsL (s1.1 : List UInt8)))) ?_
 refine w_o (a := .raw (.int .u8 x4.1)) ?_
 obtain ⟨g4, h⟩ := chk_e h
 refine w_o (a := .list (List.length (([(u8of x4.1)] : List UInt8) : List UInt8)) (Enc.cellsL (([(u8of x4.1)] : List UInt8) : List UInt8)) .full) (h := op_q (q_lit (α := UInt8) (l := ([(u8of x4.1)] : List UInt8)) (cs := [.raw (.int .u8 x4.1)]) rfl (by show List.map _ _ = _; simp only [List.map_cons, List.map_nil, u8c g4]))) ?_
 obtain ⟨g5, h⟩ := chk_e h
 refine w_opm (a := (ownAV (List.length ((s1.1 ++ ([(u8of x4.1)] : List UInt8)) : List UInt8)) (Enc.cellsL ((s1.1 ++ ([(u8of x4.1)] : List UInt8)) : List UInt8)))) (σ'' := (ownSt [(128, (Enc.cells ((RSet.mk false) : RSet)))] 5 (List.length ((s1.1 ++ ([(u8of x4.1)] : List UInt8)) : List UInt8)) 1)) rfl rfl rfl (op_append rfl rfl rfl rfl (append_ownE (α := UInt8) (bs := [(128, (Enc.cells ((RSet.mk false) : RSet)))]) (a := s1.1) (b := ([(u8of x4.1)] : List UInt8)) g5 rfl rfl rfl rfl rfl ⟨rfl, by decide⟩)) (by dsimp only [aput, List.set]) rfl ?_
 refine w_o (a := (ownAV (List.length ((s1.1 ++ ([(u8of x4.1)] : List UInt8)) : List UInt8)) (Enc.cellsL ((s1.1 ++ ([(u8of x4.1)] : List UInt8)) : List UInt8)))) ?_
 refine w_region (k0 := 0) (id := 11) ?_
 refine w_o (a := .raw (.int .i64 s1.2)) ?_
 refine w_o (a := .raw (.int .i64 x4.2.1)) ?_
 obtain ⟨g6, h⟩ := chk_e h
 refine w_o (a := .raw (.int .i64 (s1.2 + x4.2.1))) (h := op_q (q_add rfl rfl rfl rfl g6.1 g6.2)) ?_
 refine w_o (a := .raw (.int .i64 (s1.2 + x4.2.1))) ?_
 refine loop_next (p := p1) ((s1.1 ++ ([(u8of x4.1)] : List UInt8)), (s1.2 + x4.2.1)) h ?_
 exact wm_of (bl 60 225) (by kernel_rfl) (by kernel_rfl)
 refine w_condF hc4 rfl ?_
 refine loop_exit h (fun h => ?_)
 refine cut_done (o := or1) (s1.1, s1.2) h ?_
 exact wm_of (bl 60 193) (by kernel_rfl) (by kernel_rfl)
 refine w_o (a := .raw (.bool false)) (h := op_q (q_bool rfl hc3)) ?_
 refine w_po ?_
 refine w_po ?_
 refine w_po ?_
 refine w_po ?_
 refine w_o (a := .raw (.bool false)) ?_
 refine w_false rfl ?_
 refine loop_exit h (fun h => ?_)
 refine cut_done (o := or1) (s1.1, s1.2) h ?_
 exact wm_of (bl 60 193) (by kernel_rfl) (by kernel_rfl)
 intro j1 h
 refine w_start (by dsimp only [setAll, topAll, List.foldl, List.set]) rfl ?_
 refine w_seq ?_
 refine w_seq (w_region ?_)
 refine w_o (a := .raw (.int .i64 j1.2)) ?_
 refine w_o (a := .raw (.string (bs s))) ?_
 refine w_o (a := .raw (.int .i64 (List.length s : Int))) (h := op_q (q_lenS rfl rfl rfl)) ?_
 refine w_o (a := .raw (.bool (j1.2 == (List.length s : Int)))) ?_
 refine bif_e h (fun hc6 h => ?_) (fun hc6 h => ?_)
 refine w_condT hc6 rfl ?_
 refine w_seq (w_region ?_)
 refine w_o (a := .raw (.int .i64 j1.2)) ?_
 refine w_o (a := .raw (.string (bs ([] : List UInt8)))) ?_
 refine w_o (a := .raw (.int .i64 j1.2)) ?_
 refine w_o (a := .raw (.int .i64 21)) ?_
 exact end_pureF (fun (r : ((List UInt8) × Int × Int)) => (.tup [.raw (.string (bs r.1)), .raw (.int .i64 r.2.1), .raw (.int .i64 r.2.2)] : AV)) h (a := .tup [.raw (.string (bs ([] : List UInt8))), .raw (.int .i64 j1.2), .raw (.int .i64 21)]) rfl (show okTrimL _ _ = true from (by kernel_rfl)) (show AV.tup (stripL _) = _ from congrArg AV.tup (stripL_cons rfl (stripL_cons rfl (stripL_cons rfl rfl))))
 refine w_condF hc6 rfl ?_
 refine w_seq (w_region ?_)
 refine w_o (a := (ownAV (List.length (j1.1 : List UInt8)) (Enc.cellsL (j1.1 : List UInt8)))) ?_
 refine w_o (a := .raw (.string (bs j1.1))) (h := op_q (q_bstrO (l := j1.1) rfl rfl ⟨rfl, rfl⟩ rfl)) ?_
 refine w_o (a := .raw (.int .i64 j1.2)) ?_
 obtain ⟨g7, h⟩ := chk_e h
 refine w_o (a := .raw (.int .i64 (j1.2 + 1))) (h := op_q (q_add rfl rfl rfl rfl g7.1 g7.2)) ?_
 refine w_o (a := .raw (.string (bs j1.1))) ?_
 refine w_o (a := .raw (.int .i64 (j1.2 + 1))) ?_
 refine w_o (a := .raw (.int .i64 0)) ?_
 exact end_pureF (fun (r : ((List UInt8) × Int × Int)) => (.tup [.raw (.string (bs r.1)), .raw (.int .i64 r.2.1), .raw (.int .i64 r.2.2)] : AV)) h (a := .tup [.raw (.string (bs j1.1)), .raw (.int .i64 (j1.2 + 1)), .raw (.int .i64 0)]) rfl (show okTrimL _ _ = true from (by kernel_rfl)) (show AV.tup (stripL _) = _ from congrArg AV.tup (stripL_cons rfl (stripL_cons rfl (stripL_cons rfl rfl))))
def F_dec (m : Int) (n : Int) : Option (List UInt8) :=
  (bif (decide (n < 10)) then (chk (-9223372036854775808 ≤ (n + 1) ∧ (n + 1) < 9223372036854775808) (chk (0 ≤ n ∧ n ≤ (n + 1) ∧ (n + 1) ≤ (List.length ([48, 49, 50, 51, 52, 53, 54, 55, 56, 57] : List UInt8) : Int)) (letE (sub ([48, 49, 50, 51, 52, 53, 54, 55, 56, 57] : List UInt8) n (n + 1)) (fun x1 => (some x1))))) else (chk (0 ≤ (IntKind.i64.wrap (Int.tdiv n 10)) ∧ (IntKind.i64.wrap (Int.tdiv n 10)) < m) (letE (Lib.itoa (IntKind.i64.wrap (Int.tdiv n 10))) (fun x2 => (chk (-9223372036854775808 ≤ ((Int.tmod n 10) + 1) ∧ ((Int.tmod n 10) + 1) < 9223372036854775808) (chk (0 ≤ (Int.tmod n 10) ∧ (Int.tmod n 10) ≤ ((Int.tmod n 10) + 1) ∧ ((Int.tmod n 10) + 1) ≤ (List.length ([48, 49, 50, 51, 52, 53, 54, 55, 56, 57] : List UInt8) : Int)) (letE (sub ([48, 49, 50, 51, 52, 53, 54, 55, 56, 57] : List UInt8) (Int.tmod n 10) ((Int.tmod n 10) + 1)) (fun x3 => (chk (List.length x2 + List.length x3 ≤ 9223372036854775807) (some (x2 ++ x3)))))))))))
theorem ent80 : Ent Tryz.prog 80 := enters_of Tryz.func80 (by kernel_rfl) rfl
set_option maxRecDepth 100000 in
set_option maxHeartbeats 4000000 in
theorem dec_sh (m : Int) (n : Int) (r : (List UInt8)) (ih : ∀ x : Int, 0 ≤ x ∧ x < m → Pure (ITP Tryz.prog) Tryz.prog 80 [.raw (.int .i64 x)] (.raw (.string (bs (Lib.itoa x))))) (h : F_dec m n = some r) : Pure (ITP Tryz.prog) Tryz.prog 80 [.raw (.int .i64 n)] (.raw (.string (bs r))) := by
 obtain ⟨d, hd⟩ : ∃ d, Tryz.f80.body = some d := ⟨_, rfl⟩
 refine pure_of mix Tryz.func80 hd ent80 ?_
 cases hd
 unfold F_dec at h
 refine w_start (by dsimp only [abeginS, Tryz.f80, List.length_cons, List.length_nil, Nat.zero_add, Nat.reduceAdd, Nat.reduceSub, List.replicate, List.cons_append, List.nil_append]) (by dsimp only [St.empty]) ?_
 refine w_seq (w_region ?_)
 refine w_o (a := .raw (.string (bs ([] : List UInt8)))) ?_
 refine w_seq ?_
 refine w_seq (w_region ?_)
 refine w_o (a := .raw (.int .i64 n)) ?_
 refine w_o (a := .raw (.bool (decide (n < 10)))) ?_
 refine bif_e h (fun hc1 h => ?_) (fun hc1 h => ?_)
 refine w_condT hc1 rfl ?_
 refine w_seq (w_region ?_)
 refine w_o (a := .raw (.int .i64 n)) ?_
 refine w_o (a := .raw (.int .i64 n)) ?_
 obtain ⟨g1, h⟩ := chk_e h
 refine w_o (a := .raw (.int .i64 (n + 1))) (h := op_q (q_add rfl rfl rfl rfl g1.1 g1.2)) ?_
 obtain ⟨g2, h⟩ := chk_e h
 obtain ⟨x1, hx1, h⟩ := letE_e h
 refine w_o (a := .raw (.string (bs x1))) (h := op_q (by rw [← hx1]; exact (q_sslLH (l := ([48, 49, 50, 51, 52, 53, 54, 55, 56, 57] : List UInt8)) g2 rfl rfl rfl rfl rfl))) ?_
 refine w_o (a := .raw (.string (bs x1))) ?_
 exact end_pureF (fun (r : (List UInt8)) => (.raw (.string (bs r)) : AV)) h (a := .raw (.string (bs x1))) rfl rfl rfl
 refine w_condF hc1 rfl ?_
 refine w_seq ?_
 refine w_draw (k0 := 0) (id := 3) 9 (by kernel_rfl) (by kernel_rfl) ?_
 refine h_o (a := .raw (.int .i64 n)) ?_
 refine h_o (a := .raw (.int .i64 (IntKind.i64.wrap (Int.tdiv n 10)))) ?_
 obtain ⟨g3, h⟩ := chk_e h
 obtain ⟨x2, hx2, h⟩ := letE_e h
 refine h_call (args' := [.raw (.int .i64 (IntKind.i64.wrap (Int.tdiv n 10)))]) (r := .raw (.string (bs x2))) (by rw [← hx2]; exact (ih (IntKind.i64.wrap (Int.tdiv n 10)) g3)) rfl rfl rfl (stripL_cons rfl rfl) (by kernel_rfl) (by dsimp only [aput, List.set]) ?_
 refine h_o (a := .raw (.int .i64 n)) ?_
 refine h_o (a := .raw (.int .i64 (Int.tmod n 10))) ?_
 refine h_o (a := .raw (.int .i64 n)) ?_
 refine h_o (a := .raw (.int .i64 (Int.tmod n 10))) ?_
 obtain ⟨g4, h⟩ := chk_e h
 refine h_o (a := .raw (.int .i64 ((Int.tmod n 10) + 1))) (h := q_add rfl rfl rfl rfl g4.1 g4.2) ?_
 obtain ⟨g5, h⟩ := chk_e h
 obtain ⟨x3, hx3, h⟩ := letE_e h
 refine h_o (a := .raw (.string (bs x3))) (h := by rw [← hx3]; exact (q_sslLH (l := ([48, 49, 50, 51, 52, 53, 54, 55, 56, 57] : List UInt8)) g5 rfl rfl rfl rfl rfl)) ?_
 refine h_end ?_
 obtain ⟨g6, h⟩ := chk_e h
 refine w_o (a := .raw (.string (bs (x2 ++ x3)))) (h := op_q (q_stradd g6 rfl rfl rfl)) ?_
 refine w_o (a := .raw (.string (bs (x2 ++ x3)))) ?_
 exact end_pureF (fun (r : (List UInt8)) => (.raw (.string (bs r)) : AV)) h (a := .raw (.string (bs (x2 ++ x3)))) rfl rfl rfl
def F_rnums (fuel : Nat) (s : (List UInt8)) : Option (List Int) :=
  (cutE (τ := (List Int)) (loopE (β := (List Int) × Int) (fun s1 => (bif (decide (s1.2 < (List.length s : Int))) then (chk (0 ≤ s1.2 ∧ s1.2 < (List.length s : Int)) (letE (ix s s1.2) (fun x1 => (bif ((((x1).toNat : Nat) : Int) != 32) then (some (Sum.inr (Sum.inr ([] : (List Int))))) else (chk (-9223372036854775808 ≤ (s1.2 + 1) ∧ (s1.2 + 1) < 9223372036854775808) (cutE (τ := Int × Int) (loopE (β := Int × Int) (fun s2 => (bif (decide (s2.2 < (List.length s : Int))) then (chk (0 ≤ s2.2 ∧ s2.2 < (List.length s : Int)) (letE (ix s s2.2) (fun x2 => (bif (decide ((((x2).toNat : Nat) : Int) ≥ 48)) then (chk (0 ≤ s2.2 ∧ s2.2 < (List.length s : Int)) (letE (ix s s2.2) (fun x3 => (bif (decide ((((x3).toNat : Nat) : Int) ≤ 57)) then (chk (-9223372036854775808 ≤ (s1.2 + 11) ∧ (s1.2 + 11) < 9223372036854775808) (bif (decide (s2.2 < (s1.2 + 11))) then (chk (-9223372036854775808 ≤ (s2.1 * 10) ∧ (s2.1 * 10) < 9223372036854775808) (chk (0 ≤ s2.2 ∧ s2.2 < (List.length s : Int)) (letE (ix s s2.2) (fun x4 => (chk (-9223372036854775808 ≤ (((x4).toNat : Nat) : Int) ∧ (((x4).toNat : Nat) : Int) < 9223372036854775808) (chk (-9223372036854775808 ≤ ((s2.1 * 10) + (((x4).toNat : Nat) : Int)) ∧ ((s2.1 * 10) + (((x4).toNat : Nat) : Int)) < 9223372036854775808) (chk (-9223372036854775808 ≤ (((s2.1 * 10) + (((x4).toNat : Nat) : Int)) - 48) ∧ (((s2.1 * 10) + (((x4).toNat : Nat) : Int)) - 48) < 9223372036854775808) (chk (-9223372036854775808 ≤ (s2.2 + 1) ∧ (s2.2 + 1) < 9223372036854775808) (some (Sum.inl ((((s2.1 * 10) + (((x4).toNat : Nat) : Int)) - 48), (s2.2 + 1)))))))))))) else (some (Sum.inr (Sum.inl (s2.1, s2.2)))))) else (some (Sum.inr (Sum.inl (s2.1, s2.2)))))))) else (some (Sum.inr (Sum.inl (s2.1, s2.2)))))))) else (some (Sum.inr (Sum.inl (s2.1, s2.2)))))) fuel (0, (s1.2 + 1))) (fun j2 => (cutE (τ := Unit) (chk (-9223372036854775808 ≤ (s1.2 + 1) ∧ (s1.2 + 1) < 9223372036854775808) (bif (j2.2 == (s1.2 + 1)) then (some (Sum.inr (Sum.inr (Sum.inr ([] : (List Int)))))) else (chk (-9223372036854775808 ≤ (s1.2 + 1) ∧ (s1.2 + 1) < 9223372036854775808) (chk (0 ≤ (s1.2 + 1) ∧ (s1.2 + 1) < (List.length s : Int)) (letE (ix s (s1.2 + 1)) (fun x5 => (bif ((((x5).toNat : Nat) : Int) == 48) then (chk (-9223372036854775808 ≤ (s1.2 + 2) ∧ (s1.2 + 2) < 9223372036854775808) (bif (decide (j2.2 > (s1.2 + 2))) then (some (Sum.inr (Sum.inr (Sum.inr ([] : (List Int)))))) else (some (Sum.inl ())))) else (some (Sum.inl ()))))))))) (fun j3 => (chk ((List.length s1.1 + List.length [j2.1]) * 8 ≤ 140737488355328) (some (Sum.inl ((s1.1 ++ [j2.1]), j2.2))))))))))))) else (some (Sum.inr (Sum.inl (s1.1)))))) fuel (([] : (List Int)), 0)) (fun j1 => (some j1)))
theorem ent59 : Ent Tryz.prog 59 := enters_of Tryz.func59 (by kernel_rfl) rfl
set_option maxRecDepth 100000 in
set_option maxHeartbeats 4000000 in
theorem rnums_sh (fuel : Nat) (s : (List UInt8)) (r : (List Int)) (h : F_rnums fuel s = some r) : Pure (ITP Tryz.prog) Tryz.prog 59 [.raw (.string (bs s))] (.list (List.length (r : List Int)) (Enc.cellsL (r : List Int)) .none) := by
 obtain ⟨d, hd⟩ : ∃ d, Tryz.f59.body = some d := ⟨_, rfl⟩
 refine pure_of mix Tryz.func59 hd ent59 ?_
 cases hd
 unfold F_rnums at h
 refine w_start (by dsimp only [abeginS, Tryz.f59, List.length_cons, List.length_nil, Nat.zero_add, Nat.reduceAdd, Nat.reduceSub, List.replicate, List.cons_append, List.nil_append]) (by dsimp only [St.empty]) ?_
 refine w_seq (w_region ?_)
 refine w_o (a := .list 0 [] .full) ?_
 refine w_seq (w_region ?_)
 refine w_o (a := .list 0 [] .full) ?_
 refine w_cutF h [0, 1, 2, 3, 4, 5, 6, 7, 8, 9, 10, 11, 12, 13, 14, 15, 16, 17, 18, 19, 20, 21, 22, 23, 24, 25, 26, 27, 28, 29, 30, 31, 32, 33, 34, 35, 36, 37, 38, 39, 40, 41, 42, 43, 44, 45, 46, 47, 48, 49, 50, 51, 52, 53, 54, 55, 56, 57, 58, 59, 60, 61, 62, 63, 64, 65, 66, 67, 68, 69, 70, 71] (fun j1 => [(3, (ownAV (List.length (j1 : List Int)) (Enc.cellsL (j1 : List Int))))]) (fun j1 => (ownSt [] 3 (List.length (j1 : List Int)) 1)) ?_ ?_
 intro or1 h hr1
 refine w_seq (w_region ?_)
 refine w_o (a := .raw (.int .i64 0)) ?_
 refine w_block ?_
 refine w_loopF h [1, 2, 3, 4, 5, 6, 7, 8, 9, 10, 11, 12, 13, 14, 15, 16, 17, 18, 19, 20, 21, 22, 23, 24, 25, 26, 27, 28, 29, 30, 31, 32, 33, 34, 35, 36, 37, 38, 39, 40, 41, 42, 43, 44, 45, 46, 47, 48, 49, 50, 51, 52, 53, 54, 55, 56, 57, 58, 59, 60, 61, 62, 63, 64, 65, 66, 67, 68, 69, 70, 71] (fun s1 => [(3, (ownAV (List.length (s1.1 : List Int)) (Enc.cellsL (s1.1 : List Int)))), (4, .raw (.int .i64 s1.2))]) (fun s1 => (ownSt [] 3 (List.length (s1.1 : List Int)) 1)) ?_ ?_
 exact wm_of (bl 72 25) (by kernel_rfl) (by kernel_rfl)
 intro s1 p1 h
 refine w_start (by dsimp only [setAll, topAll, List.foldl, List.set]) rfl ?_
 refine w_seq ?_
 refine w_seq (w_region ?_)
 refine w_o (a := .raw (.int .i64 s1.2)) ?_
 refine w_o (a := .raw (.string (bs s))) ?_
 refine w_o (a := .raw (.int .i64 (List.length s : Int))) (h := op_q (q_lenS rfl rfl rfl)) ?_
 refine w_o (a := .raw (.bool (decide (s1.2 < (List.length s : Int))))) ?_
 refine bif_e h (fun hc1 h => ?_) (fun hc1 h => ?_)
 refine w_condT hc1 rfl ?_
 refine w_block ?_
 refine w_seq ?_
 refine w_seq (w_region ?_)
 refine w_o (a := .raw (.string (bs s))) ?_
 refine w_o (a := .raw (.int .i64 s1.2)) ?_
 obtain ⟨g1, h⟩ := chk_e h
 obtain ⟨x1, hx1, h⟩ := letE_e h
 refine w_o (a := .raw (.int .u8 (((x1).toNat : Nat) : Int))) (h := op_q (by rw [← hx1]; exact (q_sidx (l := s) (n := s1.2) g1 rfl rfl rfl rfl))) ?_
 refine w_o (a := .raw (.bool ((((x1).toNat : Nat) : Int) != 32))) ?_
 refine bif_e h (fun hc2 h => ?_) (fun hc2 h => ?_)
 refine w_condT hc2 rfl ?_
 refine w_seq (w_region ?_)
 refine w_o (a := .list 0 [] .full) ?_
 refine loop_exit h (fun h => ?_)
 replace h := cut_inr h hr1
 exact end_pureF (fun (r : (List Int)) => (.list (List.length (r : List Int)) (Enc.cellsL (r : List Int)) .none : AV)) h rfl rfl rfl
 refine w_condF hc2 rfl ?_
 refine w_seq (w_region ?_)
 refine w_o (a := .raw (.int .i64 s1.2)) ?_
 obtain ⟨g2, h⟩ := chk_e h
 refine w_o (a := .raw (.int .i64 (s1.2 + 1))) (h := op_q (q_add rfl rfl rfl rfl g2.1 g2.2)) ?_
 refine w_o (a := .raw (.int .i64 0)) ?_
 refine w_o (a := .raw (.int .i64 (s1.2 + 1))) ?_
 refine w_cutF h [5, 6, 7, 8, 9, 10, 11, 12, 13, 14, 15, 16, 17, 18, 19, 20, 21, 22, 23, 24, 25, 26, 27, 28, 29, 30, 31, 32, 33, 34, 35, 36, 37, 38, 39, 40, 41, 42, 43, 44, 45, 46, 47, 48] (fun j2 => [(5, .raw (.int .i64 j2.1)), (6, .raw (.int .i64 j2.2))]) (fun j2 => (ownSt [] 3 (List.length (s1.1 : List Int)) 1)) ?_ ?_
 intro or2 h hr2
 refine w_block ?_
 refine w_loopF h [5, 6, 7, 8, 9, 10, 11, 12, 13, 14, 15, 16, 17, 18, 19, 20, 21, 22, 23, 24, 25, 26, 27, 28, 29, 30, 31, 32, 33, 34, 35, 36, 37, 38, 39, 40, 41, 42, 43, 44, 45, 46, 47, 48] (fun s2 => [(5, .raw (.int .i64 s2.1)), (6, .raw (.int .i64 s2.2))]) (fun s2 => (ownSt [] 3 (List.length (s1.1 : List Int)) 1)) ?_ ?_
 exact wm_of (bl 72 4722365919919691792511) (by kernel_rfl) (by kernel_rfl)
 intro s2 p2 h
 refine w_start (by dsimp only [setAll, topAll, List.foldl, List.set]) rfl ?_
 refine w_seq ?_
 refine w_seq (w_region ?_)
 refine w_o (a := .raw (.int .i64 s2.2)) ?_
 refine w_o (a := .raw (.string (bs s))) ?_
 refine w_o (a := .raw (.int .i64 (List.length s : Int))) (h := op_q (q_lenS rfl rfl rfl)) ?_
 refine w_o (a := .raw (.bool (decide (s2.2 < (List.length s : Int))))) ?_
 refine bif_e h (fun hc3 h => ?_) (fun hc3 h => ?_)
 refine w_o (a := .raw (.bool true)) (h := op_q (q_bool rfl hc3)) ?_
 refine w_met rfl rfl ?_
 refine w_o (a := .raw (.string (bs s))) ?_
 refine w_met rfl rfl ?_
 refine w_o (a := .raw (.int .i64 s2.2)) ?_
 refine w_met rfl rfl ?_
 obtain ⟨g3, h⟩ := chk_e h
 obtain ⟨x2, hx2, h⟩ := letE_e h
 refine w_o (a := .raw (.int .u8 (((x2).toNat : Nat) : Int))) (h := op_q (by rw [← hx2]; exact (q_sidx (l := s) (n := s2.2) g3 rfl rfl rfl rfl))) ?_
 refine w_met rfl rfl ?_
 refine w_o (a := .raw (.bool (decide ((((x2).toNat : Nat) : Int) ≥ 48)))) ?_
 refine w_o (a := .raw (.bool (decide ((((x2).toNat : Nat) : Int) ≥ 48)))) ?_
 refine bif_e h (fun hc4 h => ?_) (fun hc4 h => ?_)
 refine w_o (a := .raw (.bool true)) (h := op_q (q_bool rfl hc4)) ?_
 refine w_met rfl rfl ?_
 refine w_o (a := .raw (.string (bs s))) ?_
 refine w_met rfl rfl ?_
 refine w_o (a := .raw (.int .i64 s2.2)) ?_
 refine w_met rfl rfl ?_
 obtain ⟨g4, h⟩ := chk_e h
 obtain ⟨x3, hx3, h⟩ := letE_e h
 refine w_o (a := .raw (.int .u8 (((x3).toNat : Nat) : Int))) (h := op_q (by rw [← hx3]; exact (q_sidx (l := s) (n := s2.2) g4 rfl rfl rfl rfl))) ?_
 refine w_met rfl rfl ?_
 refine w_o (a := .raw (.bool (decide ((((x3).toNat : Nat) : Int) ≤ 57)))) ?_
 refine w_o (a := .raw (.bool (decide ((((x3).toNat : Nat) : Int) ≤ 57)))) ?_
 refine bif_e h (fun hc5 h => ?_) (fun hc5 h => ?_)
 refine w_o (a := .raw (.bool true)) (h := op_q (q_bool rfl hc5)) ?_
 refine w_met rfl rfl ?_
 refine w_o (a := .raw (.int .i64 s2.2)) ?_
 refine w_met rfl rfl ?_
 refine w_o (a := .raw (.int .i64 s1.2)) ?_
 refine w_met rfl rfl ?_
 obtain ⟨g5, h⟩ := chk_e h
 refine w_o (a := .raw (.int .i64 (s1.2 + 11))) (h := op_q (q_add rfl rfl rfl rfl g5.1 g5.2)) ?_
 refine w_met rfl rfl ?_
 refine w_o (a := .raw (.bool (decide (s2.2 < (s1.2 + 11))))) ?_
 refine w_o (a := .raw (.bool (decide (s2.2 < (s1.2 + 11))))) ?_
 refine bif_e h (fun hc6 h => ?_) (fun hc6 h => ?_)
 refine w_condT hc6 rfl ?_
 refine w_block ?_
 refine w_seq (w_region ?_)
 refine w_o (a := .raw (.int .i64 s2.1)) ?_
 obtain ⟨g6, h⟩ := chk_e h
 refine w_o (a := .raw (.int .i64 (s2.1 * 10))) (h := op_q (q_mul rfl rfl rfl rfl g6.1 g6.2)) ?_
 refine w_o (a := .raw (.string (bs s))) ?_
 refine w_o (a := .raw (.int .i64 s2.2)) ?_
 obtain ⟨g7, h⟩ := chk_e h
 obtain ⟨x4, hx4, h⟩ := letE_e h
 refine w_o (a := .raw (.int .u8 (((x4).toNat : Nat) : Int))) (h := op_q (by rw [← hx4]; exact (q_sidx (l := s) (n := s2.2) g7 rfl rfl rfl rfl))) ?_
 obtain ⟨g8, h⟩ := chk_e h
 refine w_o (a := .raw (.int .i64 (((x4).toNat : Nat) : Int))) (h := op_q (q_conv64 g8 rfl rfl rfl)) ?_
 obtain ⟨g9, h⟩ := chk_e h
 refine w_o (a := .raw (.int .i64 ((s2.1 * 10) + (((x4).toNat : Nat) : Int)))) (h := op_q (q_add rfl rfl rfl rfl g9.1 g9.2)) ?_
 obtain ⟨g10, h⟩ := chk_e h
 refine w_o (a := .raw (.int .i64 (((s2.1 * 10) + (((x4).toNat : Nat) : Int)) - 48))) (h := op_q (q_sub rfl rfl rfl rfl g10.1 g10.2)) ?_
 refine w_o (a := .raw (.int .i64 (((s2.1 * 10) + (((x4).toNat : Nat) : Int)) - 48))) ?_
 refine w_region (k0 := 0) (id := 9) ?_
 refine w_o (a := .raw (.int .i64 s2.2)) ?_
 obtain ⟨g11, h⟩ := chk_e h
 refine w_o (a := .raw (.int .i64 (s2.2 + 1))) (h := op_q (q_add rfl rfl rfl rfl g11.1 g11.2)) ?_
 refine w_o (a := .raw (.int .i64 (s2.2 + 1))) ?_
 refine loop_next (p := p2) ((((s2.1 * 10) + (((x4).toNat : Nat) : Int)) - 48), (s2.2 + 1)) h ?_
 exact wm_of (bl 72 4722365919919691792511) (by kernel_rfl) (by kernel_rfl)
 refine w_condF hc6 rfl ?_
 refine loop_exit h (fun h => ?_)
 refine cut_done (o := or2) (s2.1, s2.2) h ?_
 exact wm_of (bl 72 4722365919919691792511) (by kernel_rfl) (by kernel_rfl)
 refine w_o (a := .raw (.bool false)) (h := op_q (q_bool rfl hc5)) ?_
 refine w_po ?_
 refine w_po ?_
 refine w_po ?_
 refine w_po ?_
 refine w_o (a := .raw (.bool false)) ?_
 refine w_false rfl ?_
 refine loop_exit h (fun h => ?_)
 refine cut_done (o := or2) (s2.1, s2.2) h ?_
 exact wm_of (bl 72 4722365919919691792511) (by kernel_rfl) (by kernel_rfl)
 refine w_o (a := .raw (.bool false)) (h := op_q (q_bool rfl hc4)) ?_
 refine w_po ?_
 refine w_po ?_
 refine w_po ?_
 refine w_po ?_
 refine w_o (a := .raw (.bool false)) ?_
 refine w_o (a := .raw (.bool false)) ?_
 refine w_po ?_
 refine w_po ?_
 refine w_po ?_
 refine w_po ?_
 refine w_o (a := .raw (.bool false)) ?_
 refine w_false rfl ?_
 refine loop_exit h (fun h => ?_)
 refine cut_done (o := or2) (s2.1, s2.2) h ?_
 exact wm_of (bl 72 4722365919919691792511) (by kernel_rfl) (by kernel_rfl)
 refine w_o (a := .raw (.bool false)) (h := op_q (q_bool rfl hc3)) ?_
 refine w_po ?_
 refine w_po ?_
 refine w_po ?_
 refine w_po ?_
 refine w_o (a := .raw (.bool false)) ?_
 refine w_o (a := .raw (.bool false)) ?_
 refine w_po ?_
 refine w_po ?_
 refine w_po ?_
 refine w_po ?_
 refine w_o (a := .raw (.bool false)) ?_
 refine w_o (a := .raw (.bool false)) ?_
 refine w_po ?_
 refine w_po ?_
 refine w_po ?_
 refine w_po ?_
 refine w_o (a := .raw (.bool false)) ?_
 refine w_false rfl ?_
 refine loop_exit h (fun h => ?_)
 refine cut_done (o := or2) (s2.1, s2.2) h ?_
 exact wm_of (bl 72 4722365919919691792511) (by kernel_rfl) (by kernel_rfl)
 intro j2 h
 refine w_start (by dsimp only [setAll, topAll, List.foldl, List.set]) rfl ?_
 refine w_cutF h [2, 4, 49, 50, 51, 52, 53, 54, 55, 56, 57, 58, 59, 60, 61, 62, 63, 64, 65] (fun j3 => []) (fun j3 => (ownSt [] 3 (List.length (s1.1 : List Int)) 1)) ?_ ?_
 intro or3 h hr3
 refine w_seq (w_region ?_)
 refine w_o (a := .raw (.int .i64 j2.2)) ?_
 refine w_o (a := .raw (.int .i64 s1.2)) ?_
 obtain ⟨g12, h⟩ := chk_e h
 refine w_o (a := .raw (.int .i64 (s1.2 + 1))) (h := op_q (q_add rfl rfl rfl rfl g12.1 g12.2)) ?_
 refine w_o (a := .raw (.bool (j2.2 == (s1.2 + 1)))) ?_
 refine bif_e h (fun hc7 h => ?_) (fun hc7 h => ?_)
 refine w_o (a := .raw (.bool true)) (h := op_q (q_bool rfl hc7)) ?_
 refine w_po ?_
 refine w_po ?_
 refine w_po ?_
 refine w_po ?_
 refine w_po ?_
 refine w_po ?_
 refine w_po ?_
 refine w_po ?_
 refine w_po ?_
 refine w_po ?_
 refine w_po ?_
 refine w_o (a := .raw (.bool true)) ?_
 refine w_true rfl ?_
 refine w_seq (w_region ?_)
 refine w_o (a := .list 0 [] .full) ?_
 replace h := cut_inr h hr3
 refine loop_exit h (fun h => ?_)
 replace h := cut_inr h hr1
 exact end_pureF (fun (r : (List Int)) => (.list (List.length (r : List Int)) (Enc.cellsL (r : List Int)) .none : AV)) h rfl rfl rfl
 refine w_o (a := .raw (.bool false)) (h := op_q (q_bool rfl hc7)) ?_
 refine w_met rfl rfl ?_
 refine w_o (a := .raw (.string (bs s))) ?_
 refine w_met rfl rfl ?_
 refine w_o (a := .raw (.int .i64 s1.2)) ?_
 refine w_met rfl rfl ?_
 obtain ⟨g13, h⟩ := chk_e h
 refine w_o (a := .raw (.int .i64 (s1.2 + 1))) (h := op_q (q_add rfl rfl rfl rfl g13.1 g13.2)) ?_
 refine w_met rfl rfl ?_
 obtain ⟨g14, h⟩ := chk_e h
 obtain ⟨x5, hx5, h⟩ := letE_e h
 refine w_o (a := .raw (.int .u8 (((x5).toNat : Nat) : Int))) (h := op_q (by rw [← hx5]; exact (q_sidx (l := s) (n := (s1.2 + 1)) g14 rfl rfl rfl rfl))) ?_
 refine w_met rfl rfl ?_
 refine w_o (a := .raw (.bool ((((x5).toNat : Nat) : Int) == 48))) ?_
 refine w_met rfl rfl ?_
 refine bif_e h (fun hc8 h => ?_) (fun hc8 h => ?_)
 refine w_o (a := .raw (.bool true)) (h := op_q (q_bool rfl hc8)) ?_
 refine w_met rfl rfl ?_
 refine w_o (a := .raw (.int .i64 j2.2)) ?_
 refine w_met rfl rfl ?_
 refine w_o (a := .raw (.int .i64 s1.2)) ?_
 refine w_met rfl rfl ?_
 obtain ⟨g15, h⟩ := chk_e h
 refine w_o (a := .raw (.int .i64 (s1.2 + 2))) (h := op_q (q_add rfl rfl rfl rfl g15.1 g15.2)) ?_
 refine w_met rfl rfl ?_
 refine w_o (a := .raw (.bool (decide (j2.2 > (s1.2 + 2))))) ?_
 refine w_met rfl rfl ?_
 refine w_o (a := .raw (.bool (decide (j2.2 > (s1.2 + 2))))) ?_
 refine w_o (a := .raw (.bool (decide (j2.2 > (s1.2 + 2))))) ?_
 refine bif_e h (fun hc9 h => ?_) (fun hc9 h => ?_)
 refine w_condT hc9 rfl ?_
 refine w_seq (w_region ?_)
 refine w_o (a := .list 0 [] .full) ?_
 replace h := cut_inr h hr3
 refine loop_exit h (fun h => ?_)
 replace h := cut_inr h hr1
 exact end_pureF (fun (r : (List Int)) => (.list (List.length (r : List Int)) (Enc.cellsL (r : List Int)) .none : AV)) h rfl rfl rfl
 refine w_condF hc9 rfl ?_
 refine cut_done (o := or3) () h ?_
 exact wm_of (bl 72 4648580069524760428523) (by kernel_rfl) (by kernel_rfl)
 refine w_o (a := .raw (.bool false)) (h := op_q (q_bool rfl hc8)) ?_
 refine w_po ?_
 refine w_po ?_
 refine w_po ?_
 refine w_po ?_
 refine w_met rfl rfl ?_
 refine w_o (a := .raw (.bool false)) ?_
 refine w_o (a := .raw (.bool false)) ?_
 refine w_false rfl ?_
 refine cut_done (o := or3) () h ?_
 exact wm_of (bl 72 4648580069524760428523) (by kernel_rfl) (by kernel_rfl)
 intro j3 h
 refine w_start (by dsimp only [setAll, topAll, List.foldl, List.set]) rfl ?_
 refine w_seq (w_region ?_)
 refine w_o (a := (ownAV (List.length (s1.1 : List Int)) (Enc.cellsL (s1.1 : List Int)))) ?_
 refine w_o (a := .raw (.int .i64 j2.1)) ?_
 refine w_o (a := .list (List.length ([j2.1] : List Int)) (Enc.cellsL ([j2.1] : List Int)) .full) (h := op_q (q_lit (α := Int) (l := [j2.1]) (cs := Enc.cells (j2.1 : Int) ++ []) rfl (by rw [Enc.cons, Enc.nil]))) ?_
 obtain ⟨g16, h⟩ := chk_e h
 refine w_opm (a := (ownAV (List.length ((s1.1 ++ [j2.1]) : List Int)) (Enc.cellsL ((s1.1 ++ [j2.1]) : List Int)))) (σ'' := (ownSt [] 3 (List.length ((s1.1 ++ [j2.1]) : List Int)) 1)) rfl rfl rfl (op_append rfl rfl rfl rfl (append_ownE (α := Int) (bs := []) (a := s1.1) (b := [j2.1]) g16 rfl rfl rfl rfl rfl ⟨rfl, by decide⟩)) (by dsimp only [aput, List.set]) rfl ?_
 refine w_o (a := (ownAV (List.length ((s1.1 ++ [j2.1]) : List Int)) (Enc.cellsL ((s1.1 ++ [j2.1]) : List Int)))) ?_
 refine w_region (k0 := 0) (id := 13) ?_
 refine w_o (a := .raw (.int .i64 j2.2)) ?_
 refine w_o (a := .raw (.int .i64 j2.2)) ?_
 refine loop_next (p := p1) ((s1.1 ++ [j2.1]), j2.2) h ?_
 exact wm_of (bl 72 25) (by kernel_rfl) (by kernel_rfl)
 refine w_condF hc1 rfl ?_
 refine loop_exit h (fun h => ?_)
 refine cut_done (o := or1) (s1.1) h ?_
 exact wm_of (bl 72 8) (by kernel_rfl) (by kernel_rfl)
 intro j1 h
 refine w_start (by dsimp only [setAll, topAll, List.foldl, List.set]) rfl ?_
 refine w_seq (w_region ?_)
 refine w_o (a := (ownAV (List.length (j1 : List Int)) (Enc.cellsL (j1 : List Int)))) ?_
 refine w_o (a := (ownAV (List.length (j1 : List Int)) (Enc.cellsL (j1 : List Int)))) ?_
 exact end_pureF (fun (r : (List Int)) => (.list (List.length (r : List Int)) (Enc.cellsL (r : List Int)) .none : AV)) h (a := (ownAV (List.length (j1 : List Int)) (Enc.cellsL (j1 : List Int)))) rfl (okTrim_own (Enc.cloL _)) (strip_o (Enc.cloL _) Enc.z)
end Go.Ab

