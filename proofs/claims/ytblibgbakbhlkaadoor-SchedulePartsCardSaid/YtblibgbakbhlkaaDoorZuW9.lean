/-
  schedule: ScheduleParts.
-/
import Derived.Test.YtblibgbakbhlkaaDoorZuW7
import Derived.Test.YtblibgbakbhlkaaDoorZuCn
import Derived.Test.YtblibgbakbhlkaaDoorZdQp
set_option linter.unusedSimpArgs false
set_option linter.unusedVariables false
namespace Go.Ab
open Go Go.RowKit Go.Fwd Go.Proofs
def F_parts (fuel : Nat) (l : (List UInt8)) (en : Int) (cut : Int) (k : (List UInt8)) : Option Bool :=
  (bindE (F_made fuel l en) (fun x1 => (chk (-9223372036854775808 ≤ cut ∧ cut < 9223372036854775808) (chk (-9223372036854775808 ≤ ((List.length x1 : Int) + 1) ∧ ((List.length x1 : Int) + 1) < 9223372036854775808) (chk ((0 ≤ cut ∧ cut < 9223372036854775808) ∧ 0 < ((List.length x1 : Int) + 1)) (chk (0 ≤ 0 ∧ 0 ≤ (Int.tmod cut ((List.length x1 : Int) + 1)) ∧ (Int.tmod cut ((List.length x1 : Int) + 1)) ≤ (List.length x1 : Int)) (chk (0 ≤ (Int.tmod cut ((List.length x1 : Int) + 1)) ∧ (Int.tmod cut ((List.length x1 : Int) + 1)) ≤ (List.length x1 : Int) ∧ (List.length x1 : Int) ≤ (List.length x1 : Int)) (bindE (F_check fuel (sub x1 0 (Int.tmod cut ((List.length x1 : Int) + 1)))) (fun x2 => (bindE (F_sizes fuel k) (fun x3 => (bindE (F_cut fuel (sub x1 0 (Int.tmod cut ((List.length x1 : Int) + 1))) x3) (fun x4 => (bindE (F_cut fuel (sub x1 (Int.tmod cut ((List.length x1 : Int) + 1)) (List.length x1 : Int)) []) (fun x5 => (chk ((List.length x4.1 + List.length x5.1) * 32 ≤ 140737488355328) (letE (x4.1 ++ x5.1) (fun x6 => (bindE (F_join fuel x6) (fun x7 => (chk (-9223372036854775808 ≤ (x2.2 + x4.2) ∧ (x2.2 + x4.2) < 9223372036854775808) (bif ((x2.2 + x4.2) != 0) then (some false) else (bif (x2.1 != (-1)) then (some false) else (bindE (F_ends fuel x1) (fun x8 => (bindE (F_ends fuel (sub x1 0 (Int.tmod cut ((List.length x1 : Int) + 1)))) (fun x9 => (bindE (F_ends fuel (sub x1 (Int.tmod cut ((List.length x1 : Int) + 1)) (List.length x1 : Int))) (fun x10 => (cutE (τ := Unit) (bif x9.2 then (bif (!(x8.2 == true)) then (some (Sum.inr false)) else (bif (x8.1 != x9.1) then (some (Sum.inr false)) else (bif (!x9.2) then (bif x10.2 then (chk (-9223372036854775808 ≤ ((Int.tmod cut ((List.length x1 : Int) + 1)) + x10.1) ∧ ((Int.tmod cut ((List.length x1 : Int) + 1)) + x10.1) < 9223372036854775808) (bif (x8.1 != ((Int.tmod cut ((List.length x1 : Int) + 1)) + x10.1)) then (some (Sum.inr false)) else (bif (!x8.2) then (bif (x8.1 != 0) then (some (Sum.inr false)) else (some (Sum.inl ()))) else (some (Sum.inl ()))))) else (bif (!x8.2) then (bif (x8.1 != 0) then (some (Sum.inr false)) else (some (Sum.inl ()))) else (some (Sum.inl ())))) else (bif (!x8.2) then (bif (x8.1 != 0) then (some (Sum.inr false)) else (some (Sum.inl ()))) else (some (Sum.inl ())))))) else (bif (!(x8.2 == x10.2)) then (some (Sum.inr false)) else (bif (!x9.2) then (bif x10.2 then (chk (-9223372036854775808 ≤ ((Int.tmod cut ((List.length x1 : Int) + 1)) + x10.1) ∧ ((Int.tmod cut ((List.length x1 : Int) + 1)) + x10.1) < 9223372036854775808) (bif (x8.1 != ((Int.tmod cut ((List.length x1 : Int) + 1)) + x10.1)) then (some (Sum.inr false)) else (bif (!x8.2) then (bif (x8.1 != 0) then (some (Sum.inr false)) else (some (Sum.inl ()))) else (some (Sum.inl ()))))) else (bif (!x8.2) then (bif (x8.1 != 0) then (some (Sum.inr false)) else (some (Sum.inl ()))) else (some (Sum.inl ())))) else (bif (!x8.2) then (bif (x8.1 != 0) then (some (Sum.inr false)) else (some (Sum.inl ()))) else (some (Sum.inl ())))))) (fun j1 => (bif (x5.2 != 0) then (some false) else (bif (x7.2.2 != 0) then (some false) else (bif (x7.2.1 != (-1)) then (some false) else (bindE (F_eqevs fuel x7.1 x1) (fun x11 => (bif (!x11) then (some false) else (bindE (F_bytes fuel x1) (fun x12 => (bindE (F_bytes fuel (sub x1 0 (Int.tmod cut ((List.length x1 : Int) + 1)))) (fun x13 => (bif (List.isEmpty x13) then (bindE (F_bytes fuel (sub x1 (Int.tmod cut ((List.length x1 : Int) + 1)) (List.length x1 : Int))) (fun x14 => (chk ((List.length ([] : List UInt8) + List.length x14) * 1 ≤ 140737488355328) (bindE (F_beq x12 (([] : List UInt8) ++ x14)) (fun x15 => (bif x15 then (bindE (F_ticks fuel x1) (fun x16 => (bindE (F_ticks fuel (sub x1 0 (Int.tmod cut ((List.length x1 : Int) + 1)))) (fun x17 => (bindE (F_ticks fuel (sub x1 (Int.tmod cut ((List.length x1 : Int) + 1)) (List.length x1 : Int))) (fun x18 => (chk (-9223372036854775808 ≤ (x17 + x18) ∧ (x17 + x18) < 9223372036854775808) (bif (x16 == (x17 + x18)) then (bindE (F_awake fuel) (fun x19 => (some x19))) else (some false))))))))) else (some false))))))) else (chk (List.length x13 ≤ 140737488355328) (bindE (F_bytes fuel (sub x1 (Int.tmod cut ((List.length x1 : Int) + 1)) (List.length x1 : Int))) (fun x20 => (bif (List.isEmpty x20) then (bindE (F_beq x12 x13) (fun x21 => (bif x21 then (bindE (F_ticks fuel x1) (fun x22 => (bindE (F_ticks fuel (sub x1 0 (Int.tmod cut ((List.length x1 : Int) + 1)))) (fun x23 => (bindE (F_ticks fuel (sub x1 (Int.tmod cut ((List.length x1 : Int) + 1)) (List.length x1 : Int))) (fun x24 => (chk (-9223372036854775808 ≤ (x23 + x24) ∧ (x23 + x24) < 9223372036854775808) (bif (x22 == (x23 + x24)) then (bindE (F_awake fuel) (fun x25 => (some x25))) else (some false))))))))) else (some false)))) else (chk (List.length x13 = (List.length x13) ∧ 0 < (List.length x13) ∧ 0 < List.length x20 ∧ ((List.length x13) + List.length x20) * 1 ≤ 140737488355328) (chk (List.length (x13 ++ x20) = ((List.length x13) + List.length x20)) (bindE (F_beq x12 (x13 ++ x20)) (fun x26 => (bif x26 then (bindE (F_ticks fuel x1) (fun x27 => (bindE (F_ticks fuel (sub x1 0 (Int.tmod cut ((List.length x1 : Int) + 1)))) (fun x28 => (bindE (F_ticks fuel (sub x1 (Int.tmod cut ((List.length x1 : Int) + 1)) (List.length x1 : Int))) (fun x29 => (chk (-9223372036854775808 ≤ (x28 + x29) ∧ (x28 + x29) < 9223372036854775808) (bif (x27 == (x28 + x29)) then (bindE (F_awake fuel) (fun x30 => (some x30))) else (some false))))))))) else (some false))))))))))))))))))))))))))))))))))))))))))))))))))))
theorem ent6 : Ent Tryd.prog 6 := enters_of Tryd.func6 (by kernel_rfl) rfl
set_option maxRecDepth 100000 in
set_option maxHeartbeats 16000000 in
theorem parts_sh (fuel : Nat) (l : (List UInt8)) (en : Int) (cut : Int) (k : (List UInt8)) (r : Bool) (h : F_parts fuel l en cut k = some r) : Pure (ITP Tryd.prog) Tryd.prog 6 [.list (List.length (l : List UInt8)) (Enc.cellsL (l : List UInt8)) .none, .raw (.int .u8 en), .raw (.int .u8 cut), .list (List.length (k : List UInt8)) (Enc.cellsL (k : List UInt8)) .none] (.raw (.bool r)) := by
 obtain ⟨d, hd⟩ : ∃ d, Tryd.f6.body = some d := ⟨_, rfl⟩
 refine pure_of mix Tryd.func6 hd ent6 ?_
 cases hd
 unfold F_parts at h
 refine w_start (by dsimp only [abeginS, Tryd.f6, List.length_cons, List.length_nil, Nat.zero_add, Nat.reduceAdd, Nat.reduceSub, List.replicate, List.cons_append, List.nil_append]) (by dsimp only [St.empty]) ?_
 refine w_seq (w_region ?_)
 refine w_o (a := .b false) ?_
 refine w_seq (w_region ?_)
 refine w_mv ?_
 refine w_mv ?_
 obtain ⟨x1, hx1, h⟩ := bindE_e h
 refine w_callc (args' := [.list (List.length (l : List UInt8)) (Enc.cellsL (l : List UInt8)) .none, .u en]) (r := .list (List.length (x1 : List Ev)) (Enc.cellsL (x1 : List Ev)) .none) (made_sh fuel l en x1 hx1) rfl rfl (stripL_cons (strip_l (Enc.cloL _)) (stripL_cons rfl rfl)) (okTrimL_cons (okTrim_l (Enc.cloL _)) (by kernel_rfl)) (by dsimp only [aput, List.set]) ?_
 refine w_mv ?_
 refine w_seq (w_region ?_)
 refine w_mv ?_
 obtain ⟨g1, h⟩ := chk_e h
 refine w_o (a := .i cut) (h := op_q (q_conv64 g1 rfl rfl rfl)) ?_
 refine w_mv ?_
 refine w_o (a := .i (List.length x1 : Int)) ?_
 obtain ⟨g2, h⟩ := chk_e h
 refine w_o (a := .i ((List.length x1 : Int) + 1)) (h := op_q (q_add rfl rfl rfl rfl g2.1 g2.2)) ?_
 obtain ⟨g3, h⟩ := chk_e h
 refine w_o (a := .i (Int.tmod cut ((List.length x1 : Int) + 1))) (h := op_q (q_rem64 g3 rfl rfl rfl)) ?_
 refine w_mv ?_
 refine w_seq ?_
 refine w_draw (k0 := 0) (id := 3) 7 (by kernel_rfl) (by kernel_rfl) ?_
 refine h_mv ?_
 refine h_mv ?_
 obtain ⟨g4, h⟩ := chk_e h
 refine h_opS (a := .list (List.length ((sub x1 0 (Int.tmod cut ((List.length x1 : Int) + 1))) : List Ev)) (Enc.cellsL ((sub x1 0 (Int.tmod cut ((List.length x1 : Int) + 1))) : List Ev)) .none) rfl rfl rfl (q_sub_H (α := Ev) (l := x1) g4 rfl rfl rfl rfl rfl) (strip_sub _ _ _) (by dsimp only [aput, List.set]) ?_
 refine h_mv ?_
 refine h_mv ?_
 obtain ⟨g5, h⟩ := chk_e h
 refine h_opS (a := .list (List.length ((sub x1 (Int.tmod cut ((List.length x1 : Int) + 1)) (List.length x1 : Int)) : List Ev)) (Enc.cellsL ((sub x1 (Int.tmod cut ((List.length x1 : Int) + 1)) (List.length x1 : Int)) : List Ev)) .none) rfl rfl rfl (q_subL_ (α := Ev) (l := x1) g5 rfl rfl rfl rfl rfl) (strip_sub _ _ _) (by dsimp only [aput, List.set]) ?_
 refine h_mv ?_
 refine h_end ?_
 refine w_mv ?_
 refine w_seq (w_region ?_)
 refine w_mv ?_
 obtain ⟨x2, hx2, h⟩ := bindE_e h
 refine w_callc (args' := [.list (List.length ((sub x1 0 (Int.tmod cut ((List.length x1 : Int) + 1))) : List Ev)) (Enc.cellsL ((sub x1 0 (Int.tmod cut ((List.length x1 : Int) + 1))) : List Ev)) .none]) (r := .tup [.i x2.1, .i x2.2]) (check_sh fuel (sub x1 0 (Int.tmod cut ((List.length x1 : Int) + 1))) x2 hx2) rfl rfl (stripL_cons (strip_l (Enc.cloL _)) rfl) (okTrimL_cons (okTrim_l (Enc.cloL _)) rfl) (by dsimp only [aput, List.set]) ?_
 refine w_mv ?_
 refine w_ex ?_
 refine w_ex ?_
 refine w_mv ?_
 refine w_mv ?_
 refine w_seq (w_region ?_)
 refine w_mv ?_
 refine w_mv ?_
 obtain ⟨x3, hx3, h⟩ := bindE_e h
 refine w_callc (args' := [.list (List.length (k : List UInt8)) (Enc.cellsL (k : List UInt8)) .none]) (r := .list (List.length (x3 : List Int)) (Enc.cellsL (x3 : List Int)) .none) (sizes_sh fuel k x3 hx3) rfl rfl (stripL_cons (strip_l (Enc.cloL _)) rfl) (okTrimL_cons (okTrim_l (Enc.cloL _)) rfl) (by dsimp only [aput, List.set]) ?_
 obtain ⟨x4, hx4, h⟩ := bindE_e h
 refine w_callc (args' := [.list (List.length ((sub x1 0 (Int.tmod cut ((List.length x1 : Int) + 1))) : List Ev)) (Enc.cellsL ((sub x1 0 (Int.tmod cut ((List.length x1 : Int) + 1))) : List Ev)) .none, .list (List.length (x3 : List Int)) (Enc.cellsL (x3 : List Int)) .none]) (r := .tup [.list (List.length (x4.1 : List Ck)) (Enc.cellsL (x4.1 : List Ck)) .none, .i x4.2]) (cut_sh fuel (sub x1 0 (Int.tmod cut ((List.length x1 : Int) + 1))) x3 x4 hx4) rfl rfl (stripL_cons (strip_l (Enc.cloL _)) (stripL_cons (strip_l (Enc.cloL _)) rfl)) (okTrimL_cons (okTrim_l (Enc.cloL _)) (okTrimL_cons (okTrim_l (Enc.cloL _)) rfl)) (by dsimp only [aput, List.set]) ?_
 refine w_mv ?_
 refine w_ex ?_
 refine w_ex ?_
 refine w_mv ?_
 refine w_mv ?_
 refine w_seq (w_region ?_)
 refine w_mv ?_
 obtain ⟨x5, hx5, h⟩ := bindE_e h
 refine w_callc (args' := [.list (List.length ((sub x1 (Int.tmod cut ((List.length x1 : Int) + 1)) (List.length x1 : Int)) : List Ev)) (Enc.cellsL ((sub x1 (Int.tmod cut ((List.length x1 : Int) + 1)) (List.length x1 : Int)) : List Ev)) .none, .list 0 [] .none]) (r := .tup [.list (List.length (x5.1 : List Ck)) (Enc.cellsL (x5.1 : List Ck)) .none, .i x5.2]) (cut_sh fuel (sub x1 (Int.tmod cut ((List.length x1 : Int) + 1)) (List.length x1 : Int)) [] x5 hx5) rfl rfl (stripL_cons (strip_l (Enc.cloL _)) (stripL_cons rfl rfl)) (okTrimL_cons (okTrim_l (Enc.cloL _)) (by kernel_rfl)) (by dsimp only [aput, List.set]) ?_
 refine w_mv ?_
 refine w_ex ?_
 refine w_ex ?_
 refine w_mv ?_
 refine w_mv ?_
 refine w_seq (w_region ?_)
 refine w_mv ?_
 refine w_mv ?_
 refine w_o (a := .list (List.length ([x4.1, x5.1] : List (List Ck))) (Enc.cellsL ([x4.1, x5.1] : List (List Ck))) .full) (h := op_q (q_lit (α := (List Ck)) (l := [x4.1, x5.1]) (cs := Enc.cells (x4.1 : (List Ck)) ++ (Enc.cells (x5.1 : (List Ck)) ++ [])) rfl (by rw [Enc.cons, Enc.cons, Enc.nil]))) ?_
 obtain ⟨g6, h⟩ := chk_e h
 obtain ⟨x6, hx6, h⟩ := letE_e h
 refine w_callc (args' := [.list (List.length ([x4.1, x5.1] : List (List Ck))) (Enc.cellsL ([x4.1, x5.1] : List (List Ck))) .none]) (r := .list (List.length (x6 : List Ck)) (Enc.cellsL (x6 : List Ck)) .none) (by rw [← hx6]; exact (concat_pure x4.1 x5.1 g6)) rfl rfl (stripL_cons (strip_l (Enc.cloL _)) rfl) (okTrimL_cons (okTrim_l (Enc.cloL _)) rfl) (by dsimp only [aput, List.set]) ?_
 obtain ⟨x7, hx7, h⟩ := bindE_e h
 refine w_callc (args' := [.list (List.length (x6 : List Ck)) (Enc.cellsL (x6 : List Ck)) .none]) (r := .tup [.list (List.length (x7.1 : List Ev)) (Enc.cellsL (x7.1 : List Ev)) .none, .i x7.2.1, .i x7.2.2]) (join_sh fuel x6 x7 hx7) rfl rfl (stripL_cons (strip_l (Enc.cloL _)) rfl) (okTrimL_cons (okTrim_l (Enc.cloL _)) rfl) (by dsimp only [aput, List.set]) ?_
 refine w_mv ?_
 refine w_ex ?_
 refine w_ex ?_
 refine w_ex ?_
 refine w_mv ?_
 refine w_mv ?_
 refine w_mv ?_
 refine w_seq ?_
 refine w_seq (w_region ?_)
 refine w_mv ?_
 refine w_mv ?_
 obtain ⟨g7, h⟩ := chk_e h
 refine w_o (a := .i (x2.2 + x4.2)) (h := op_q (q_add rfl rfl rfl rfl g7.1 g7.2)) ?_
 refine w_o (a := .b ((x2.2 + x4.2) != 0)) ?_
 refine bif_e h (fun hc1 h => ?_) (fun hc1 h => ?_)
 refine w_o (a := .b true) (h := op_q (q_bool rfl hc1)) ?_
 refine w_po ?_
 refine w_po ?_
 refine w_o (a := .b true) ?_
 refine w_true rfl ?_
 refine w_seq (w_region ?_)
 refine w_o (a := .b false) ?_
 exact end_b h
 refine w_o (a := .b false) (h := op_q (q_bool rfl hc1)) ?_
 refine w_met rfl rfl ?_
 refine w_mv ?_
 refine w_met rfl rfl ?_
 refine w_o (a := .b (x2.1 != (-1))) ?_
 refine w_o (a := .b (x2.1 != (-1))) ?_
 refine bif_e h (fun hc2 h => ?_) (fun hc2 h => ?_)
 refine w_condT hc2 rfl ?_
 refine w_seq (w_region ?_)
 refine w_o (a := .b false) ?_
 exact end_b h
 refine w_condF hc2 rfl ?_
 refine w_seq (w_region ?_)
 refine w_mv ?_
 obtain ⟨x8, hx8, h⟩ := bindE_e h
 refine w_callc (args' := [.list (List.length (x1 : List Ev)) (Enc.cellsL (x1 : List Ev)) .none]) (r := .tup [.i x8.1, .b x8.2]) (ends_sh fuel x1 x8 hx8) rfl rfl (stripL_cons (strip_l (Enc.cloL _)) rfl) (okTrimL_cons (okTrim_l (Enc.cloL _)) rfl) (by dsimp only [aput, List.set]) ?_
 refine w_mv ?_
 refine w_ex ?_
 refine w_ex ?_
 refine w_mv ?_
 refine w_mv ?_
 refine w_seq (w_region ?_)
 refine w_mv ?_
 obtain ⟨x9, hx9, h⟩ := bindE_e h
 refine w_callc (args' := [.list (List.length ((sub x1 0 (Int.tmod cut ((List.length x1 : Int) + 1))) : List Ev)) (Enc.cellsL ((sub x1 0 (Int.tmod cut ((List.length x1 : Int) + 1))) : List Ev)) .none]) (r := .tup [.i x9.1, .b x9.2]) (ends_sh fuel (sub x1 0 (Int.tmod cut ((List.length x1 : Int) + 1))) x9 hx9) rfl rfl (stripL_cons (strip_l (Enc.cloL _)) rfl) (okTrimL_cons (okTrim_l (Enc.cloL _)) rfl) (by dsimp only [aput, List.set]) ?_
 refine w_mv ?_
 refine w_ex ?_
 refine w_ex ?_
 refine w_mv ?_
 refine w_mv ?_
 refine w_seq (w_region ?_)
 refine w_mv ?_
 obtain ⟨x10, hx10, h⟩ := bindE_e h
 refine w_callc (args' := [.list (List.length ((sub x1 (Int.tmod cut ((List.length x1 : Int) + 1)) (List.length x1 : Int)) : List Ev)) (Enc.cellsL ((sub x1 (Int.tmod cut ((List.length x1 : Int) + 1)) (List.length x1 : Int)) : List Ev)) .none]) (r := .tup [.i x10.1, .b x10.2]) (ends_sh fuel (sub x1 (Int.tmod cut ((List.length x1 : Int) + 1)) (List.length x1 : Int)) x10 hx10) rfl rfl (stripL_cons (strip_l (Enc.cloL _)) rfl) (okTrimL_cons (okTrim_l (Enc.cloL _)) rfl) (by dsimp only [aput, List.set]) ?_
 refine w_mv ?_
 refine w_ex ?_
 refine w_ex ?_
 refine w_mv ?_
 refine w_mv ?_
 refine w_cutF h [0, 1, 2, 3, 4, 5, 6, 7, 8, 10, 13, 14, 15, 16, 17, 22, 23, 24, 25, 26, 27, 28, 29, 30, 31, 32, 33, 34, 35, 36, 37, 38, 39, 40, 41, 42, 43, 44, 45, 46, 47, 48, 49, 50, 51, 52, 53, 54, 55, 56, 57, 58, 59, 60, 61, 62, 63, 64, 65, 66, 67, 68, 69, 70, 71, 72, 73, 74, 75, 76, 77, 78, 79, 80, 81, 82, 83, 84, 85, 86, 87, 88, 89, 90, 91, 92, 93, 94, 95, 96, 97, 98, 99, 100, 101, 102, 103, 104, 105, 106, 107, 108, 109, 110, 111, 112, 113, 114, 115, 116, 117, 118, 119, 120, 121, 122, 123, 124, 125, 126, 127, 128, 129, 130, 131, 132, 133, 134, 135, 136, 137, 138, 139, 140, 141, 142, 143, 144, 145, 146, 147, 148, 149, 150, 151, 152, 153, 154, 155, 156, 157, 158, 159, 160, 161, 162, 163, 164, 165] (fun j1 => []) (fun j1 => ⟨[], [], [], 0, false⟩) ?_ ?_
 intro or1 h hr1
 refine w_seq (w_region ?_)
 refine w_mv ?_
 refine w_mv ?_
 refine bif_e h (fun hc3 h => ?_) (fun hc3 h => ?_)
 refine w_o (a := .b true) (h := op_q (q_bool rfl hc3)) ?_
 refine w_po ?_
 refine w_o (a := .b true) ?_
 refine w_o (a := .b (!(x8.2 == true))) (h := op_q (by kernel_rfl)) ?_
 refine bif_e h (fun hc4 h => ?_) (fun hc4 h => ?_)
 refine w_o (a := .b true) (h := op_q (q_bool rfl hc4)) ?_
 refine w_po ?_
 refine w_po ?_
 refine w_po ?_
 refine w_po ?_
 refine w_po ?_
 refine w_po ?_
 refine w_o (a := .b true) ?_
 refine w_mv ?_
 refine w_po ?_
 refine w_po ?_
 refine w_po ?_
 refine w_po ?_
 refine w_po ?_
 refine w_po ?_
 refine w_po ?_
 refine w_po ?_
 refine w_po ?_
 refine w_po ?_
 refine w_po ?_
 refine w_po ?_
 refine w_o (a := .b true) ?_
 refine w_mv ?_
 refine w_po ?_
 refine w_po ?_
 refine w_po ?_
 refine w_po ?_
 refine w_po ?_
 refine w_po ?_
 refine w_o (a := .b true) ?_
 refine w_true rfl ?_
 refine w_seq (w_region ?_)
 refine w_o (a := .b false) ?_
 replace h := cut_inr h hr1
 exact end_b h
 refine w_o (a := .b false) (h := op_q (q_bool rfl hc4)) ?_
 refine w_met rfl rfl ?_
 refine w_mv ?_
 refine w_met rfl rfl ?_
 refine w_o (a := .b true) (h := op_q (q_bool rfl hc3)) ?_
 refine w_met rfl rfl ?_
 refine w_mv ?_
 refine w_met rfl rfl ?_
 refine w_mv ?_
 refine w_met rfl rfl ?_
 refine w_o (a := .b (x8.1 != x9.1)) ?_
 refine w_met rfl rfl ?_
 refine w_o (a := .b (x8.1 != x9.1)) ?_
 refine w_o (a := .b (x8.1 != x9.1)) ?_
 refine bif_e h (fun hc5 h => ?_) (fun hc5 h => ?_)
 refine w_o (a := .b true) (h := op_q (q_bool rfl hc5)) ?_
 refine w_po ?_
 refine w_po ?_
 refine w_po ?_
 refine w_po ?_
 refine w_po ?_
 refine w_po ?_
 refine w_po ?_
 refine w_po ?_
 refine w_po ?_
 refine w_po ?_
 refine w_po ?_
 refine w_po ?_
 refine w_o (a := .b true) ?_
 refine w_mv ?_
 refine w_po ?_
 refine w_po ?_
 refine w_po ?_
 refine w_po ?_
 refine w_po ?_
 refine w_po ?_
 refine w_o (a := .b true) ?_
 refine w_true rfl ?_
 refine w_seq (w_region ?_)
 refine w_o (a := .b false) ?_
 replace h := cut_inr h hr1
 exact end_b h
 refine w_o (a := .b false) (h := op_q (q_bool rfl hc5)) ?_
 refine w_met rfl rfl ?_
 refine w_mv ?_
 refine w_met rfl rfl ?_
 refine w_o (a := .b (!x9.2)) ?_
 refine w_met rfl rfl ?_
 refine bif_e h (fun hc6 h => ?_) (fun hc6 h => ?_)
 refine w_o (a := .b true) (h := op_q (q_bool rfl hc6)) ?_
 refine w_met rfl rfl ?_
 refine w_mv ?_
 refine w_met rfl rfl ?_
 refine w_o (a := .b x10.2) ?_
 refine w_met rfl rfl ?_
 refine bif_e h (fun hc7 h => ?_) (fun hc7 h => ?_)
 refine w_o (a := .b true) (h := op_q (q_bool rfl hc7)) ?_
 refine w_met rfl rfl ?_
 refine w_mv ?_
 refine w_met rfl rfl ?_
 refine w_mv ?_
 refine w_met rfl rfl ?_
 refine w_mv ?_
 refine w_met rfl rfl ?_
 obtain ⟨g8, h⟩ := chk_e h
 refine w_o (a := .i ((Int.tmod cut ((List.length x1 : Int) + 1)) + x10.1)) (h := op_q (q_add rfl rfl rfl rfl g8.1 g8.2)) ?_
 refine w_met rfl rfl ?_
 refine w_o (a := .b (x8.1 != ((Int.tmod cut ((List.length x1 : Int) + 1)) + x10.1))) ?_
 refine w_met rfl rfl ?_
 refine w_o (a := .b (x8.1 != ((Int.tmod cut ((List.length x1 : Int) + 1)) + x10.1))) ?_
 refine w_o (a := .b (x8.1 != ((Int.tmod cut ((List.length x1 : Int) + 1)) + x10.1))) ?_
 refine bif_e h (fun hc8 h => ?_) (fun hc8 h => ?_)
 refine w_o (a := .b true) (h := op_q (q_bool rfl hc8)) ?_
 refine w_po ?_
 refine w_po ?_
 refine w_po ?_
 refine w_po ?_
 refine w_po ?_
 refine w_po ?_
 refine w_o (a := .b true) ?_
 refine w_true rfl ?_
 refine w_seq (w_region ?_)
 refine w_o (a := .b false) ?_
 replace h := cut_inr h hr1
 exact end_b h
 refine w_o (a := .b false) (h := op_q (q_bool rfl hc8)) ?_
 refine w_met rfl rfl ?_
 refine w_mv ?_
 refine w_met rfl rfl ?_
 refine w_o (a := .b (!x8.2)) ?_
 refine w_met rfl rfl ?_
 refine bif_e h (fun hc9 h => ?_) (fun hc9 h => ?_)
 refine w_o (a := .b true) (h := op_q (q_bool rfl hc9)) ?_
 refine w_met rfl rfl ?_
 refine w_mv ?_
 refine w_met rfl rfl ?_
 refine w_o (a := .b (x8.1 != 0)) ?_
 refine w_met rfl rfl ?_
 refine w_o (a := .b (x8.1 != 0)) ?_
 refine w_o (a := .b (x8.1 != 0)) ?_
 refine bif_e h (fun hc10 h => ?_) (fun hc10 h => ?_)
 refine w_condT hc10 rfl ?_
 refine w_seq (w_region ?_)
 refine w_o (a := .b false) ?_
 replace h := cut_inr h hr1
 exact end_b h
 refine w_condF hc10 rfl ?_
 refine cut_done (o := or1) () h ?_
 exact wm_of (bl 166 3938816) (by kernel_rfl) (by kernel_rfl)
 refine w_o (a := .b false) (h := op_q (q_bool rfl hc9)) ?_
 refine w_po ?_
 refine w_po ?_
 refine w_met rfl rfl ?_
 refine w_o (a := .b false) ?_
 refine w_o (a := .b false) ?_
 refine w_false rfl ?_
 refine cut_done (o := or1) () h ?_
 exact wm_of (bl 166 3938816) (by kernel_rfl) (by kernel_rfl)
 refine w_o (a := .b false) (h := op_q (q_bool rfl hc7)) ?_
 refine w_po ?_
 refine w_po ?_
 refine w_po ?_
 refine w_po ?_
 refine w_po ?_
 refine w_met rfl rfl ?_
 refine w_o (a := .b false) ?_
 refine w_o (a := .b false) ?_
 refine w_mv ?_
 refine w_met rfl rfl ?_
 refine w_mv ?_
 refine w_met rfl rfl ?_
 refine w_o (a := .b (!x8.2)) ?_
 refine w_met rfl rfl ?_
 refine bif_e h (fun hc11 h => ?_) (fun hc11 h => ?_)
 refine w_o (a := .b true) (h := op_q (q_bool rfl hc11)) ?_
 refine w_met rfl rfl ?_
 refine w_mv ?_
 refine w_met rfl rfl ?_
 refine w_o (a := .b (x8.1 != 0)) ?_
 refine w_met rfl rfl ?_
 refine w_o (a := .b (x8.1 != 0)) ?_
 refine w_o (a := .b (x8.1 != 0)) ?_
 refine bif_e h (fun hc12 h => ?_) (fun hc12 h => ?_)
 refine w_condT hc12 rfl ?_
 refine w_seq (w_region ?_)
 refine w_o (a := .b false) ?_
 replace h := cut_inr h hr1
 exact end_b h
 refine w_condF hc12 rfl ?_
 refine cut_done (o := or1) () h ?_
 exact wm_of (bl 166 3938816) (by kernel_rfl) (by kernel_rfl)
 refine w_o (a := .b false) (h := op_q (q_bool rfl hc11)) ?_
 refine w_po ?_
 refine w_po ?_
 refine w_met rfl rfl ?_
 refine w_o (a := .b false) ?_
 refine w_o (a := .b false) ?_
 refine w_false rfl ?_
 refine cut_done (o := or1) () h ?_
 exact wm_of (bl 166 3938816) (by kernel_rfl) (by kernel_rfl)
 refine w_o (a := .b false) (h := op_q (q_bool rfl hc6)) ?_
 refine w_po ?_
 refine w_met rfl rfl ?_
 refine w_o (a := .b false) ?_
 refine w_met rfl rfl ?_
 refine w_mv ?_
 refine w_po ?_
 refine w_po ?_
 refine w_po ?_
 refine w_po ?_
 refine w_po ?_
 refine w_met rfl rfl ?_
 refine w_o (a := .b false) ?_
 refine w_o (a := .b false) ?_
 refine w_mv ?_
 refine w_met rfl rfl ?_
 refine w_mv ?_
 refine w_met rfl rfl ?_
 refine w_o (a := .b (!x8.2)) ?_
 refine w_met rfl rfl ?_
 refine bif_e h (fun hc13 h => ?_) (fun hc13 h => ?_)
 refine w_o (a := .b true) (h := op_q (q_bool rfl hc13)) ?_
 refine w_met rfl rfl ?_
 refine w_mv ?_
 refine w_met rfl rfl ?_
 refine w_o (a := .b (x8.1 != 0)) ?_
 refine w_met rfl rfl ?_
 refine w_o (a := .b (x8.1 != 0)) ?_
 refine w_o (a := .b (x8.1 != 0)) ?_
 refine bif_e h (fun hc14 h => ?_) (fun hc14 h => ?_)
 refine w_condT hc14 rfl ?_
 refine w_seq (w_region ?_)
 refine w_o (a := .b false) ?_
 replace h := cut_inr h hr1
 exact end_b h
 refine w_condF hc14 rfl ?_
 refine cut_done (o := or1) () h ?_
 exact wm_of (bl 166 3938816) (by kernel_rfl) (by kernel_rfl)
 refine w_o (a := .b false) (h := op_q (q_bool rfl hc13)) ?_
 refine w_po ?_
 refine w_po ?_
 refine w_met rfl rfl ?_
 refine w_o (a := .b false) ?_
 refine w_o (a := .b false) ?_
 refine w_false rfl ?_
 refine cut_done (o := or1) () h ?_
 exact wm_of (bl 166 3938816) (by kernel_rfl) (by kernel_rfl)
 refine w_o (a := .b false) (h := op_q (q_bool rfl hc3)) ?_
 refine w_met rfl rfl ?_
 refine w_mv ?_
 refine w_o (a := .b x10.2) ?_
 refine w_o (a := .b (!(x8.2 == x10.2))) (h := op_q (by kernel_rfl)) ?_
 refine bif_e h (fun hc15 h => ?_) (fun hc15 h => ?_)
 refine w_o (a := .b true) (h := op_q (q_bool rfl hc15)) ?_
 refine w_po ?_
 refine w_po ?_
 refine w_po ?_
 refine w_po ?_
 refine w_po ?_
 refine w_po ?_
 refine w_o (a := .b true) ?_
 refine w_mv ?_
 refine w_po ?_
 refine w_po ?_
 refine w_po ?_
 refine w_po ?_
 refine w_po ?_
 refine w_po ?_
 refine w_po ?_
 refine w_po ?_
 refine w_po ?_
 refine w_po ?_
 refine w_po ?_
 refine w_po ?_
 refine w_o (a := .b true) ?_
 refine w_mv ?_
 refine w_po ?_
 refine w_po ?_
 refine w_po ?_
 refine w_po ?_
 refine w_po ?_
 refine w_po ?_
 refine w_o (a := .b true) ?_
 refine w_true rfl ?_
 refine w_seq (w_region ?_)
 refine w_o (a := .b false) ?_
 replace h := cut_inr h hr1
 exact end_b h
 refine w_o (a := .b false) (h := op_q (q_bool rfl hc15)) ?_
 refine w_met rfl rfl ?_
 refine w_mv ?_
 refine w_met rfl rfl ?_
 refine w_o (a := .b false) (h := op_q (q_bool rfl hc3)) ?_
 refine w_po ?_
 refine w_po ?_
 refine w_po ?_
 refine w_met rfl rfl ?_
 refine w_o (a := .b false) ?_
 refine w_o (a := .b false) ?_
 refine w_mv ?_
 refine w_met rfl rfl ?_
 refine w_mv ?_
 refine w_met rfl rfl ?_
 refine w_o (a := .b (!x9.2)) ?_
 refine w_met rfl rfl ?_
 refine bif_e h (fun hc16 h => ?_) (fun hc16 h => ?_)
 refine w_o (a := .b true) (h := op_q (q_bool rfl hc16)) ?_
 refine w_met rfl rfl ?_
 refine w_mv ?_
 refine w_met rfl rfl ?_
 refine w_o (a := .b x10.2) ?_
 refine w_met rfl rfl ?_
 refine bif_e h (fun hc17 h => ?_) (fun hc17 h => ?_)
 refine w_o (a := .b true) (h := op_q (q_bool rfl hc17)) ?_
 refine w_met rfl rfl ?_
 refine w_mv ?_
 refine w_met rfl rfl ?_
 refine w_mv ?_
 refine w_met rfl rfl ?_
 refine w_mv ?_
 refine w_met rfl rfl ?_
 obtain ⟨g9, h⟩ := chk_e h
 refine w_o (a := .i ((Int.tmod cut ((List.length x1 : Int) + 1)) + x10.1)) (h := op_q (q_add rfl rfl rfl rfl g9.1 g9.2)) ?_
 refine w_met rfl rfl ?_
 refine w_o (a := .b (x8.1 != ((Int.tmod cut ((List.length x1 : Int) + 1)) + x10.1))) ?_
 refine w_met rfl rfl ?_
 refine w_o (a := .b (x8.1 != ((Int.tmod cut ((List.length x1 : Int) + 1)) + x10.1))) ?_
 refine w_o (a := .b (x8.1 != ((Int.tmod cut ((List.length x1 : Int) + 1)) + x10.1))) ?_
 refine bif_e h (fun hc18 h => ?_) (fun hc18 h => ?_)
 refine w_o (a := .b true) (h := op_q (q_bool rfl hc18)) ?_
 refine w_po ?_
 refine w_po ?_
 refine w_po ?_
 refine w_po ?_
 refine w_po ?_
 refine w_po ?_
 refine w_o (a := .b true) ?_
 refine w_true rfl ?_
 refine w_seq (w_region ?_)
 refine w_o (a := .b false) ?_
 replace h := cut_inr h hr1
 exact end_b h
 refine w_o (a := .b false) (h := op_q (q_bool rfl hc18)) ?_
 refine w_met rfl rfl ?_
 refine w_mv ?_
 refine w_met rfl rfl ?_
 refine w_o (a := .b (!x8.2)) ?_
 refine w_met rfl rfl ?_
 refine bif_e h (fun hc19 h => ?_) (fun hc19 h => ?_)
 refine w_o (a := .b true) (h := op_q (q_bool rfl hc19)) ?_
 refine w_met rfl rfl ?_
 refine w_mv ?_
 refine w_met rfl rfl ?_
 refine w_o (a := .b (x8.1 != 0)) ?_
 refine w_met rfl rfl ?_
 refine w_o (a := .b (x8.1 != 0)) ?_
 refine w_o (a := .b (x8.1 != 0)) ?_
 refine bif_e h (fun hc20 h => ?_) (fun hc20 h => ?_)
 refine w_condT hc20 rfl ?_
 refine w_seq (w_region ?_)
 refine w_o (a := .b false) ?_
 replace h := cut_inr h hr1
 exact end_b h
 refine w_condF hc20 rfl ?_
 refine cut_done (o := or1) () h ?_
 exact wm_of (bl 166 3938816) (by kernel_rfl) (by kernel_rfl)
 refine w_o (a := .b false) (h := op_q (q_bool rfl hc19)) ?_
 refine w_po ?_
 refine w_po ?_
 refine w_met rfl rfl ?_
 refine w_o (a := .b false) ?_
 refine w_o (a := .b false) ?_
 refine w_false rfl ?_
 refine cut_done (o := or1) () h ?_
 exact wm_of (bl 166 3938816) (by kernel_rfl) (by kernel_rfl)
 refine w_o (a := .b false) (h := op_q (q_bool rfl hc17)) ?_
 refine w_po ?_
 refine w_po ?_
 refine w_po ?_
 refine w_po ?_
 refine w_po ?_
 refine w_met rfl rfl ?_
 refine w_o (a := .b false) ?_
 refine w_o (a := .b false) ?_
 refine w_mv ?_
 refine w_met rfl rfl ?_
 refine w_mv ?_
 refine w_met rfl rfl ?_
 refine w_o (a := .b (!x8.2)) ?_
 refine w_met rfl rfl ?_
 refine bif_e h (fun hc21 h => ?_) (fun hc21 h => ?_)
 refine w_o (a := .b true) (h := op_q (q_bool rfl hc21)) ?_
 refine w_met rfl rfl ?_
 refine w_mv ?_
 refine w_met rfl rfl ?_
 refine w_o (a := .b (x8.1 != 0)) ?_
 refine w_met rfl rfl ?_
 refine w_o (a := .b (x8.1 != 0)) ?_
 refine w_o (a := .b (x8.1 != 0)) ?_
 refine bif_e h (fun hc22 h => ?_) (fun hc22 h => ?_)
 refine w_condT hc22 rfl ?_
 refine w_seq (w_region ?_)
 refine w_o (a := .b false) ?_
 replace h := cut_inr h hr1
 exact end_b h
 refine w_condF hc22 rfl ?_
 refine cut_done (o := or1) () h ?_
 exact wm_of (bl 166 3938816) (by kernel_rfl) (by kernel_rfl)
 refine w_o (a := .b false) (h := op_q (q_bool rfl hc21)) ?_
 refine w_po ?_
 refine w_po ?_
 refine w_met rfl rfl ?_
 refine w_o (a := .b false) ?_
 refine w_o (a := .b false) ?_
 refine w_false rfl ?_
 refine cut_done (o := or1) () h ?_
 exact wm_of (bl 166 3938816) (by kernel_rfl) (by kernel_rfl)
 refine w_o (a := .b false) (h := op_q (q_bool rfl hc16)) ?_
 refine w_po ?_
 refine w_met rfl rfl ?_
 refine w_o (a := .b false) ?_
 refine w_met rfl rfl ?_
 refine w_mv ?_
 refine w_po ?_
 refine w_po ?_
 refine w_po ?_
 refine w_po ?_
 refine w_po ?_
 refine w_met rfl rfl ?_
 refine w_o (a := .b false) ?_
 refine w_o (a := .b false) ?_
 refine w_mv ?_
 refine w_met rfl rfl ?_
 refine w_mv ?_
 refine w_met rfl rfl ?_
 refine w_o (a := .b (!x8.2)) ?_
 refine w_met rfl rfl ?_
 refine bif_e h (fun hc23 h => ?_) (fun hc23 h => ?_)
 refine w_o (a := .b true) (h := op_q (q_bool rfl hc23)) ?_
 refine w_met rfl rfl ?_
 refine w_mv ?_
 refine w_met rfl rfl ?_
 refine w_o (a := .b (x8.1 != 0)) ?_
 refine w_met rfl rfl ?_
 refine w_o (a := .b (x8.1 != 0)) ?_
 refine w_o (a := .b (x8.1 != 0)) ?_
 refine bif_e h (fun hc24 h => ?_) (fun hc24 h => ?_)
 refine w_condT hc24 rfl ?_
 refine w_seq (w_region ?_)
 refine w_o (a := .b false) ?_
 replace h := cut_inr h hr1
 exact end_b h
 refine w_condF hc24 rfl ?_
 refine cut_done (o := or1) () h ?_
 exact wm_of (bl 166 3938816) (by kernel_rfl) (by kernel_rfl)
 refine w_o (a := .b false) (h := op_q (q_bool rfl hc23)) ?_
 refine w_po ?_
 refine w_po ?_
 refine w_met rfl rfl ?_
 refine w_o (a := .b false) ?_
 refine w_o (a := .b false) ?_
 refine w_false rfl ?_
 refine cut_done (o := or1) () h ?_
 exact wm_of (bl 166 3938816) (by kernel_rfl) (by kernel_rfl)
 intro j1 h
 refine w_start (by dsimp only [setAll, topAll, List.foldl, List.set]) rfl ?_
 refine w_seq ?_
 refine w_seq (w_region ?_)
 refine w_mv ?_
 refine w_o (a := .b (x5.2 != 0)) ?_
 refine bif_e h (fun hc25 h => ?_) (fun hc25 h => ?_)
 refine w_o (a := .b true) (h := op_q (q_bool rfl hc25)) ?_
 refine w_po ?_
 refine w_po ?_
 refine w_o (a := .b true) ?_
 refine w_mv ?_
 refine w_po ?_
 refine w_po ?_
 refine w_o (a := .b true) ?_
 refine w_mv ?_
 refine w_po ?_
 refine w_po ?_
 refine w_po ?_
 refine w_po ?_
 refine w_o (a := .b true) ?_
 refine w_true rfl ?_
 refine w_seq (w_region ?_)
 refine w_o (a := .b false) ?_
 exact end_b h
 refine w_o (a := .b false) (h := op_q (q_bool rfl hc25)) ?_
 refine w_met rfl rfl ?_
 refine w_mv ?_
 refine w_met rfl rfl ?_
 refine w_o (a := .b (x7.2.2 != 0)) ?_
 refine w_o (a := .b (x7.2.2 != 0)) ?_
 refine bif_e h (fun hc26 h => ?_) (fun hc26 h => ?_)
 refine w_o (a := .b true) (h := op_q (q_bool rfl hc26)) ?_
 refine w_po ?_
 refine w_po ?_
 refine w_o (a := .b true) ?_
 refine w_mv ?_
 refine w_po ?_
 refine w_po ?_
 refine w_po ?_
 refine w_po ?_
 refine w_o (a := .b true) ?_
 refine w_true rfl ?_
 refine w_seq (w_region ?_)
 refine w_o (a := .b false) ?_
 exact end_b h
 refine w_o (a := .b false) (h := op_q (q_bool rfl hc26)) ?_
 refine w_met rfl rfl ?_
 refine w_mv ?_
 refine w_met rfl rfl ?_
 refine w_o (a := .b (x7.2.1 != (-1))) ?_
 refine w_o (a := .b (x7.2.1 != (-1))) ?_
 refine bif_e h (fun hc27 h => ?_) (fun hc27 h => ?_)
 refine w_o (a := .b true) (h := op_q (q_bool rfl hc27)) ?_
 refine w_po ?_
 refine w_po ?_
 refine w_po ?_
 refine w_po ?_
 refine w_o (a := .b true) ?_
 refine w_true rfl ?_
 refine w_seq (w_region ?_)
 refine w_o (a := .b false) ?_
 exact end_b h
 refine w_o (a := .b false) (h := op_q (q_bool rfl hc27)) ?_
 refine w_met rfl rfl ?_
 refine w_mv ?_
 refine w_met rfl rfl ?_
 refine w_mv ?_
 refine w_met rfl rfl ?_
 obtain ⟨x11, hx11, h⟩ := bindE_e h
 refine w_callc (args' := [.list (List.length (x7.1 : List Ev)) (Enc.cellsL (x7.1 : List Ev)) .none, .list (List.length (x1 : List Ev)) (Enc.cellsL (x1 : List Ev)) .none]) (r := .b x11) (eqevs_sh fuel x7.1 x1 x11 hx11) rfl rfl (stripL_cons (strip_l (Enc.cloL _)) (stripL_cons (strip_l (Enc.cloL _)) rfl)) (okTrimL_cons (okTrim_l (Enc.cloL _)) (okTrimL_cons (okTrim_l (Enc.cloL _)) rfl)) (by dsimp only [aput, List.set]) ?_
 refine w_met rfl rfl ?_
 refine w_o (a := .b (!x11)) ?_
 refine w_o (a := .b (!x11)) ?_
 refine bif_e h (fun hc28 h => ?_) (fun hc28 h => ?_)
 refine w_condT hc28 rfl ?_
 refine w_seq (w_region ?_)
 refine w_o (a := .b false) ?_
 exact end_b h
 refine w_condF hc28 rfl ?_
 refine w_seq (w_region ?_)
 refine w_mv ?_
 obtain ⟨x12, hx12, h⟩ := bindE_e h
 refine w_callc (args' := [.list (List.length (x1 : List Ev)) (Enc.cellsL (x1 : List Ev)) .none]) (r := .list (List.length (x12 : List UInt8)) (Enc.cellsL (x12 : List UInt8)) .none) (bytes_sh fuel x1 x12 hx12) rfl rfl (stripL_cons (strip_l (Enc.cloL _)) rfl) (okTrimL_cons (okTrim_l (Enc.cloL _)) rfl) (by dsimp only [aput, List.set]) ?_
 refine w_mv ?_
 obtain ⟨x13, hx13, h⟩ := bindE_e h
 refine w_callc (args' := [.list (List.length ((sub x1 0 (Int.tmod cut ((List.length x1 : Int) + 1))) : List Ev)) (Enc.cellsL ((sub x1 0 (Int.tmod cut ((List.length x1 : Int) + 1))) : List Ev)) .none]) (r := .list (List.length (x13 : List UInt8)) (Enc.cellsL (x13 : List UInt8)) .none) (bytes_sh fuel (sub x1 0 (Int.tmod cut ((List.length x1 : Int) + 1))) x13 hx13) rfl rfl (stripL_cons (strip_l (Enc.cloL _)) rfl) (okTrimL_cons (okTrim_l (Enc.cloL _)) rfl) (by dsimp only [aput, List.set]) ?_
 refine bif_e h (fun hc29 h => ?_) (fun hc29 h => ?_)
 refine w_snd (r := .list 0 [] .full) (σ' := ⟨[], [], [], 0, false⟩) (bclone_nil x13 hc29) rfl rfl ⟨rfl, rfl⟩ (by dsimp only [aput, List.set]) ?_
 refine w_mv ?_
 obtain ⟨x14, hx14, h⟩ := bindE_e h
 refine w_callc (args' := [.list (List.length ((sub x1 (Int.tmod cut ((List.length x1 : Int) + 1)) (List.length x1 : Int)) : List Ev)) (Enc.cellsL ((sub x1 (Int.tmod cut ((List.length x1 : Int) + 1)) (List.length x1 : Int)) : List Ev)) .none]) (r := .list (List.length (x14 : List UInt8)) (Enc.cellsL (x14 : List UInt8)) .none) (bytes_sh fuel (sub x1 (Int.tmod cut ((List.length x1 : Int) + 1)) (List.length x1 : Int)) x14 hx14) rfl rfl (stripL_cons (strip_l (Enc.cloL _)) rfl) (okTrimL_cons (okTrim_l (Enc.cloL _)) rfl) (by dsimp only [aput, List.set]) ?_
 obtain ⟨g10, h⟩ := chk_e h
 refine w_opm (a := (ownAV (List.length ((([] : List UInt8) ++ x14) : List UInt8)) (Enc.cellsL ((([] : List UInt8) ++ x14) : List UInt8)))) (σ'' := (ownSt [] 5 (List.length ((([] : List UInt8) ++ x14) : List UInt8)) 1)) rfl rfl rfl (op_append rfl rfl rfl rfl (append_ownE (α := UInt8) (bs := []) (a := ([] : List UInt8)) (b := x14) g10 rfl rfl rfl rfl rfl ⟨rfl, by decide⟩)) (by dsimp only [aput, List.set]) rfl ?_
 obtain ⟨x15, hx15, h⟩ := bindE_e h
 refine w_callc (args' := [.list (List.length (x12 : List UInt8)) (Enc.cellsL (x12 : List UInt8)) .none, .list (List.length ((([] : List UInt8) ++ x14) : List UInt8)) (Enc.cellsL ((([] : List UInt8) ++ x14) : List UInt8)) .none]) (r := .b x15) (beq_sh x12 (([] : List UInt8) ++ x14) x15 hx15) rfl rfl (stripL_cons (strip_l (Enc.cloL _)) (stripL_cons (strip_o (Enc.cloL _) Enc.z) rfl)) (okTrimL_cons (okTrim_l (Enc.cloL _)) (okTrimL_cons (okTrim_own (Enc.cloL _)) rfl)) (by dsimp only [aput, List.set]) ?_
 refine bif_e h (fun hc30 h => ?_) (fun hc30 h => ?_)
 refine w_o (a := .b true) (h := op_q (q_bool rfl hc30)) ?_
 refine w_met rfl rfl ?_
 refine w_mv ?_
 refine w_met rfl rfl ?_
 obtain ⟨x16, hx16, h⟩ := bindE_e h
 refine w_callc (args' := [.list (List.length (x1 : List Ev)) (Enc.cellsL (x1 : List Ev)) .none]) (r := .i x16) (ticks_sh fuel x1 x16 hx16) rfl rfl (stripL_cons (strip_l (Enc.cloL _)) rfl) (okTrimL_cons (okTrim_l (Enc.cloL _)) rfl) (by dsimp only [aput, List.set]) ?_
 refine w_met rfl rfl ?_
 refine w_mv ?_
 refine w_met rfl rfl ?_
 obtain ⟨x17, hx17, h⟩ := bindE_e h
 refine w_callc (args' := [.list (List.length ((sub x1 0 (Int.tmod cut ((List.length x1 : Int) + 1))) : List Ev)) (Enc.cellsL ((sub x1 0 (Int.tmod cut ((List.length x1 : Int) + 1))) : List Ev)) .none]) (r := .i x17) (ticks_sh fuel (sub x1 0 (Int.tmod cut ((List.length x1 : Int) + 1))) x17 hx17) rfl rfl (stripL_cons (strip_l (Enc.cloL _)) rfl) (okTrimL_cons (okTrim_l (Enc.cloL _)) rfl) (by dsimp only [aput, List.set]) ?_
 refine w_met rfl rfl ?_
 refine w_mv ?_
 refine w_met rfl rfl ?_
 obtain ⟨x18, hx18, h⟩ := bindE_e h
 refine w_callc (args' := [.list (List.length ((sub x1 (Int.tmod cut ((List.length x1 : Int) + 1)) (List.length x1 : Int)) : List Ev)) (Enc.cellsL ((sub x1 (Int.tmod cut ((List.length x1 : Int) + 1)) (List.length x1 : Int)) : List Ev)) .none]) (r := .i x18) (ticks_sh fuel (sub x1 (Int.tmod cut ((List.length x1 : Int) + 1)) (List.length x1 : Int)) x18 hx18) rfl rfl (stripL_cons (strip_l (Enc.cloL _)) rfl) (okTrimL_cons (okTrim_l (Enc.cloL _)) rfl) (by dsimp only [aput, List.set]) ?_
 refine w_met rfl rfl ?_
 obtain ⟨g11, h⟩ := chk_e h
 refine w_o (a := .i (x17 + x18)) (h := op_q (q_add rfl rfl rfl rfl g11.1 g11.2)) ?_
 refine w_met rfl rfl ?_
 refine w_o (a := .b (x16 == (x17 + x18))) ?_
 refine w_o (a := .b (x16 == (x17 + x18))) ?_
 refine bif_e h (fun hc31 h => ?_) (fun hc31 h => ?_)
 refine w_o (a := .b true) (h := op_q (q_bool rfl hc31)) ?_
 refine w_met rfl rfl ?_
 obtain ⟨x19, hx19, h⟩ := bindE_e h
 refine w_callc (args' := []) (r := .b x19) (awake_sh fuel x19 hx19) rfl rfl rfl rfl (by dsimp only [aput, List.set]) ?_
 refine w_o (a := .b x19) ?_
 refine w_mv ?_
 exact end_b h
 refine w_o (a := .b false) (h := op_q (q_bool rfl hc31)) ?_
 refine w_po ?_
 refine w_o (a := .b false) ?_
 refine w_mv ?_
 exact end_b h
 refine w_o (a := .b false) (h := op_q (q_bool rfl hc30)) ?_
 refine w_po ?_
 refine w_po ?_
 refine w_po ?_
 refine w_po ?_
 refine w_po ?_
 refine w_po ?_
 refine w_po ?_
 refine w_po ?_
 refine w_o (a := .b false) ?_
 refine w_mv ?_
 refine w_po ?_
 refine w_o (a := .b false) ?_
 refine w_mv ?_
 exact end_b h
 obtain ⟨g12, h⟩ := chk_e h
 refine w_snd (r := .bsl 0 0 (List.length x13) 1 false) (σ' := ⟨[(5, (Enc.cellsL (x13 : List UInt8)))], [], [], 0, false⟩) (bclone_some x13 g12 hc29) rfl rfl ⟨rfl, rfl⟩ (by dsimp only [aput, List.set]) ?_
 refine w_mv ?_
 obtain ⟨x20, hx20, h⟩ := bindE_e h
 refine w_callc (args' := [.list (List.length ((sub x1 (Int.tmod cut ((List.length x1 : Int) + 1)) (List.length x1 : Int)) : List Ev)) (Enc.cellsL ((sub x1 (Int.tmod cut ((List.length x1 : Int) + 1)) (List.length x1 : Int)) : List Ev)) .none]) (r := .list (List.length (x20 : List UInt8)) (Enc.cellsL (x20 : List UInt8)) .none) (bytes_sh fuel (sub x1 (Int.tmod cut ((List.length x1 : Int) + 1)) (List.length x1 : Int)) x20 hx20) rfl rfl (stripL_cons (strip_l (Enc.cloL _)) rfl) (okTrimL_cons (okTrim_l (Enc.cloL _)) rfl) (by dsimp only [aput, List.set]) ?_
 refine bif_e h (fun hc32 h => ?_) (fun hc32 h => ?_)
 refine w_opR (a := .bsl 0 0 (List.length x13) 1 false) rfl rfl rfl (appR_none hc32 rfl rfl rfl rfl rfl rfl rfl rfl rfl rfl) (by dsimp only [aput, List.set]) ?_
 obtain ⟨x21, hx21, h⟩ := bindE_e h
 refine w_callf 1 (args' := [.list (List.length (x12 : List UInt8)) (Enc.cellsL (x12 : List UInt8)) .none, .list (List.length (x13 : List UInt8)) (Enc.cellsL (x13 : List UInt8)) .none]) (r := .b x21) (beq_sh x12 x13 x21 hx21) rfl rfl (mapPtrL_cons' (mapPtr_clo' (clo_list (Enc.cloL _))) (mapPtrL_cons' (frz_bsl (α := UInt8) (t := 5) (l := x13) rfl rfl) mapPtrL_nil')) rfl (by dsimp only [aput, List.set]) ?_
 refine bif_e h (fun hc33 h => ?_) (fun hc33 h => ?_)
 refine w_o (a := .b true) (h := op_q (q_bool rfl hc33)) ?_
 refine w_met rfl rfl ?_
 refine w_mv ?_
 refine w_met rfl rfl ?_
 obtain ⟨x22, hx22, h⟩ := bindE_e h
 refine w_callc (args' := [.list (List.length (x1 : List Ev)) (Enc.cellsL (x1 : List Ev)) .none]) (r := .i x22) (ticks_sh fuel x1 x22 hx22) rfl rfl (stripL_cons (strip_l (Enc.cloL _)) rfl) (okTrimL_cons (okTrim_l (Enc.cloL _)) rfl) (by dsimp only [aput, List.set]) ?_
 refine w_met rfl rfl ?_
 refine w_mv ?_
 refine w_met rfl rfl ?_
 obtain ⟨x23, hx23, h⟩ := bindE_e h
 refine w_callc (args' := [.list (List.length ((sub x1 0 (Int.tmod cut ((List.length x1 : Int) + 1))) : List Ev)) (Enc.cellsL ((sub x1 0 (Int.tmod cut ((List.length x1 : Int) + 1))) : List Ev)) .none]) (r := .i x23) (ticks_sh fuel (sub x1 0 (Int.tmod cut ((List.length x1 : Int) + 1))) x23 hx23) rfl rfl (stripL_cons (strip_l (Enc.cloL _)) rfl) (okTrimL_cons (okTrim_l (Enc.cloL _)) rfl) (by dsimp only [aput, List.set]) ?_
 refine w_met rfl rfl ?_
 refine w_mv ?_
 refine w_met rfl rfl ?_
 obtain ⟨x24, hx24, h⟩ := bindE_e h
 refine w_callc (args' := [.list (List.length ((sub x1 (Int.tmod cut ((List.length x1 : Int) + 1)) (List.length x1 : Int)) : List Ev)) (Enc.cellsL ((sub x1 (Int.tmod cut ((List.length x1 : Int) + 1)) (List.length x1 : Int)) : List Ev)) .none]) (r := .i x24) (ticks_sh fuel (sub x1 (Int.tmod cut ((List.length x1 : Int) + 1)) (List.length x1 : Int)) x24 hx24) rfl rfl (stripL_cons (strip_l (Enc.cloL _)) rfl) (okTrimL_cons (okTrim_l (Enc.cloL _)) rfl) (by dsimp only [aput, List.set]) ?_
 refine w_met rfl rfl ?_
 obtain ⟨g13, h⟩ := chk_e h
 refine w_o (a := .i (x23 + x24)) (h := op_q (q_add rfl rfl rfl rfl g13.1 g13.2)) ?_
 refine w_met rfl rfl ?_
 refine w_o (a := .b (x22 == (x23 + x24))) ?_
 refine w_o (a := .b (x22 == (x23 + x24))) ?_
 refine bif_e h (fun hc34 h => ?_) (fun hc34 h => ?_)
 refine w_o (a := .b true) (h := op_q (q_bool rfl hc34)) ?_
 refine w_met rfl rfl ?_
 obtain ⟨x25, hx25, h⟩ := bindE_e h
 refine w_callc (args' := []) (r := .b x25) (awake_sh fuel x25 hx25) rfl rfl rfl rfl (by dsimp only [aput, List.set]) ?_
 refine w_o (a := .b x25) ?_
 refine w_mv ?_
 exact end_b h
 refine w_o (a := .b false) (h := op_q (q_bool rfl hc34)) ?_
 refine w_po ?_
 refine w_o (a := .b false) ?_
 refine w_mv ?_
 exact end_b h
 refine w_o (a := .b false) (h := op_q (q_bool rfl hc33)) ?_
 refine w_po ?_
 refine w_po ?_
 refine w_po ?_
 refine w_po ?_
 refine w_po ?_
 refine w_po ?_
 refine w_po ?_
 refine w_po ?_
 refine w_o (a := .b false) ?_
 refine w_mv ?_
 refine w_po ?_
 refine w_o (a := .b false) ?_
 refine w_mv ?_
 exact end_b h
 obtain ⟨g14, h⟩ := chk_e h
 refine w_opB (a := .bsl 1 0 ((List.length x13) + List.length x20) 1 false) (σ'' := ⟨[(5, (Enc.cellsL (([] : List UInt8) : List UInt8))), (5, (Enc.cellsL ((x13 ++ x20) : List UInt8)))], [], [], 0, false⟩) rfl rfl rfl (opB_bsl (α := UInt8) (l := x13) (r := x20) (by' := 1) g14 rfl rfl rfl rfl rfl rfl rfl rfl rfl rfl rfl rfl ⟨rfl, by decide⟩) (by dsimp only [aput, List.set]) rfl ?_
 obtain ⟨g15, h⟩ := chk_e h
 obtain ⟨x26, hx26, h⟩ := bindE_e h
 refine w_callf 1 (args' := [.list (List.length (x12 : List UInt8)) (Enc.cellsL (x12 : List UInt8)) .none, .list (List.length ((x13 ++ x20) : List UInt8)) (Enc.cellsL ((x13 ++ x20) : List UInt8)) .none]) (r := .b x26) (beq_sh x12 (x13 ++ x20) x26 hx26) rfl rfl (mapPtrL_cons' (mapPtr_clo' (clo_list (Enc.cloL _))) (mapPtrL_cons' (frz_bsl (α := UInt8) (t := 5) (l := (x13 ++ x20)) g15 rfl) mapPtrL_nil')) rfl (by dsimp only [aput, List.set]) ?_
 refine bif_e h (fun hc35 h => ?_) (fun hc35 h => ?_)
 refine w_o (a := .b true) (h := op_q (q_bool rfl hc35)) ?_
 refine w_met rfl rfl ?_
 refine w_mv ?_
 refine w_met rfl rfl ?_
 obtain ⟨x27, hx27, h⟩ := bindE_e h
 refine w_callc (args' := [.list (List.length (x1 : List Ev)) (Enc.cellsL (x1 : List Ev)) .none]) (r := .i x27) (ticks_sh fuel x1 x27 hx27) rfl rfl (stripL_cons (strip_l (Enc.cloL _)) rfl) (okTrimL_cons (okTrim_l (Enc.cloL _)) rfl) (by dsimp only [aput, List.set]) ?_
 refine w_met rfl rfl ?_
 refine w_mv ?_
 refine w_met rfl rfl ?_
 obtain ⟨x28, hx28, h⟩ := bindE_e h
 refine w_callc (args' := [.list (List.length ((sub x1 0 (Int.tmod cut ((List.length x1 : Int) + 1))) : List Ev)) (Enc.cellsL ((sub x1 0 (Int.tmod cut ((List.length x1 : Int) + 1))) : List Ev)) .none]) (r := .i x28) (ticks_sh fuel (sub x1 0 (Int.tmod cut ((List.length x1 : Int) + 1))) x28 hx28) rfl rfl (stripL_cons (strip_l (Enc.cloL _)) rfl) (okTrimL_cons (okTrim_l (Enc.cloL _)) rfl) (by dsimp only [aput, List.set]) ?_
 refine w_met rfl rfl ?_
 refine w_mv ?_
 refine w_met rfl rfl ?_
 obtain ⟨x29, hx29, h⟩ := bindE_e h
 refine w_callc (args' := [.list (List.length ((sub x1 (Int.tmod cut ((List.length x1 : Int) + 1)) (List.length x1 : Int)) : List Ev)) (Enc.cellsL ((sub x1 (Int.tmod cut ((List.length x1 : Int) + 1)) (List.length x1 : Int)) : List Ev)) .none]) (r := .i x29) (ticks_sh fuel (sub x1 (Int.tmod cut ((List.length x1 : Int) + 1)) (List.length x1 : Int)) x29 hx29) rfl rfl (stripL_cons (strip_l (Enc.cloL _)) rfl) (okTrimL_cons (okTrim_l (Enc.cloL _)) rfl) (by dsimp only [aput, List.set]) ?_
 refine w_met rfl rfl ?_
 obtain ⟨g16, h⟩ := chk_e h
 refine w_o (a := .i (x28 + x29)) (h := op_q (q_add rfl rfl rfl rfl g16.1 g16.2)) ?_
 refine w_met rfl rfl ?_
 refine w_o (a := .b (x27 == (x28 + x29))) ?_
 refine w_o (a := .b (x27 == (x28 + x29))) ?_
 refine bif_e h (fun hc36 h => ?_) (fun hc36 h => ?_)
 refine w_o (a := .b true) (h := op_q (q_bool rfl hc36)) ?_
 refine w_met rfl rfl ?_
 obtain ⟨x30, hx30, h⟩ := bindE_e h
 refine w_callc (args' := []) (r := .b x30) (awake_sh fuel x30 hx30) rfl rfl rfl rfl (by dsimp only [aput, List.set]) ?_
 refine w_o (a := .b x30) ?_
 refine w_mv ?_
 exact end_b h
 refine w_o (a := .b false) (h := op_q (q_bool rfl hc36)) ?_
 refine w_po ?_
 refine w_o (a := .b false) ?_
 refine w_mv ?_
 exact end_b h
 refine w_o (a := .b false) (h := op_q (q_bool rfl hc35)) ?_
 refine w_po ?_
 refine w_po ?_
 refine w_po ?_
 refine w_po ?_
 refine w_po ?_
 refine w_po ?_
 refine w_po ?_
 refine w_po ?_
 refine w_o (a := .b false) ?_
 refine w_mv ?_
 refine w_po ?_
 refine w_o (a := .b false) ?_
 refine w_mv ?_
 exact end_b h
end Go.Ab

