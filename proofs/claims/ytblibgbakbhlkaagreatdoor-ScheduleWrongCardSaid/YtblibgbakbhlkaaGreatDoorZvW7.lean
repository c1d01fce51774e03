/-
  schedule: awake.
-/
import Derived.Test.YtblibgbakbhlkaaGreatDoorZvW6
import Derived.Test.YtblibgbakbhlkaaGreatDoorZdQp
set_option linter.unusedSimpArgs false
set_option linter.unusedVariables false
namespace Go.Ab
open Go Go.RowKit Go.Fwd Go.Proofs
def F_awake (fuel : Nat)  : Option Bool :=
  (bindE (F_example ) (fun x1 => (bindE (F_write fuel x1) (fun x2 => (bindE (F_read fuel x2.1) (fun x3 => (bindE (F_cut fuel x1 ([1, 0, 5, 9] : List Int)) (fun x4 => (bindE (F_cut fuel x1 []) (fun x5 => (chk (-9223372036854775808 ≤ (x2.2 + x3.2.2) ∧ (x2.2 + x3.2.2) < 9223372036854775808) (chk (-9223372036854775808 ≤ ((x2.2 + x3.2.2) + x4.2) ∧ ((x2.2 + x3.2.2) + x4.2) < 9223372036854775808) (chk (-9223372036854775808 ≤ (((x2.2 + x3.2.2) + x4.2) + x5.2) ∧ (((x2.2 + x3.2.2) + x4.2) + x5.2) < 9223372036854775808) (bif ((((x2.2 + x3.2.2) + x4.2) + x5.2) != 0) then (some false) else (bif (!(x2.1 == ([34, 97, 98, 34, 32, 116, 50, 32, 34, 99, 34, 32, 101, 111, 102] : List UInt8))) then (some false) else (bif (x3.2.1 != (-1)) then (some false) else (bindE (F_eqevs fuel x3.1 x1) (fun x6 => (bif (!x6) then (some false) else (bindE (F_piece ([97] : List UInt8)) (fun x7 => (bindE (F_piece ([] : List UInt8)) (fun x8 => (bindE (F_piece ([98] : List UInt8)) (fun x9 => (bindE (F_piece ([99] : List UInt8)) (fun x10 => (bindE (F_chunks fuel x4.1 [x7, x8, x9, (Ck.mk 2 []), (Ck.mk 2 []), x10, (Ck.mk 3 [])]) (fun x11 => (bif (!x11) then (some false) else (bindE (F_piece ([97, 98] : List UInt8)) (fun x12 => (bindE (F_piece ([99] : List UInt8)) (fun x13 => (bindE (F_chunks fuel x5.1 [x12, (Ck.mk 2 []), (Ck.mk 2 []), x13, (Ck.mk 3 [])]) (fun x14 => (bif (!x14) then (some false) else (cutE (τ := Unit) (loopE (β := Int) (fun s1 => (bif (decide (s1 < (List.length [([116, 48] : List UInt8), ([116, 49, 32, 116, 49] : List UInt8), ([34, 97, 34, 32, 34, 98, 34] : List UInt8), ([101, 111, 102, 32, 34, 97, 34] : List UInt8), ([116, 48, 49] : List UInt8)] : Int))) then (chk (0 ≤ s1 ∧ s1 < (List.length [([116, 48] : List UInt8), ([116, 49, 32, 116, 49] : List UInt8), ([34, 97, 34, 32, 34, 98, 34] : List UInt8), ([101, 111, 102, 32, 34, 97, 34] : List UInt8), ([116, 48, 49] : List UInt8)] : Int)) (letE (ix [([116, 48] : List UInt8), ([116, 49, 32, 116, 49] : List UInt8), ([34, 97, 34, 32, 34, 98, 34] : List UInt8), ([101, 111, 102, 32, 34, 97, 34] : List UInt8), ([116, 48, 49] : List UInt8)] s1) (fun x15 => (bindE (F_read fuel x15) (fun x16 => (chk (0 ≤ s1 ∧ s1 < (List.length ([0, 1, 1, 1, 0] : List Int) : Int)) (letE (ix ([0, 1, 1, 1, 0] : List Int) s1) (fun x17 => (bif (x16.2.1 != x17) then (some (Sum.inr (Sum.inr false))) else (bif (x16.2.2 != 321) then (some (Sum.inr (Sum.inr false))) else (chk (-9223372036854775808 ≤ (s1 + 1) ∧ (s1 + 1) < 9223372036854775808) (some (Sum.inl ((s1 + 1))))))))))))))) else (some (Sum.inr (Sum.inl ()))))) fuel (0)) (fun j1 => (bindE (F_read fuel ([101, 111, 102, 32, 116, 49] : List UInt8)) (fun x18 => (bif (x18.2.1 == (-1)) then (some (x18.2.2 == 0)) else (some false)))))))))))))))))))))))))))))))))))))))))))
theorem ent6 : Ent Tryz.prog 6 := enters_of Tryz.func6 (by kernel_rfl) rfl
set_option maxRecDepth 100000 in
set_option maxHeartbeats 16000000 in
theorem awake_sh (fuel : Nat)  (r : Bool) (h : F_awake fuel  = some r) : Pure (ITP Tryz.prog) Tryz.prog 6 [] (.raw (.bool r)) := by
 obtain ⟨d, hd⟩ : ∃ d, Tryz.f6.body = some d := ⟨_, rfl⟩
 refine pure_of mix Tryz.func6 hd ent6 ?_
 cases hd
 unfold F_awake at h
 refine w_start (by dsimp only [abeginS, Tryz.f6, List.length_cons, List.length_nil, Nat.zero_add, Nat.reduceAdd, Nat.reduceSub, List.replicate, List.cons_append, List.nil_append]) (by dsimp only [St.empty]) ?_
 refine w_seq (w_region ?_)
 refine w_o (a := .b false) ?_
 refine w_seq (w_region ?_)
 obtain ⟨x1, hx1, h⟩ := bindE_e h
 refine w_callc (args' := []) (r := .list (List.length (x1 : List Ev)) (Enc.cellsL (x1 : List Ev)) .none) (example_sh  x1 hx1) rfl rfl rfl rfl (by dsimp only [aput, List.set]) ?_
 refine w_mv ?_
 refine w_seq (w_region ?_)
 refine w_mv ?_
 obtain ⟨x2, hx2, h⟩ := bindE_e h
 refine w_callc (args' := [.list (List.length (x1 : List Ev)) (Enc.cellsL (x1 : List Ev)) .none]) (r := .tup [.s x2.1, .i x2.2]) (write_sh fuel x1 x2 hx2) rfl rfl (stripL_cons (strip_l (Enc.cloL _)) rfl) (okTrimL_cons (okTrim_l (Enc.cloL _)) rfl) (by dsimp only [aput, List.set]) ?_
 refine w_mv ?_
 refine w_ex ?_
 refine w_ex ?_
 refine w_mv ?_
 refine w_mv ?_
 refine w_seq (w_region ?_)
 refine w_mv ?_
 obtain ⟨x3, hx3, h⟩ := bindE_e h
 refine w_callc (args' := [.s x2.1]) (r := .tup [.list (List.length (x3.1 : List Ev)) (Enc.cellsL (x3.1 : List Ev)) .none, .i x3.2.1, .i x3.2.2]) (read_sh fuel x2.1 x3 hx3) rfl rfl (stripL_cons rfl rfl) (by kernel_rfl) (by dsimp only [aput, List.set]) ?_
 refine w_mv ?_
 refine w_ex ?_
 refine w_ex ?_
 refine w_ex ?_
 refine w_mv ?_
 refine w_mv ?_
 refine w_mv ?_
 refine w_seq (w_region ?_)
 refine w_mv ?_
 refine w_o (a := .list (List.length (([1, 0, 5, 9] : List Int) : List Int)) (Enc.cellsL (([1, 0, 5, 9] : List Int) : List Int)) .full) (h := op_q (q_lit (α := Int) (l := [1, 0, 5, 9]) (cs := Enc.cells (1 : Int) ++ (Enc.cells (0 : Int) ++ (Enc.cells (5 : Int) ++ (Enc.cells (9 : Int) ++ [])))) (by kernel_rfl) (by rw [Enc.cons, Enc.cons, Enc.cons, Enc.cons, Enc.nil]))) ?_
 obtain ⟨x4, hx4, h⟩ := bindE_e h
 refine w_callc (args' := [.list (List.length (x1 : List Ev)) (Enc.cellsL (x1 : List Ev)) .none, .list (List.length (([1, 0, 5, 9] : List Int) : List Int)) (Enc.cellsL (([1, 0, 5, 9] : List Int) : List Int)) .none]) (r := .tup [.list (List.length (x4.1 : List Ck)) (Enc.cellsL (x4.1 : List Ck)) .none, .i x4.2]) (cut_sh fuel x1 ([1, 0, 5, 9] : List Int) x4 hx4) rfl rfl (stripL_cons (strip_l (Enc.cloL _)) (stripL_cons (strip_l (Enc.cloL _)) rfl)) (okTrimL_cons (okTrim_l (Enc.cloL _)) (okTrimL_cons (okTrim_l (Enc.cloL _)) rfl)) (by dsimp only [aput, List.set]) ?_
 refine w_mv ?_
 refine w_ex ?_
 refine w_ex ?_
 refine w_mv ?_
 refine w_mv ?_
 refine w_seq (w_region ?_)
 refine w_mv ?_
 obtain ⟨x5, hx5, h⟩ := bindE_e h
 refine w_callc (args' := [.list (List.length (x1 : List Ev)) (Enc.cellsL (x1 : List Ev)) .none, .list 0 [] .none]) (r := .tup [.list (List.length (x5.1 : List Ck)) (Enc.cellsL (x5.1 : List Ck)) .none, .i x5.2]) (cut_sh fuel x1 [] x5 hx5) rfl rfl (stripL_cons (strip_l (Enc.cloL _)) (stripL_cons rfl rfl)) (okTrimL_cons (okTrim_l (Enc.cloL _)) (by kernel_rfl)) (by dsimp only [aput, List.set]) ?_
 refine w_mv ?_
 refine w_ex ?_
 refine w_ex ?_
 refine w_mv ?_
 refine w_mv ?_
 refine w_seq (w_region ?_)
 refine w_qs (.agg (Enc.cells ((Ck.mk 2 []) : Ck))) (a0 := (ckR (Ck.mk 2 []) .full)) rfl rfl rfl (by kernel_rfl) (strip_ckR _ _) (by dsimp only [aput, List.set]) ?_
 refine w_qs (.agg (Enc.cells ((Ck.mk 3 []) : Ck))) (a0 := (ckR (Ck.mk 3 []) .full)) rfl rfl rfl (by kernel_rfl) (strip_ckR _ _) (by dsimp only [aput, List.set]) ?_
 refine w_om (a := .ptr 0 0) (σ'' := ⟨[(30, [.u 0, .list 0 [] .full])], [], [], 0, false⟩) ?_
 refine w_om (a := .ptr 1 0) (σ'' := ⟨[(30, [.u 0, .list 0 [] .full]), (30, [.u 0, .list 0 [] .full])], [], [], 0, false⟩) ?_
 refine w_om (σ'' := ⟨[(30, (Enc.cells ((Ck.mk 2 []) : Ck))), (30, [.u 0, .list 0 [] .full])], [], [], 0, false⟩) (h := op_storeW (n := 2) rfl rfl rfl rfl rfl rfl rfl rfl (by decide)) ?_
 refine w_om (σ'' := ⟨[(30, (Enc.cells ((Ck.mk 2 []) : Ck))), (30, (Enc.cells ((Ck.mk 3 []) : Ck)))], [], [], 0, false⟩) (h := op_storeW (n := 2) rfl rfl rfl rfl rfl rfl rfl rfl (by decide)) ?_
 refine w_seq (w_region ?_)
 refine w_o (a := .clos 24 []) ?_
 refine w_seq ?_
 refine w_seq ?_
 refine w_draw (k0 := 0) (id := 8) 49 (by kernel_rfl) (by kernel_rfl) ?_
 refine h_mv ?_
 refine h_mv ?_
 obtain ⟨g1, h⟩ := chk_e h
 refine h_o (a := .i (x2.2 + x3.2.2)) (h := q_add rfl rfl rfl rfl g1.1 g1.2) ?_
 refine h_mv ?_
 obtain ⟨g2, h⟩ := chk_e h
 refine h_o (a := .i ((x2.2 + x3.2.2) + x4.2)) (h := q_add rfl rfl rfl rfl g2.1 g2.2) ?_
 refine h_mv ?_
 obtain ⟨g3, h⟩ := chk_e h
 refine h_o (a := .i (((x2.2 + x3.2.2) + x4.2) + x5.2)) (h := q_add rfl rfl rfl rfl g3.1 g3.2) ?_
 refine h_o (a := .b ((((x2.2 + x3.2.2) + x4.2) + x5.2) != 0)) ?_
 refine bif_e h (fun hc1 h => ?_) (fun hc1 h => ?_)
 refine h_o (a := .b true) (h := q_bool rfl hc1) ?_
 refine h_po ?_
 refine h_po ?_
 refine h_o (a := .b true) ?_
 refine h_mv ?_
 refine h_po ?_
 refine h_po ?_
 refine h_o (a := .b true) ?_
 refine h_mv ?_
 refine h_po ?_
 refine h_po ?_
 refine h_po ?_
 refine h_po ?_
 refine h_o (a := .b true) ?_
 refine h_mv ?_
 refine h_po ?_
 refine h_po ?_
 refine h_po ?_
 refine h_po ?_
 refine h_po ?_
 refine h_po ?_
 refine h_po ?_
 refine h_po ?_
 refine h_po ?_
 refine h_po ?_
 refine h_po ?_
 refine h_po ?_
 refine h_po ?_
 refine h_po ?_
 refine h_po ?_
 refine h_o (a := .b true) ?_
 refine h_mv ?_
 refine h_po ?_
 refine h_po ?_
 refine h_po ?_
 refine h_po ?_
 refine h_po ?_
 refine h_po ?_
 refine h_po ?_
 refine h_po ?_
 refine h_po ?_
 refine h_end ?_
 refine w_po ?_
 refine w_po ?_
 refine w_o (a := .b true) ?_
 refine w_true rfl ?_
 refine w_seq (w_region ?_)
 refine w_o (a := .b false) ?_
 exact end_b h
 refine h_o (a := .b false) (h := q_bool rfl hc1) ?_
 refine h_met rfl rfl ?_
 refine h_mv ?_
 refine h_met rfl rfl ?_
 refine h_o (a := .b (!(x2.1 == ([34, 97, 98, 34, 32, 116, 50, 32, 34, 99, 34, 32, 101, 111, 102] : List UInt8)))) (h := q_strne rfl rfl rfl) ?_
 refine h_o (a := .b (!(x2.1 == ([34, 97, 98, 34, 32, 116, 50, 32, 34, 99, 34, 32, 101, 111, 102] : List UInt8)))) ?_
 refine bif_e h (fun hc2 h => ?_) (fun hc2 h => ?_)
 refine h_o (a := .b true) (h := q_bool rfl hc2) ?_
 refine h_po ?_
 refine h_po ?_
 refine h_o (a := .b true) ?_
 refine h_mv ?_
 refine h_po ?_
 refine h_po ?_
 refine h_po ?_
 refine h_po ?_
 refine h_o (a := .b true) ?_
 refine h_mv ?_
 refine h_po ?_
 refine h_po ?_
 refine h_po ?_
 refine h_po ?_
 refine h_po ?_
 refine h_po ?_
 refine h_po ?_
 refine h_po ?_
 refine h_po ?_
 refine h_po ?_
 refine h_po ?_
 refine h_po ?_
 refine h_po ?_
 refine h_po ?_
 refine h_po ?_
 refine h_o (a := .b true) ?_
 refine h_mv ?_
 refine h_po ?_
 refine h_po ?_
 refine h_po ?_
 refine h_po ?_
 refine h_po ?_
 refine h_po ?_
 refine h_po ?_
 refine h_po ?_
 refine h_po ?_
 refine h_end ?_
 refine w_po ?_
 refine w_po ?_
 refine w_o (a := .b true) ?_
 refine w_true rfl ?_
 refine w_seq (w_region ?_)
 refine w_o (a := .b false) ?_
 exact end_b h
 refine h_o (a := .b false) (h := q_bool rfl hc2) ?_
 refine h_met rfl rfl ?_
 refine h_mv ?_
 refine h_met rfl rfl ?_
 refine h_o (a := .b (x3.2.1 != (-1))) ?_
 refine h_o (a := .b (x3.2.1 != (-1))) ?_
 refine bif_e h (fun hc3 h => ?_) (fun hc3 h => ?_)
 refine h_o (a := .b true) (h := q_bool rfl hc3) ?_
 refine h_po ?_
 refine h_po ?_
 refine h_po ?_
 refine h_po ?_
 refine h_o (a := .b true) ?_
 refine h_mv ?_
 refine h_po ?_
 refine h_po ?_
 refine h_po ?_
 refine h_po ?_
 refine h_po ?_
 refine h_po ?_
 refine h_po ?_
 refine h_po ?_
 refine h_po ?_
 refine h_po ?_
 refine h_po ?_
 refine h_po ?_
 refine h_po ?_
 refine h_po ?_
 refine h_po ?_
 refine h_o (a := .b true) ?_
 refine h_mv ?_
 refine h_po ?_
 refine h_po ?_
 refine h_po ?_
 refine h_po ?_
 refine h_po ?_
 refine h_po ?_
 refine h_po ?_
 refine h_po ?_
 refine h_po ?_
 refine h_end ?_
 refine w_po ?_
 refine w_po ?_
 refine w_o (a := .b true) ?_
 refine w_true rfl ?_
 refine w_seq (w_region ?_)
 refine w_o (a := .b false) ?_
 exact end_b h
 refine h_o (a := .b false) (h := q_bool rfl hc3) ?_
 refine h_met rfl rfl ?_
 refine h_mv ?_
 refine h_met rfl rfl ?_
 refine h_mv ?_
 refine h_met rfl rfl ?_
 obtain ⟨x6, hx6, h⟩ := bindE_e h
 refine h_call (args' := [.list (List.length (x3.1 : List Ev)) (Enc.cellsL (x3.1 : List Ev)) .none, .list (List.length (x1 : List Ev)) (Enc.cellsL (x1 : List Ev)) .none]) (r := .b x6) (eqevs_sh fuel x3.1 x1 x6 hx6) rfl rfl rfl (stripL_cons (strip_l (Enc.cloL _)) (stripL_cons (strip_l (Enc.cloL _)) rfl)) (okTrimL_cons (okTrim_l (Enc.cloL _)) (okTrimL_cons (okTrim_l (Enc.cloL _)) rfl)) (by dsimp only [aput, List.set]) ?_
 refine h_met rfl rfl ?_
 refine h_o (a := .b (!x6)) ?_
 refine h_o (a := .b (!x6)) ?_
 refine bif_e h (fun hc4 h => ?_) (fun hc4 h => ?_)
 refine h_o (a := .b true) (h := q_bool rfl hc4) ?_
 refine h_po ?_
 refine h_po ?_
 refine h_po ?_
 refine h_po ?_
 refine h_po ?_
 refine h_po ?_
 refine h_po ?_
 refine h_po ?_
 refine h_po ?_
 refine h_po ?_
 refine h_po ?_
 refine h_po ?_
 refine h_po ?_
 refine h_po ?_
 refine h_po ?_
 refine h_o (a := .b true) ?_
 refine h_mv ?_
 refine h_po ?_
 refine h_po ?_
 refine h_po ?_
 refine h_po ?_
 refine h_po ?_
 refine h_po ?_
 refine h_po ?_
 refine h_po ?_
 refine h_po ?_
 refine h_end ?_
 refine w_po ?_
 refine w_po ?_
 refine w_o (a := .b true) ?_
 refine w_true rfl ?_
 refine w_seq (w_region ?_)
 refine w_o (a := .b false) ?_
 exact end_b h
 refine h_o (a := .b false) (h := q_bool rfl hc4) ?_
 refine h_met rfl rfl ?_
 refine h_mv ?_
 refine h_met rfl rfl ?_
 refine h_mv ?_
 refine h_met rfl rfl ?_
 obtain ⟨x7, hx7, h⟩ := bindE_e h
 refine h_call (args' := [.s ([97] : List UInt8)]) (r := .agg (Enc.cells (x7 : Ck))) (piece_sh ([97] : List UInt8) x7 hx7) rfl rfl rfl (stripL_cons rfl rfl) (by kernel_rfl) (by dsimp only [aput, List.set]) ?_
 refine h_met rfl rfl ?_
 refine h_mv ?_
 refine h_met rfl rfl ?_
 obtain ⟨x8, hx8, h⟩ := bindE_e h
 refine h_call (args' := [.s ([] : List UInt8)]) (r := .agg (Enc.cells (x8 : Ck))) (piece_sh ([] : List UInt8) x8 hx8) rfl rfl rfl (stripL_cons rfl rfl) (by kernel_rfl) (by dsimp only [aput, List.set]) ?_
 refine h_met rfl rfl ?_
 refine h_mv ?_
 refine h_met rfl rfl ?_
 obtain ⟨x9, hx9, h⟩ := bindE_e h
 refine h_call (args' := [.s ([98] : List UInt8)]) (r := .agg (Enc.cells (x9 : Ck))) (piece_sh ([98] : List UInt8) x9 hx9) rfl rfl rfl (stripL_cons rfl rfl) (by kernel_rfl) (by dsimp only [aput, List.set]) ?_
 refine h_met rfl rfl ?_
 refine h_o (a := .agg (Enc.cells ((Ck.mk 2 []) : Ck))) ?_
 refine h_met rfl rfl ?_
 refine h_o (a := .agg (Enc.cells ((Ck.mk 2 []) : Ck))) ?_
 refine h_met rfl rfl ?_
 refine h_mv ?_
 refine h_met rfl rfl ?_
 obtain ⟨x10, hx10, h⟩ := bindE_e h
 refine h_call (args' := [.s ([99] : List UInt8)]) (r := .agg (Enc.cells (x10 : Ck))) (piece_sh ([99] : List UInt8) x10 hx10) rfl rfl rfl (stripL_cons rfl rfl) (by kernel_rfl) (by dsimp only [aput, List.set]) ?_
 refine h_met rfl rfl ?_
 refine h_o (a := .agg (Enc.cells ((Ck.mk 3 []) : Ck))) ?_
 refine h_met rfl rfl ?_
 refine h_o (a := .list (List.length ([x7, x8, x9, (Ck.mk 2 []), (Ck.mk 2 []), x10, (Ck.mk 3 [])] : List Ck)) (Enc.cellsL ([x7, x8, x9, (Ck.mk 2 []), (Ck.mk 2 []), x10, (Ck.mk 3 [])] : List Ck)) .full) (h := q_lit (α := Ck) (l := [x7, x8, x9, (Ck.mk 2 []), (Ck.mk 2 []), x10, (Ck.mk 3 [])]) (cs := Enc.cells (x7 : Ck) ++ (Enc.cells (x8 : Ck) ++ (Enc.cells (x9 : Ck) ++ (Enc.cells ((Ck.mk 2 []) : Ck) ++ (Enc.cells ((Ck.mk 2 []) : Ck) ++ (Enc.cells (x10 : Ck) ++ (Enc.cells ((Ck.mk 3 []) : Ck) ++ []))))))) (by kernel_rfl) (by rw [Enc.cons, Enc.cons, Enc.cons, Enc.cons, Enc.cons, Enc.cons, Enc.cons, Enc.nil])) ?_
 refine h_met rfl rfl ?_
 obtain ⟨x11, hx11, h⟩ := bindE_e h
 refine h_call (args' := [.list (List.length (x4.1 : List Ck)) (Enc.cellsL (x4.1 : List Ck)) .none, .list (List.length ([x7, x8, x9, (Ck.mk 2 []), (Ck.mk 2 []), x10, (Ck.mk 3 [])] : List Ck)) (Enc.cellsL ([x7, x8, x9, (Ck.mk 2 []), (Ck.mk 2 []), x10, (Ck.mk 3 [])] : List Ck)) .none]) (r := .b x11) (chunks_sh fuel x4.1 [x7, x8, x9, (Ck.mk 2 []), (Ck.mk 2 []), x10, (Ck.mk 3 [])] x11 hx11) rfl rfl rfl (stripL_cons (strip_l (Enc.cloL _)) (stripL_cons (strip_l (Enc.cloL _)) rfl)) (okTrimL_cons (okTrim_l (Enc.cloL _)) (okTrimL_cons (okTrim_l (Enc.cloL _)) rfl)) (by dsimp only [aput, List.set]) ?_
 refine h_met rfl rfl ?_
 refine h_o (a := .b (!x11)) ?_
 refine h_o (a := .b (!x11)) ?_
 refine bif_e h (fun hc5 h => ?_) (fun hc5 h => ?_)
 refine h_o (a := .b true) (h := q_bool rfl hc5) ?_
 refine h_po ?_
 refine h_po ?_
 refine h_po ?_
 refine h_po ?_
 refine h_po ?_
 refine h_po ?_
 refine h_po ?_
 refine h_po ?_
 refine h_po ?_
 refine h_end ?_
 refine w_po ?_
 refine w_po ?_
 refine w_o (a := .b true) ?_
 refine w_true rfl ?_
 refine w_seq (w_region ?_)
 refine w_o (a := .b false) ?_
 exact end_b h
 refine h_o (a := .b false) (h := q_bool rfl hc5) ?_
 refine h_met rfl rfl ?_
 refine h_mv ?_
 refine h_met rfl rfl ?_
 refine h_mv ?_
 refine h_met rfl rfl ?_
 obtain ⟨x12, hx12, h⟩ := bindE_e h
 refine h_call (args' := [.s ([97, 98] : List UInt8)]) (r := .agg (Enc.cells (x12 : Ck))) (piece_sh ([97, 98] : List UInt8) x12 hx12) rfl rfl rfl (stripL_cons rfl rfl) (by kernel_rfl) (by dsimp only [aput, List.set]) ?_
 refine h_met rfl rfl ?_
 refine h_o (a := .agg (Enc.cells ((Ck.mk 2 []) : Ck))) ?_
 refine h_met rfl rfl ?_
 refine h_o (a := .agg (Enc.cells ((Ck.mk 2 []) : Ck))) ?_
 refine h_met rfl rfl ?_
 refine h_mv ?_
 refine h_met rfl rfl ?_
 obtain ⟨x13, hx13, h⟩ := bindE_e h
 refine h_call (args' := [.s ([99] : List UInt8)]) (r := .agg (Enc.cells (x13 : Ck))) (piece_sh ([99] : List UInt8) x13 hx13) rfl rfl rfl (stripL_cons rfl rfl) (by kernel_rfl) (by dsimp only [aput, List.set]) ?_
 refine h_met rfl rfl ?_
 refine h_o (a := .agg (Enc.cells ((Ck.mk 3 []) : Ck))) ?_
 refine h_met rfl rfl ?_
 refine h_o (a := .list (List.length ([x12, (Ck.mk 2 []), (Ck.mk 2 []), x13, (Ck.mk 3 [])] : List Ck)) (Enc.cellsL ([x12, (Ck.mk 2 []), (Ck.mk 2 []), x13, (Ck.mk 3 [])] : List Ck)) .full) (h := q_lit (α := Ck) (l := [x12, (Ck.mk 2 []), (Ck.mk 2 []), x13, (Ck.mk 3 [])]) (cs := Enc.cells (x12 : Ck) ++ (Enc.cells ((Ck.mk 2 []) : Ck) ++ (Enc.cells ((Ck.mk 2 []) : Ck) ++ (Enc.cells (x13 : Ck) ++ (Enc.cells ((Ck.mk 3 []) : Ck) ++ []))))) (by kernel_rfl) (by rw [Enc.cons, Enc.cons, Enc.cons, Enc.cons, Enc.cons, Enc.nil])) ?_
 refine h_end ?_
 refine w_met rfl rfl ?_
 obtain ⟨x14, hx14, h⟩ := bindE_e h
 refine w_callc (args' := [.list (List.length (x5.1 : List Ck)) (Enc.cellsL (x5.1 : List Ck)) .none, .list (List.length ([x12, (Ck.mk 2 []), (Ck.mk 2 []), x13, (Ck.mk 3 [])] : List Ck)) (Enc.cellsL ([x12, (Ck.mk 2 []), (Ck.mk 2 []), x13, (Ck.mk 3 [])] : List Ck)) .none]) (r := .b x14) (chunks_sh fuel x5.1 [x12, (Ck.mk 2 []), (Ck.mk 2 []), x13, (Ck.mk 3 [])] x14 hx14) rfl rfl (stripL_cons (strip_l (Enc.cloL _)) (stripL_cons (strip_l (Enc.cloL _)) rfl)) (okTrimL_cons (okTrim_l (Enc.cloL _)) (okTrimL_cons (okTrim_l (Enc.cloL _)) rfl)) (by dsimp only [aput, List.set]) ?_
 refine w_met rfl rfl ?_
 refine w_o (a := .b (!x14)) ?_
 refine w_o (a := .b (!x14)) ?_
 refine bif_e h (fun hc6 h => ?_) (fun hc6 h => ?_)
 refine w_condT hc6 rfl ?_
 refine w_seq (w_region ?_)
 refine w_o (a := .b false) ?_
 exact end_b h
 refine w_condF hc6 rfl ?_
 refine w_cutF h [0, 1, 2, 3, 4, 5, 6, 7, 8, 9, 10, 11, 12, 13, 14, 15, 16, 17, 18, 19, 20, 21, 22, 23, 24, 25, 26, 27, 28, 29, 30, 31, 32, 33, 34, 35, 36, 37, 38, 39, 40, 41, 42, 43, 44, 45, 46, 47, 48, 49, 50, 51, 52, 53, 54, 55, 56, 57, 58, 59, 60, 61, 62, 63, 64, 65, 66, 67, 68, 69, 70, 71, 72, 73, 74, 75, 76, 77, 78, 79, 80, 81, 82, 83, 84, 85, 86, 87, 88, 89, 90, 91, 92, 93, 94, 95, 96, 97, 98, 99, 100, 101, 102, 103, 104, 105, 106, 107, 108, 109, 110, 111, 112, 113, 114, 115, 116, 117, 118, 119, 120, 121, 122, 123, 124, 125, 126, 127, 128, 129, 130, 131, 132] (fun j1 => []) (fun j1 => ⟨[(30, (Enc.cells ((Ck.mk 2 []) : Ck))), (30, (Enc.cells ((Ck.mk 3 []) : Ck)))], [], [], 0, false⟩) ?_ ?_
 intro or1 h hr1
 refine w_seq (w_region ?_)
 refine w_o (a := .list (List.length ([([116, 48] : List UInt8), ([116, 49, 32, 116, 49] : List UInt8), ([34, 97, 34, 32, 34, 98, 34] : List UInt8), ([101, 111, 102, 32, 34, 97, 34] : List UInt8), ([116, 48, 49] : List UInt8)] : List (List UInt8))) (Enc.cellsL ([([116, 48] : List UInt8), ([116, 49, 32, 116, 49] : List UInt8), ([34, 97, 34, 32, 34, 98, 34] : List UInt8), ([101, 111, 102, 32, 34, 97, 34] : List UInt8), ([116, 48, 49] : List UInt8)] : List (List UInt8))) .full) (h := op_q (q_lit (α := (List UInt8)) (l := [([116, 48] : List UInt8), ([116, 49, 32, 116, 49] : List UInt8), ([34, 97, 34, 32, 34, 98, 34] : List UInt8), ([101, 111, 102, 32, 34, 97, 34] : List UInt8), ([116, 48, 49] : List UInt8)]) (cs := Enc.cells (([116, 48] : List UInt8) : (List UInt8)) ++ (Enc.cells (([116, 49, 32, 116, 49] : List UInt8) : (List UInt8)) ++ (Enc.cells (([34, 97, 34, 32, 34, 98, 34] : List UInt8) : (List UInt8)) ++ (Enc.cells (([101, 111, 102, 32, 34, 97, 34] : List UInt8) : (List UInt8)) ++ (Enc.cells (([116, 48, 49] : List UInt8) : (List UInt8)) ++ []))))) (by kernel_rfl) (by rw [Enc.cons, Enc.cons, Enc.cons, Enc.cons, Enc.cons, Enc.nil]))) ?_
 refine w_o (a := .i (List.length [([116, 48] : List UInt8), ([116, 49, 32, 116, 49] : List UInt8), ([34, 97, 34, 32, 34, 98, 34] : List UInt8), ([101, 111, 102, 32, 34, 97, 34] : List UInt8), ([116, 48, 49] : List UInt8)] : Int)) ?_
 refine w_o (a := .i 0) ?_
 refine w_block ?_
 refine w_loopF h [0, 1, 2, 3, 4, 5, 6, 7, 8, 9, 10, 11, 12, 13, 14, 15, 16, 17, 18, 19, 20, 21, 22, 23, 24, 25, 26, 27, 28, 29, 30, 31, 32, 33, 34, 35, 36, 37, 38, 39, 40, 41, 42, 43, 44, 45, 46, 47, 48, 49, 50, 51, 52, 53, 54, 55, 56, 57, 58, 59, 60, 61, 62, 63, 64, 65, 66, 67, 68, 69, 70, 71, 72, 73, 74, 75, 76, 77, 78, 79, 80, 81, 82, 83, 84, 85, 86, 87, 88, 89, 90, 91, 92, 93, 94, 95, 96, 97, 100, 101, 102, 103, 104, 105, 106, 107, 108, 109, 110, 111, 112, 113, 114, 115, 116, 117, 118, 119, 120, 121, 122, 123, 124, 125, 126, 127, 128, 129, 130, 131, 132] (fun s1 => [(100, .i s1)]) (fun s1 => ⟨[(30, (Enc.cells ((Ck.mk 2 []) : Ck))), (30, (Enc.cells ((Ck.mk 3 []) : Ck)))], [], [], 0, false⟩) ?_ ?_
 exact wm_of (bl 133 2218388550399401452619230609408) (by kernel_rfl) (by kernel_rfl)
 intro s1 p1 h
 refine w_start (by dsimp only [setAll, topAll, List.foldl, List.set]) rfl ?_
 refine w_seq (w_region ?_)
 refine w_o (a := .b (decide (s1 < (List.length [([116, 48] : List UInt8), ([116, 49, 32, 116, 49] : List UInt8), ([34, 97, 34, 32, 34, 98, 34] : List UInt8), ([101, 111, 102, 32, 34, 97, 34] : List UInt8), ([116, 48, 49] : List UInt8)] : Int)))) ?_
 refine w_seq ?_
 refine bif_e h (fun hc7 h => ?_) (fun hc7 h => ?_)
 refine w_condT hc7 rfl ?_
 refine w_seq ?_
 refine w_block ?_
 refine w_seq (w_region ?_)
 refine w_mv ?_
 obtain ⟨g4, h⟩ := chk_e h
 obtain ⟨x15, hx15, h⟩ := letE_e h
 refine w_o (a := .iptr (Enc.cells x15 ++ Enc.cellsL (List.drop (Int.toNat s1 + 1) [([116, 48] : List UInt8), ([116, 49, 32, 116, 49] : List UInt8), ([34, 97, 34, 32, 34, 98, 34] : List UInt8), ([101, 111, 102, 32, 34, 97, 34] : List UInt8), ([116, 48, 49] : List UInt8)]))) (h := op_q (by rw [← hx15]; exact (q_idx (α := (List UInt8)) (l := [([116, 48] : List UInt8), ([116, 49, 32, 116, 49] : List UInt8), ([34, 97, 34, 32, 34, 98, 34] : List UInt8), ([101, 111, 102, 32, 34, 97, 34] : List UInt8), ([116, 48, 49] : List UInt8)]) g4 rfl rfl rfl rfl rfl))) ?_
 refine w_o (a := .s x15) ?_
 refine w_mv ?_
 refine w_mv ?_
 refine w_seq (w_region ?_)
 refine w_mv ?_
 obtain ⟨x16, hx16, h⟩ := bindE_e h
 refine w_callc (args' := [.s x15]) (r := .tup [.list (List.length (x16.1 : List Ev)) (Enc.cellsL (x16.1 : List Ev)) .none, .i x16.2.1, .i x16.2.2]) (read_sh fuel x15 x16 hx16) rfl rfl (stripL_cons rfl rfl) (by kernel_rfl) (by dsimp only [aput, List.set]) ?_
 refine w_mv ?_
 refine w_ex ?_
 refine w_ex ?_
 refine w_ex ?_
 refine w_mv ?_
 refine w_mv ?_
 refine w_mv ?_
 refine w_seq (w_region ?_)
 refine w_mv ?_
 refine w_o (a := .list (List.length (([0, 1, 1, 1, 0] : List Int) : List Int)) (Enc.cellsL (([0, 1, 1, 1, 0] : List Int) : List Int)) .full) (h := op_q (q_lit (α := Int) (l := [0, 1, 1, 1, 0]) (cs := Enc.cells (0 : Int) ++ (Enc.cells (1 : Int) ++ (Enc.cells (1 : Int) ++ (Enc.cells (1 : Int) ++ (Enc.cells (0 : Int) ++ []))))) (by kernel_rfl) (by rw [Enc.cons, Enc.cons, Enc.cons, Enc.cons, Enc.cons, Enc.nil]))) ?_
 refine w_mv ?_
 obtain ⟨g5, h⟩ := chk_e h
 obtain ⟨x17, hx17, h⟩ := letE_e h
 refine w_o (a := .iptr (Enc.cells x17 ++ Enc.cellsL (List.drop (Int.toNat s1 + 1) ([0, 1, 1, 1, 0] : List Int)))) (h := op_q (by rw [← hx17]; exact (q_idx (α := Int) (l := ([0, 1, 1, 1, 0] : List Int)) g5 rfl rfl rfl rfl rfl))) ?_
 refine w_o (a := .i x17) ?_
 refine w_o (a := .b (x16.2.1 != x17)) ?_
 refine bif_e h (fun hc8 h => ?_) (fun hc8 h => ?_)
 refine w_o (a := .b true) (h := op_q (q_bool rfl hc8)) ?_
 refine w_po ?_
 refine w_po ?_
 refine w_o (a := .b true) ?_
 refine w_true rfl ?_
 refine w_seq (w_region ?_)
 refine w_o (a := .b false) ?_
 refine loop_exit h (fun h => ?_)
 replace h := cut_inr h hr1
 exact end_b h
 refine w_o (a := .b false) (h := op_q (q_bool rfl hc8)) ?_
 refine w_met rfl rfl ?_
 refine w_mv ?_
 refine w_met rfl rfl ?_
 refine w_o (a := .b (x16.2.2 != 321)) ?_
 refine w_o (a := .b (x16.2.2 != 321)) ?_
 refine bif_e h (fun hc9 h => ?_) (fun hc9 h => ?_)
 refine w_condT hc9 rfl ?_
 refine w_seq (w_region ?_)
 refine w_o (a := .b false) ?_
 refine loop_exit h (fun h => ?_)
 replace h := cut_inr h hr1
 exact end_b h
 refine w_condF hc9 rfl ?_
 refine w_region (k0 := 0) (id := 16) ?_
 obtain ⟨g6, h⟩ := chk_e h
 refine w_o (a := .i (s1 + 1)) (h := op_q (q_add rfl rfl rfl rfl g6.1 g6.2)) ?_
 refine w_mv ?_
 refine loop_next (p := p1) ((s1 + 1)) h ?_
 exact wm_of (bl 133 2218388550399401452619230609408) (by kernel_rfl) (by kernel_rfl)
 refine w_condF hc7 rfl ?_
 refine loop_exit h (fun h => ?_)
 refine cut_done (o := or1) () h ?_
 exact wm_of (bl 133 0) (by kernel_rfl) (by kernel_rfl)
 intro j1 h
 refine w_start (by dsimp only [setAll, topAll, List.foldl, List.set]) rfl ?_
 refine w_seq (w_region ?_)
 obtain ⟨x18, hx18, h⟩ := bindE_e h
 refine w_callc (args' := [.s ([101, 111, 102, 32, 116, 49] : List UInt8)]) (r := .tup [.list (List.length (x18.1 : List Ev)) (Enc.cellsL (x18.1 : List Ev)) .none, .i x18.2.1, .i x18.2.2]) (read_sh fuel ([101, 111, 102, 32, 116, 49] : List UInt8) x18 hx18) rfl rfl (stripL_cons rfl rfl) (by kernel_rfl) (by dsimp only [aput, List.set]) ?_
 refine w_mv ?_
 refine w_ex ?_
 refine w_ex ?_
 refine w_ex ?_
 refine w_mv ?_
 refine w_mv ?_
 refine w_mv ?_
 refine w_seq (w_region ?_)
 refine w_mv ?_
 refine w_o (a := .b (x18.2.1 == (-1))) ?_
 refine bif_e h (fun hc10 h => ?_) (fun hc10 h => ?_)
 refine w_o (a := .b true) (h := op_q (q_bool rfl hc10)) ?_
 refine w_met rfl rfl ?_
 refine w_mv ?_
 refine w_met rfl rfl ?_
 refine w_o (a := .b (x18.2.2 == 0)) ?_
 refine w_o (a := .b (x18.2.2 == 0)) ?_
 refine w_mv ?_
 exact end_b h
 refine w_o (a := .b false) (h := op_q (q_bool rfl hc10)) ?_
 refine w_po ?_
 refine w_po ?_
 refine w_o (a := .b false) ?_
 refine w_mv ?_
 exact end_b h
end Go.Ab

