/-
  schedule: ScheduleWrong.
-/
import Derived.Test.YtblibgbakbhlkaaGreatDoorZvW7
import Derived.Test.YtblibgbakbhlkaaGreatDoorZvIn
import Derived.Test.YtblibgbakbhlkaaGreatDoorZdQp
set_option linter.unusedSimpArgs false
set_option linter.unusedVariables false
namespace Go.Ab
open Go Go.RowKit Go.Fwd Go.Proofs
instance : Enc (List Ev) where
  inh := []
  cells x := [.list x.length (Enc.cellsL x) .none]
  cellsL l := l.map fun x => .list x.length (Enc.cellsL x) .none
  sz := 1
  pos := by decide
  nil := rfl
  cons _ _ := rfl
  len _ := rfl
  clo x := clo_cons (clo_list (Enc.cloL x)) rfl
def F_wrong (fuel : Nat) (l : (List UInt8)) (how : Int) (at_ : Int) (n : Int) : Option Bool :=
  (bindE (F_made fuel l 0) (fun x1 => (chk (-9223372036854775808 ≤ at_ ∧ at_ < 9223372036854775808) (chk (-9223372036854775808 ≤ ((List.length x1 : Int) + 1) ∧ ((List.length x1 : Int) + 1) < 9223372036854775808) (chk ((0 ≤ at_ ∧ at_ < 9223372036854775808) ∧ 0 < ((List.length x1 : Int) + 1)) (chk (0 ≤ (Int.tmod how 5) ∧ (Int.tmod how 5) < (List.length [[(Ev.mk 0 0)], [(Ev.mk (max how 4) 0)], [(Ev.mk 2 (max how 1))], [(Ev.mk 3 0), (Ev.mk 3 0)], [(Ev.mk 3 0), (Ev.mk 1 how)]] : Int)) (letE (ix [[(Ev.mk 0 0)], [(Ev.mk (max how 4) 0)], [(Ev.mk 2 (max how 1))], [(Ev.mk 3 0), (Ev.mk 3 0)], [(Ev.mk 3 0), (Ev.mk 1 how)]] (Int.tmod how 5)) (fun x2 => (bif (List.isEmpty x1) then (chk ((Int.tmod at_ ((List.length x1 : Int) + 1)) = 0 ∧ 0 < List.length x2 ∧ List.length x2 * 2 ≤ 140737488355328) (bindE (F_check fuel x2) (fun x3 => (bindE (F_cut fuel x2 []) (fun x4 => (bindE (F_write fuel x2) (fun x5 => (cutE (τ := Unit) (bif (decide (x3.1 < (Int.tmod at_ ((List.length x1 : Int) + 1)))) then (some (Sum.inr false)) else (chk (-9223372036854775808 ≤ ((Int.tmod at_ ((List.length x1 : Int) + 1)) + 1) ∧ ((Int.tmod at_ ((List.length x1 : Int) + 1)) + 1) < 9223372036854775808) (bif (decide (x3.1 > ((Int.tmod at_ ((List.length x1 : Int) + 1)) + 1))) then (some (Sum.inr false)) else (bif (decide ((Int.tmod how 5) < 3)) then (bif (x3.1 != (Int.tmod at_ ((List.length x1 : Int) + 1))) then (some (Sum.inr false)) else (bif (x3.2 != 320) then (some (Sum.inr false)) else (bif (x4.2 != x3.2) then (some (Sum.inr false)) else (bif (x5.2 != x3.2) then (some (Sum.inr false)) else (some (Sum.inl ())))))) else (bif (x3.2 != 320) then (some (Sum.inr false)) else (bif (x4.2 != x3.2) then (some (Sum.inr false)) else (bif (x5.2 != x3.2) then (some (Sum.inr false)) else (some (Sum.inl ()))))))))) (fun j1 => (bindE (F_cut fuel x1 []) (fun x6 => (chk (-9223372036854775808 ≤ at_ ∧ at_ < 9223372036854775808) (chk (-9223372036854775808 ≤ ((List.length x6.1 : Int) + 1) ∧ ((List.length x6.1 : Int) + 1) < 9223372036854775808) (chk ((0 ≤ at_ ∧ at_ < 9223372036854775808) ∧ 0 < ((List.length x6.1 : Int) + 1)) (bif (x6.2 != 0) then (some false) else (chk (0 ≤ how ∧ how < 256) (chk (0 ≤ (Int.tmod how 4) ∧ (Int.tmod how 4) < (List.length [(Ck.mk 0 []), (Ck.mk (max how 4) []), (Ck.mk 2 ([(u8of how)] : List UInt8)), (Ck.mk 3 ([0] : List UInt8))] : Int)) (letE (ix [(Ck.mk 0 []), (Ck.mk (max how 4) []), (Ck.mk 2 ([(u8of how)] : List UInt8)), (Ck.mk 3 ([0] : List UInt8))] (Int.tmod how 4)) (fun x7 => (bif (List.isEmpty x6.1) then (chk ((Int.tmod at_ ((List.length x6.1 : Int) + 1)) = 0 ∧ 0 < List.length [x7] ∧ List.length [x7] * 32 ≤ 140737488355328) (bindE (F_join fuel [x7]) (fun x8 => (chk ((Int.tmod at_ ((List.length x6.1 : Int) + 1)) = 0 ∧ 0 < List.length [x7] ∧ List.length [x7] * 32 ≤ 140737488355328) (bindE (F_alike fuel [x7] []) (fun x9 => (bindE (F_cut fuel x1 ([1, (min n (-1))] : List Int)) (fun x10 => (bif (x8.2.1 == (Int.tmod at_ ((List.length x6.1 : Int) + 1))) then (bif (x8.2.2 == 320) then (bif (x9.2 == x8.2.2) then (bif (x10.2 == 2) then (bindE (F_awake fuel) (fun x11 => (some x11))) else (some false)) else (some false)) else (some false)) else (some false)))))))))) else (chk (List.length x6.1 * 32 ≤ 140737488355328) (chk (0 ≤ (Int.tmod at_ ((List.length x6.1 : Int) + 1)) ∧ (Int.tmod at_ ((List.length x6.1 : Int) + 1)) ≤ (List.length x6.1 : Int) ∧ 0 < List.length x6.1 ∧ 0 < List.length [x7] ∧ (List.length x6.1 + List.length [x7]) * 32 ≤ 140737488355328) (letE (insL x6.1 [x7] (Int.tmod at_ ((List.length x6.1 : Int) + 1))) (fun x12 => (bindE (F_join fuel x12) (fun x13 => (chk (List.length x6.1 * 32 ≤ 140737488355328) (chk (0 ≤ (Int.tmod at_ ((List.length x6.1 : Int) + 1)) ∧ (Int.tmod at_ ((List.length x6.1 : Int) + 1)) ≤ (List.length x6.1 : Int) ∧ 0 < List.length x6.1 ∧ 0 < List.length [x7] ∧ (List.length x6.1 + List.length [x7]) * 32 ≤ 140737488355328) (letE (insL x6.1 [x7] (Int.tmod at_ ((List.length x6.1 : Int) + 1))) (fun x14 => (bindE (F_alike fuel x14 []) (fun x15 => (bindE (F_cut fuel x1 ([1, (min n (-1))] : List Int)) (fun x16 => (bif (x13.2.1 == (Int.tmod at_ ((List.length x6.1 : Int) + 1))) then (bif (x13.2.2 == 320) then (bif (x15.2 == x13.2.2) then (bif (x16.2 == 2) then (bindE (F_awake fuel) (fun x17 => (some x17))) else (some false)) else (some false)) else (some false)) else (some false)))))))))))))))))))))))))))))))))))) else (chk (List.length x1 * 2 ≤ 140737488355328) (chk (0 ≤ (Int.tmod at_ ((List.length x1 : Int) + 1)) ∧ (Int.tmod at_ ((List.length x1 : Int) + 1)) ≤ (List.length x1 : Int) ∧ 0 < List.length x1 ∧ 0 < List.length x2 ∧ (List.length x1 + List.length x2) * 2 ≤ 140737488355328) (letE (insL x1 x2 (Int.tmod at_ ((List.length x1 : Int) + 1))) (fun x18 => (bindE (F_check fuel x18) (fun x19 => (bindE (F_cut fuel x18 []) (fun x20 => (bindE (F_write fuel x18) (fun x21 => (cutE (τ := Unit) (bif (decide (x19.1 < (Int.tmod at_ ((List.length x1 : Int) + 1)))) then (some (Sum.inr false)) else (chk (-9223372036854775808 ≤ ((Int.tmod at_ ((List.length x1 : Int) + 1)) + 1) ∧ ((Int.tmod at_ ((List.length x1 : Int) + 1)) + 1) < 9223372036854775808) (bif (decide (x19.1 > ((Int.tmod at_ ((List.length x1 : Int) + 1)) + 1))) then (some (Sum.inr false)) else (bif (decide ((Int.tmod how 5) < 3)) then (bif (x19.1 != (Int.tmod at_ ((List.length x1 : Int) + 1))) then (some (Sum.inr false)) else (bif (x19.2 != 320) then (some (Sum.inr false)) else (bif (x20.2 != x19.2) then (some (Sum.inr false)) else (bif (x21.2 != x19.2) then (some (Sum.inr false)) else (some (Sum.inl ())))))) else (bif (x19.2 != 320) then (some (Sum.inr false)) else (bif (x20.2 != x19.2) then (some (Sum.inr false)) else (bif (x21.2 != x19.2) then (some (Sum.inr false)) else (some (Sum.inl ()))))))))) (fun j2 => (bindE (F_cut fuel x1 []) (fun x22 => (chk (-9223372036854775808 ≤ at_ ∧ at_ < 9223372036854775808) (chk (-9223372036854775808 ≤ ((List.length x22.1 : Int) + 1) ∧ ((List.length x22.1 : Int) + 1) < 9223372036854775808) (chk ((0 ≤ at_ ∧ at_ < 9223372036854775808) ∧ 0 < ((List.length x22.1 : Int) + 1)) (bif (x22.2 != 0) then (some false) else (chk (0 ≤ how ∧ how < 256) (chk (0 ≤ (Int.tmod how 4) ∧ (Int.tmod how 4) < (List.length [(Ck.mk 0 []), (Ck.mk (max how 4) []), (Ck.mk 2 ([(u8of how)] : List UInt8)), (Ck.mk 3 ([0] : List UInt8))] : Int)) (letE (ix [(Ck.mk 0 []), (Ck.mk (max how 4) []), (Ck.mk 2 ([(u8of how)] : List UInt8)), (Ck.mk 3 ([0] : List UInt8))] (Int.tmod how 4)) (fun x23 => (bif (List.isEmpty x22.1) then (chk ((Int.tmod at_ ((List.length x22.1 : Int) + 1)) = 0 ∧ 0 < List.length [x23] ∧ List.length [x23] * 32 ≤ 140737488355328) (bindE (F_join fuel [x23]) (fun x24 => (chk ((Int.tmod at_ ((List.length x22.1 : Int) + 1)) = 0 ∧ 0 < List.length [x23] ∧ List.length [x23] * 32 ≤ 140737488355328) (bindE (F_alike fuel [x23] []) (fun x25 => (bindE (F_cut fuel x1 ([1, (min n (-1))] : List Int)) (fun x26 => (bif (x24.2.1 == (Int.tmod at_ ((List.length x22.1 : Int) + 1))) then (bif (x24.2.2 == 320) then (bif (x25.2 == x24.2.2) then (bif (x26.2 == 2) then (bindE (F_awake fuel) (fun x27 => (some x27))) else (some false)) else (some false)) else (some false)) else (some false)))))))))) else (chk (List.length x22.1 * 32 ≤ 140737488355328) (chk (0 ≤ (Int.tmod at_ ((List.length x22.1 : Int) + 1)) ∧ (Int.tmod at_ ((List.length x22.1 : Int) + 1)) ≤ (List.length x22.1 : Int) ∧ 0 < List.length x22.1 ∧ 0 < List.length [x23] ∧ (List.length x22.1 + List.length [x23]) * 32 ≤ 140737488355328) (letE (insL x22.1 [x23] (Int.tmod at_ ((List.length x22.1 : Int) + 1))) (fun x28 => (bindE (F_join fuel x28) (fun x29 => (chk (List.length x22.1 * 32 ≤ 140737488355328) (chk (0 ≤ (Int.tmod at_ ((List.length x22.1 : Int) + 1)) ∧ (Int.tmod at_ ((List.length x22.1 : Int) + 1)) ≤ (List.length x22.1 : Int) ∧ 0 < List.length x22.1 ∧ 0 < List.length [x23] ∧ (List.length x22.1 + List.length [x23]) * 32 ≤ 140737488355328) (letE (insL x22.1 [x23] (Int.tmod at_ ((List.length x22.1 : Int) + 1))) (fun x30 => (bindE (F_alike fuel x30 []) (fun x31 => (bindE (F_cut fuel x1 ([1, (min n (-1))] : List Int)) (fun x32 => (bif (x29.2.1 == (Int.tmod at_ ((List.length x22.1 : Int) + 1))) then (bif (x29.2.2 == 320) then (bif (x31.2 == x29.2.2) then (bif (x32.2 == 2) then (bindE (F_awake fuel) (fun x33 => (some x33))) else (some false)) else (some false)) else (some false)) else (some false))))))))))))))))))))))))))))))))))))))))))))))))
theorem ent5 : Ent Tryz.prog 5 := enters_of Tryz.func5 (by kernel_rfl) rfl
set_option maxRecDepth 100000 in
set_option maxHeartbeats 16000000 in
theorem wrong_sh (fuel : Nat) (l : (List UInt8)) (how : Int) (at_ : Int) (n : Int) (r : Bool) (h : F_wrong fuel l how at_ n = some r) : Pure (ITP Tryz.prog) Tryz.prog 5 [.list (List.length (l : List UInt8)) (Enc.cellsL (l : List UInt8)) .none, .raw (.int .u8 how), .raw (.int .u8 at_), .raw (.int .i64 n)] (.raw (.bool r)) := by
 obtain ⟨d, hd⟩ : ∃ d, Tryz.f5.body = some d := ⟨_, rfl⟩
 refine pure_of mix Tryz.func5 hd ent5 ?_
 cases hd
 unfold F_wrong at h
 refine w_start (by dsimp only [abeginS, Tryz.f5, List.length_cons, List.length_nil, Nat.zero_add, Nat.reduceAdd, Nat.reduceSub, List.replicate, List.cons_append, List.nil_append]) (by dsimp only [St.empty]) ?_
 refine w_seq (w_region ?_)
 refine w_o (a := .b false) ?_
 refine w_seq (w_region ?_)
 refine w_mv ?_
 obtain ⟨x1, hx1, h⟩ := bindE_e h
 refine w_callc (args' := [.list (List.length (l : List UInt8)) (Enc.cellsL (l : List UInt8)) .none, .u 0]) (r := .list (List.length (x1 : List Ev)) (Enc.cellsL (x1 : List Ev)) .none) (made_sh fuel l 0 x1 hx1) rfl rfl (stripL_cons (strip_l (Enc.cloL _)) (stripL_cons rfl rfl)) (okTrimL_cons (okTrim_l (Enc.cloL _)) (by kernel_rfl)) (by dsimp only [aput, List.set]) ?_
 refine w_mv ?_
 refine w_seq (w_region ?_)
 refine w_mv ?_
 obtain ⟨g1, h⟩ := chk_e h
 refine w_o (a := .i at_) (h := op_q (q_conv64 g1 rfl rfl rfl)) ?_
 refine w_mv ?_
 refine w_o (a := .i (List.length x1 : Int)) ?_
 obtain ⟨g2, h⟩ := chk_e h
 refine w_o (a := .i ((List.length x1 : Int) + 1)) (h := op_q (q_add rfl rfl rfl rfl g2.1 g2.2)) ?_
 obtain ⟨g3, h⟩ := chk_e h
 refine w_o (a := .i (Int.tmod at_ ((List.length x1 : Int) + 1))) (h := op_q (q_rem64 g3 rfl rfl rfl)) ?_
 refine w_mv ?_
 refine w_seq (w_region ?_)
 refine w_o (a := .agg (Enc.cells ((Ev.mk 0 0) : Ev))) ?_
 refine w_o (a := .list (List.length ([(Ev.mk 0 0)] : List Ev)) (Enc.cellsL ([(Ev.mk 0 0)] : List Ev)) .full) (h := op_q (q_lit (α := Ev) (l := [(Ev.mk 0 0)]) (cs := Enc.cells ((Ev.mk 0 0) : Ev) ++ []) rfl (by rw [Enc.cons, Enc.nil]))) ?_
 refine w_mv ?_
 refine w_o (a := .u (max how 4)) (h := op_q (q_max rfl rfl rfl rfl rfl)) ?_
 refine w_o (a := .agg (Enc.cells ((Ev.mk (max how 4) 0) : Ev))) ?_
 refine w_o (a := .list (List.length ([(Ev.mk (max how 4) 0)] : List Ev)) (Enc.cellsL ([(Ev.mk (max how 4) 0)] : List Ev)) .full) (h := op_q (q_lit (α := Ev) (l := [(Ev.mk (max how 4) 0)]) (cs := Enc.cells ((Ev.mk (max how 4) 0) : Ev) ++ []) rfl (by rw [Enc.cons, Enc.nil]))) ?_
 refine w_mv ?_
 refine w_o (a := .u (max how 1)) (h := op_q (q_max rfl rfl rfl rfl rfl)) ?_
 refine w_o (a := .agg (Enc.cells ((Ev.mk 2 (max how 1)) : Ev))) ?_
 refine w_o (a := .list (List.length ([(Ev.mk 2 (max how 1))] : List Ev)) (Enc.cellsL ([(Ev.mk 2 (max how 1))] : List Ev)) .full) (h := op_q (q_lit (α := Ev) (l := [(Ev.mk 2 (max how 1))]) (cs := Enc.cells ((Ev.mk 2 (max how 1)) : Ev) ++ []) rfl (by rw [Enc.cons, Enc.nil]))) ?_
 refine w_o (a := .agg (Enc.cells ((Ev.mk 3 0) : Ev))) ?_
 refine w_o (a := .agg (Enc.cells ((Ev.mk 3 0) : Ev))) ?_
 refine w_o (a := .list (List.length ([(Ev.mk 3 0), (Ev.mk 3 0)] : List Ev)) (Enc.cellsL ([(Ev.mk 3 0), (Ev.mk 3 0)] : List Ev)) .full) (h := op_q (q_lit (α := Ev) (l := [(Ev.mk 3 0), (Ev.mk 3 0)]) (cs := Enc.cells ((Ev.mk 3 0) : Ev) ++ (Enc.cells ((Ev.mk 3 0) : Ev) ++ [])) rfl (by rw [Enc.cons, Enc.cons, Enc.nil]))) ?_
 refine w_o (a := .agg (Enc.cells ((Ev.mk 3 0) : Ev))) ?_
 refine w_mv ?_
 refine w_o (a := .agg (Enc.cells ((Ev.mk 1 how) : Ev))) ?_
 refine w_o (a := .list (List.length ([(Ev.mk 3 0), (Ev.mk 1 how)] : List Ev)) (Enc.cellsL ([(Ev.mk 3 0), (Ev.mk 1 how)] : List Ev)) .full) (h := op_q (q_lit (α := Ev) (l := [(Ev.mk 3 0), (Ev.mk 1 how)]) (cs := Enc.cells ((Ev.mk 3 0) : Ev) ++ (Enc.cells ((Ev.mk 1 how) : Ev) ++ [])) rfl (by rw [Enc.cons, Enc.cons, Enc.nil]))) ?_
 refine w_qs (.list (List.length ([[(Ev.mk 0 0)], [(Ev.mk (max how 4) 0)], [(Ev.mk 2 (max how 1))], [(Ev.mk 3 0), (Ev.mk 3 0)], [(Ev.mk 3 0), (Ev.mk 1 how)]] : List (List Ev))) (Enc.cellsL ([[(Ev.mk 0 0)], [(Ev.mk (max how 4) 0)], [(Ev.mk 2 (max how 1))], [(Ev.mk 3 0), (Ev.mk 3 0)], [(Ev.mk 3 0), (Ev.mk 1 how)]] : List (List Ev))) .none) (a0 := .list 5 [.list (List.length ([(Ev.mk 0 0)] : List Ev)) (Enc.cellsL ([(Ev.mk 0 0)] : List Ev)) .full, .list (List.length ([(Ev.mk (max how 4) 0)] : List Ev)) (Enc.cellsL ([(Ev.mk (max how 4) 0)] : List Ev)) .full, .list (List.length ([(Ev.mk 2 (max how 1))] : List Ev)) (Enc.cellsL ([(Ev.mk 2 (max how 1))] : List Ev)) .full, .list (List.length ([(Ev.mk 3 0), (Ev.mk 3 0)] : List Ev)) (Enc.cellsL ([(Ev.mk 3 0), (Ev.mk 3 0)] : List Ev)) .full, .list (List.length ([(Ev.mk 3 0), (Ev.mk 1 how)] : List Ev)) (Enc.cellsL ([(Ev.mk 3 0), (Ev.mk 1 how)] : List Ev)) .full] .full) rfl rfl rfl (by kernel_rfl) (by simp only [strip, stripL, Enc.stripL]; rfl) (by dsimp only [aput, List.set]) ?_
 refine w_mv ?_
 refine w_o (a := .u (Int.tmod how 5)) ?_
 obtain ⟨g4, h⟩ := chk_e h
 obtain ⟨x2, hx2, h⟩ := letE_e h
 refine w_o (a := .iptr (Enc.cells x2 ++ Enc.cellsL (List.drop (Int.toNat (Int.tmod how 5) + 1) [[(Ev.mk 0 0)], [(Ev.mk (max how 4) 0)], [(Ev.mk 2 (max how 1))], [(Ev.mk 3 0), (Ev.mk 3 0)], [(Ev.mk 3 0), (Ev.mk 1 how)]]))) (h := op_q (by rw [← hx2]; exact (q_idx (α := (List Ev)) (l := [[(Ev.mk 0 0)], [(Ev.mk (max how 4) 0)], [(Ev.mk 2 (max how 1))], [(Ev.mk 3 0), (Ev.mk 3 0)], [(Ev.mk 3 0), (Ev.mk 1 how)]]) g4 rfl rfl rfl rfl rfl))) ?_
 refine w_o (a := .list (List.length (x2 : List Ev)) (Enc.cellsL (x2 : List Ev)) .none) ?_
 refine w_mv ?_
 refine w_seqX (w_region ?_)
 refine w_mv ?_
 refine bif_e h (fun hc1 h => ?_) (fun hc1 h => ?_)
 refine w_snd (r := .list 0 [] .full) (σ' := ⟨[], [], [], 0, false⟩) (cloneE_nil x1 hc1 _) rfl rfl ⟨rfl, rfl⟩ (by dsimp only [aput, List.set]) ?_
 refine w_mv ?_
 refine w_mv ?_
 obtain ⟨g5, h⟩ := chk_e h
 refine w_snd (r := .bsl 0 0 (List.length x2) 2 false) (σ' := ⟨[(27, (Enc.cellsL (x2 : List Ev)))], [], [], 0, false⟩) (insE_nil x2 (Int.tmod at_ ((List.length x1 : Int) + 1)) _ _ 0 g5 rfl) rfl rfl ⟨rfl, rfl⟩ (by dsimp only [aput, List.set]) ?_
 refine w_mv ?_
 refine at_wk (S' := (.top :: .u how :: .u at_ :: .i n :: .top :: .top :: .top :: .top :: .b false :: .list (List.length (x1 : List Ev)) (Enc.cellsL (x1 : List Ev)) .none :: .i (Int.tmod at_ ((List.length x1 : Int) + 1)) :: .top :: .list (List.length (x2 : List Ev)) (Enc.cellsL (x2 : List Ev)) .none :: .top :: .top :: .top :: .top :: .top :: .top :: .top :: .top :: .top :: .top :: .top :: .top :: .top :: .top :: .top :: .top :: .top :: .top :: .top :: .u at_ :: .i at_ :: .top :: .i (List.length x1 : Int) :: .i ((List.length x1 : Int) + 1) :: .i (Int.tmod at_ ((List.length x1 : Int) + 1)) :: .top :: .top :: .u how :: .u (max how 4) :: .top :: .top :: .u how :: .u (max how 1) :: .top :: .top :: .top :: .top :: .top :: .top :: .u how :: .top :: .top :: .top :: .u how :: .u (Int.tmod how 5) :: .top :: .top :: .top :: .top :: .i (Int.tmod at_ ((List.length x1 : Int) + 1)) :: .top :: .top :: .top :: .top :: .top :: .top :: .top :: .top :: .top :: .top :: .top :: .top :: .top :: .top :: .top :: .top :: .top :: .top :: .top :: .top :: .top :: .top :: .top :: .top :: .top :: .top :: .top :: .top :: .top :: .top :: .top :: .top :: .top :: .top :: .top :: .top :: .top :: .top :: .top :: .top :: .top :: .top :: .top :: .top :: .top :: .top :: .top :: .top :: .top :: .top :: .top :: .top :: .top :: .top :: .top :: .top :: .top :: .top :: .top :: .top :: .top :: .top :: .top :: .top :: .top :: .top :: .top :: .top :: .top :: .top :: .top :: .top :: .top :: .top :: .top :: .top :: .top :: .top :: .top :: .top :: .top :: .top :: .top :: .top :: .top :: .top :: .top :: .top :: .top :: .top :: .top :: .top :: .top :: .top :: .top :: .top :: .top :: .top :: .top :: .top :: .top :: .top :: .top :: .top :: .top :: .top :: .top :: .top :: .top :: .top :: .top :: .top :: .top :: .top :: .top :: .top :: .top :: .top :: .top :: .top :: .top :: .top :: .top :: .top :: .top :: [])) (wm_keep (false :: true :: true :: true :: false :: false :: false :: false :: true :: true :: true :: false :: true :: false :: false :: false :: false :: false :: false :: false :: false :: false :: false :: false :: false :: false :: false :: false :: false :: false :: false :: false :: true :: true :: false :: true :: true :: true :: false :: false :: true :: true :: false :: false :: true :: true :: false :: false :: false :: false :: false :: false :: true :: false :: false :: false :: true :: true :: false :: false :: false :: false :: true :: false :: false :: false :: false :: false :: false :: false :: false :: false :: false :: false :: false :: false :: false :: false :: false :: false :: false :: false :: false :: false :: false :: false :: false :: false :: false :: false :: false :: false :: false :: false :: false :: false :: false :: false :: false :: false :: false :: false :: false :: false :: false :: false :: false :: false :: false :: false :: false :: false :: false :: false :: false :: false :: false :: false :: false :: false :: false :: false :: false :: false :: false :: false :: false :: false :: false :: false :: false :: false :: false :: false :: false :: false :: false :: false :: false :: false :: false :: false :: false :: false :: false :: false :: false :: false :: false :: false :: false :: false :: false :: false :: false :: false :: false :: false :: false :: false :: false :: false :: false :: false :: false :: false :: false :: false :: false :: false :: false :: false :: false :: false :: false :: false :: false :: false :: false :: false :: false :: false :: false :: false :: false :: false :: false :: false :: []) 0 [] [] 1 (Nat.le_refl _) rfl (fgK_f (fgK_t (mapK_clo _ _ _ rfl) (fgK_t (mapK_clo _ _ _ rfl) (fgK_t (mapK_clo _ _ _ rfl) (fgK_f (fgK_f (fgK_f (fgK_f (fgK_t (mapK_clo _ _ _ rfl) (fgK_t (mapK_clo _ _ _ (clo_list (Enc.cloL _))) (fgK_t (mapK_clo _ _ _ rfl) (fgK_f (fgK_t (kz_bsl (α := Ev) (t := 27) (l := x2) rfl rfl rfl) (fgK_f (fgK_f (fgK_f (fgK_f (fgK_f (fgK_f (fgK_f (fgK_f (fgK_f (fgK_f (fgK_f (fgK_f (fgK_f (fgK_f (fgK_f (fgK_f (fgK_f (fgK_f (fgK_f (fgK_t (mapK_clo _ _ _ rfl) (fgK_t (mapK_clo _ _ _ rfl) (fgK_f (fgK_t (mapK_clo _ _ _ rfl) (fgK_t (mapK_clo _ _ _ rfl) (fgK_t (mapK_clo _ _ _ rfl) (fgK_f (fgK_f (fgK_t (mapK_clo _ _ _ rfl) (fgK_t (mapK_clo _ _ _ rfl) (fgK_f (fgK_f (fgK_t (mapK_clo _ _ _ rfl) (fgK_t (mapK_clo _ _ _ rfl) (fgK_f (fgK_f (fgK_f (fgK_f (fgK_f (fgK_f (fgK_t (mapK_clo _ _ _ rfl) (fgK_f (fgK_f (fgK_f (fgK_t (mapK_clo _ _ _ rfl) (fgK_t (mapK_clo _ _ _ rfl) (fgK_f (fgK_f (fgK_f (fgK_f (fgK_t (mapK_clo _ _ _ rfl) (fgK_f (fgK_f (fgK_f (fgK_f (fgK_f (fgK_f (fgK_f (fgK_f (fgK_f (fgK_f (fgK_f (fgK_f (fgK_f (fgK_f (fgK_f (fgK_f (fgK_f (fgK_f (fgK_f (fgK_f (fgK_f (fgK_f (fgK_f (fgK_f (fgK_f (fgK_f (fgK_f (fgK_f (fgK_f (fgK_f (fgK_f (fgK_f (fgK_f (fgK_f (fgK_f (fgK_f (fgK_f (fgK_f (fgK_f (fgK_f (fgK_f (fgK_f (fgK_f (fgK_f (fgK_f (fgK_f (fgK_f (fgK_f (fgK_f (fgK_f (fgK_f (fgK_f (fgK_f (fgK_f (fgK_f (fgK_f (fgK_f (fgK_f (fgK_f (fgK_f (fgK_f (fgK_f (fgK_f (fgK_f (fgK_f (fgK_f (fgK_f (fgK_f (fgK_f (fgK_f (fgK_f (fgK_f (fgK_f (fgK_f (fgK_f (fgK_f (fgK_f (fgK_f (fgK_f (fgK_f (fgK_f (fgK_f (fgK_f (fgK_f (fgK_f (fgK_f (fgK_f (fgK_f (fgK_f (fgK_f (fgK_f (fgK_f (fgK_f (fgK_f (fgK_f (fgK_f (fgK_f (fgK_f (fgK_f (fgK_f (fgK_f (fgK_f (fgK_f (fgK_f (fgK_f (fgK_f (fgK_f (fgK_f (fgK_f (fgK_f (fgK_f (fgK_f (fgK_f (fgK_f (fgK_f (fgK_f (fgK_f (fgK_f (fgK_f (fgK_f (fgK_f (fgK_f (fgK_f (fgK_f (fgK_f fgK_nil)))))))))))))))))))))))))))))))))))))))))))))))))))))))))))))))))))))))))))))))))))))))))))))))))))))))))))))))))))))))))))))))))))))))))))))))))))))))))))))))))))))))))))))))))))))))))))) (keep_of keep_nil rfl)) ?_
 refine w_seq (w_region ?_)
 refine w_mv ?_
 obtain ⟨x3, hx3, h⟩ := bindE_e h
 refine w_callc (args' := [.list (List.length (x2 : List Ev)) (Enc.cellsL (x2 : List Ev)) .none]) (r := .tup [.i x3.1, .i x3.2]) (check_sh fuel x2 x3 hx3) rfl rfl (stripL_cons (strip_l (Enc.cloL _)) rfl) (okTrimL_cons (okTrim_l (Enc.cloL _)) rfl) (by dsimp only [aput, List.set]) ?_
 refine w_mv ?_
 refine w_ex ?_
 refine w_ex ?_
 refine w_mv ?_
 refine w_mv ?_
 refine w_seq (w_region ?_)
 refine w_mv ?_
 obtain ⟨x4, hx4, h⟩ := bindE_e h
 refine w_callc (args' := [.list (List.length (x2 : List Ev)) (Enc.cellsL (x2 : List Ev)) .none, .list 0 [] .none]) (r := .tup [.list (List.length (x4.1 : List Ck)) (Enc.cellsL (x4.1 : List Ck)) .none, .i x4.2]) (cut_sh fuel x2 [] x4 hx4) rfl rfl (stripL_cons (strip_l (Enc.cloL _)) (stripL_cons rfl rfl)) (okTrimL_cons (okTrim_l (Enc.cloL _)) (by kernel_rfl)) (by dsimp only [aput, List.set]) ?_
 refine w_mv ?_
 refine w_ex ?_
 refine w_ex ?_
 refine w_mv ?_
 refine w_mv ?_
 refine w_seq (w_region ?_)
 refine w_mv ?_
 obtain ⟨x5, hx5, h⟩ := bindE_e h
 refine w_callc (args' := [.list (List.length (x2 : List Ev)) (Enc.cellsL (x2 : List Ev)) .none]) (r := .tup [.s x5.1, .i x5.2]) (write_sh fuel x2 x5 hx5) rfl rfl (stripL_cons (strip_l (Enc.cloL _)) rfl) (okTrimL_cons (okTrim_l (Enc.cloL _)) rfl) (by dsimp only [aput, List.set]) ?_
 refine w_mv ?_
 refine w_ex ?_
 refine w_ex ?_
 refine w_mv ?_
 refine w_mv ?_
 refine w_cutF h [8, 10, 12, 13, 14, 15, 16, 17, 18, 32, 33, 35, 36, 37, 40, 41, 44, 45, 52, 56, 57, 62, 65, 66, 67, 68, 69, 70, 71, 72, 73, 74, 75, 76, 77, 78, 79, 80, 81, 82, 83, 84, 85, 86, 87, 88, 89, 90, 91, 92, 93, 94, 95, 96, 97, 98, 99, 100, 101, 102, 103, 104, 105, 106, 107, 108, 109, 110, 111, 112] (fun j1 => []) (fun j1 => ⟨[], [], [], 0, false⟩) ?_ ?_
 intro or1 h hr1
 refine w_seq (w_region ?_)
 refine w_mv ?_
 refine w_mv ?_
 refine w_o (a := .b (decide (x3.1 < (Int.tmod at_ ((List.length x1 : Int) + 1))))) ?_
 refine bif_e h (fun hc2 h => ?_) (fun hc2 h => ?_)
 refine w_o (a := .b true) (h := op_q (q_bool rfl hc2)) ?_
 refine w_po ?_
 refine w_po ?_
 refine w_po ?_
 refine w_po ?_
 refine w_o (a := .b true) ?_
 refine w_mv ?_
 refine w_po ?_
 refine w_po ?_
 refine w_po ?_
 refine w_po ?_
 refine w_po ?_
 refine w_po ?_
 refine w_po ?_
 refine w_po ?_
 refine w_o (a := .b true) ?_
 refine w_mv ?_
 refine w_po ?_
 refine w_po ?_
 refine w_o (a := .b true) ?_
 refine w_mv ?_
 refine w_po ?_
 refine w_po ?_
 refine w_po ?_
 refine w_o (a := .b true) ?_
 refine w_mv ?_
 refine w_po ?_
 refine w_po ?_
 refine w_po ?_
 refine w_o (a := .b true) ?_
 refine w_true rfl ?_
 refine w_seq (w_region ?_)
 refine w_o (a := .b false) ?_
 replace h := cut_inr h hr1
 exact end_b h
 refine w_o (a := .b false) (h := op_q (q_bool rfl hc2)) ?_
 refine w_met rfl rfl ?_
 refine w_mv ?_
 refine w_met rfl rfl ?_
 refine w_mv ?_
 refine w_met rfl rfl ?_
 obtain ⟨g6, h⟩ := chk_e h
 refine w_o (a := .i ((Int.tmod at_ ((List.length x1 : Int) + 1)) + 1)) (h := op_q (q_add rfl rfl rfl rfl g6.1 g6.2)) ?_
 refine w_met rfl rfl ?_
 refine w_o (a := .b (decide (x3.1 > ((Int.tmod at_ ((List.length x1 : Int) + 1)) + 1)))) ?_
 refine w_o (a := .b (decide (x3.1 > ((Int.tmod at_ ((List.length x1 : Int) + 1)) + 1)))) ?_
 refine bif_e h (fun hc3 h => ?_) (fun hc3 h => ?_)
 refine w_o (a := .b true) (h := op_q (q_bool rfl hc3)) ?_
 refine w_po ?_
 refine w_po ?_
 refine w_po ?_
 refine w_po ?_
 refine w_po ?_
 refine w_po ?_
 refine w_po ?_
 refine w_po ?_
 refine w_o (a := .b true) ?_
 refine w_mv ?_
 refine w_po ?_
 refine w_po ?_
 refine w_o (a := .b true) ?_
 refine w_mv ?_
 refine w_po ?_
 refine w_po ?_
 refine w_po ?_
 refine w_o (a := .b true) ?_
 refine w_mv ?_
 refine w_po ?_
 refine w_po ?_
 refine w_po ?_
 refine w_o (a := .b true) ?_
 refine w_true rfl ?_
 refine w_seq (w_region ?_)
 refine w_o (a := .b false) ?_
 replace h := cut_inr h hr1
 exact end_b h
 refine w_o (a := .b false) (h := op_q (q_bool rfl hc3)) ?_
 refine w_met rfl rfl ?_
 refine w_mv ?_
 refine w_met rfl rfl ?_
 refine w_o (a := .u (Int.tmod how 5)) ?_
 refine w_met rfl rfl ?_
 refine w_o (a := .b (decide ((Int.tmod how 5) < 3))) ?_
 refine w_met rfl rfl ?_
 refine bif_e h (fun hc4 h => ?_) (fun hc4 h => ?_)
 refine w_o (a := .b true) (h := op_q (q_bool rfl hc4)) ?_
 refine w_met rfl rfl ?_
 refine w_mv ?_
 refine w_met rfl rfl ?_
 refine w_mv ?_
 refine w_met rfl rfl ?_
 refine w_o (a := .b (x3.1 != (Int.tmod at_ ((List.length x1 : Int) + 1)))) ?_
 refine w_met rfl rfl ?_
 refine w_o (a := .b (x3.1 != (Int.tmod at_ ((List.length x1 : Int) + 1)))) ?_
 refine w_o (a := .b (x3.1 != (Int.tmod at_ ((List.length x1 : Int) + 1)))) ?_
 refine bif_e h (fun hc5 h => ?_) (fun hc5 h => ?_)
 refine w_o (a := .b true) (h := op_q (q_bool rfl hc5)) ?_
 refine w_po ?_
 refine w_po ?_
 refine w_o (a := .b true) ?_
 refine w_mv ?_
 refine w_po ?_
 refine w_po ?_
 refine w_po ?_
 refine w_o (a := .b true) ?_
 refine w_mv ?_
 refine w_po ?_
 refine w_po ?_
 refine w_po ?_
 refine w_o (a := .b true) ?_
 refine w_true rfl ?_
 refine w_seq (w_region ?_)
 refine w_o (a := .b false) ?_
 replace h := cut_inr h hr1
 exact end_b h
 refine w_o (a := .b false) (h := op_q (q_bool rfl hc5)) ?_
 refine w_met rfl rfl ?_
 refine w_mv ?_
 refine w_met rfl rfl ?_
 refine w_o (a := .b (x3.2 != 320)) ?_
 refine w_o (a := .b (x3.2 != 320)) ?_
 refine bif_e h (fun hc6 h => ?_) (fun hc6 h => ?_)
 refine w_o (a := .b true) (h := op_q (q_bool rfl hc6)) ?_
 refine w_po ?_
 refine w_po ?_
 refine w_po ?_
 refine w_o (a := .b true) ?_
 refine w_mv ?_
 refine w_po ?_
 refine w_po ?_
 refine w_po ?_
 refine w_o (a := .b true) ?_
 refine w_true rfl ?_
 refine w_seq (w_region ?_)
 refine w_o (a := .b false) ?_
 replace h := cut_inr h hr1
 exact end_b h
 refine w_o (a := .b false) (h := op_q (q_bool rfl hc6)) ?_
 refine w_met rfl rfl ?_
 refine w_mv ?_
 refine w_met rfl rfl ?_
 refine w_mv ?_
 refine w_met rfl rfl ?_
 refine w_o (a := .b (x4.2 != x3.2)) ?_
 refine w_o (a := .b (x4.2 != x3.2)) ?_
 refine bif_e h (fun hc7 h => ?_) (fun hc7 h => ?_)
 refine w_o (a := .b true) (h := op_q (q_bool rfl hc7)) ?_
 refine w_po ?_
 refine w_po ?_
 refine w_po ?_
 refine w_o (a := .b true) ?_
 refine w_true rfl ?_
 refine w_seq (w_region ?_)
 refine w_o (a := .b false) ?_
 replace h := cut_inr h hr1
 exact end_b h
 refine w_o (a := .b false) (h := op_q (q_bool rfl hc7)) ?_
 refine w_met rfl rfl ?_
 refine w_mv ?_
 refine w_met rfl rfl ?_
 refine w_mv ?_
 refine w_met rfl rfl ?_
 refine w_o (a := .b (x5.2 != x3.2)) ?_
 refine w_o (a := .b (x5.2 != x3.2)) ?_
 refine bif_e h (fun hc8 h => ?_) (fun hc8 h => ?_)
 refine w_condT hc8 rfl ?_
 refine w_seq (w_region ?_)
 refine w_o (a := .b false) ?_
 replace h := cut_inr h hr1
 exact end_b h
 refine w_condF hc8 rfl ?_
 refine cut_done (o := or1) () h ?_
 exact wm_of (bl 188 392318858461667547739726454356762081383201223705097669375) (by kernel_rfl) (by kernel_rfl)
 refine w_o (a := .b false) (h := op_q (q_bool rfl hc4)) ?_
 refine w_po ?_
 refine w_po ?_
 refine w_po ?_
 refine w_met rfl rfl ?_
 refine w_o (a := .b false) ?_
 refine w_o (a := .b false) ?_
 refine w_mv ?_
 refine w_met rfl rfl ?_
 refine w_mv ?_
 refine w_met rfl rfl ?_
 refine w_o (a := .b (x3.2 != 320)) ?_
 refine w_o (a := .b (x3.2 != 320)) ?_
 refine bif_e h (fun hc9 h => ?_) (fun hc9 h => ?_)
 refine w_o (a := .b true) (h := op_q (q_bool rfl hc9)) ?_
 refine w_po ?_
 refine w_po ?_
 refine w_po ?_
 refine w_o (a := .b true) ?_
 refine w_mv ?_
 refine w_po ?_
 refine w_po ?_
 refine w_po ?_
 refine w_o (a := .b true) ?_
 refine w_true rfl ?_
 refine w_seq (w_region ?_)
 refine w_o (a := .b false) ?_
 replace h := cut_inr h hr1
 exact end_b h
 refine w_o (a := .b false) (h := op_q (q_bool rfl hc9)) ?_
 refine w_met rfl rfl ?_
 refine w_mv ?_
 refine w_met rfl rfl ?_
 refine w_mv ?_
 refine w_met rfl rfl ?_
 refine w_o (a := .b (x4.2 != x3.2)) ?_
 refine w_o (a := .b (x4.2 != x3.2)) ?_
 refine bif_e h (fun hc10 h => ?_) (fun hc10 h => ?_)
 refine w_o (a := .b true) (h := op_q (q_bool rfl hc10)) ?_
 refine w_po ?_
 refine w_po ?_
 refine w_po ?_
 refine w_o (a := .b true) ?_
 refine w_true rfl ?_
 refine w_seq (w_region ?_)
 refine w_o (a := .b false) ?_
 replace h := cut_inr h hr1
 exact end_b h
 refine w_o (a := .b false) (h := op_q (q_bool rfl hc10)) ?_
 refine w_met rfl rfl ?_
 refine w_mv ?_
 refine w_met rfl rfl ?_
 refine w_mv ?_
 refine w_met rfl rfl ?_
 refine w_o (a := .b (x5.2 != x3.2)) ?_
 refine w_o (a := .b (x5.2 != x3.2)) ?_
 refine bif_e h (fun hc11 h => ?_) (fun hc11 h => ?_)
 refine w_condT hc11 rfl ?_
 refine w_seq (w_region ?_)
 refine w_o (a := .b false) ?_
 replace h := cut_inr h hr1
 exact end_b h
 refine w_condF hc11 rfl ?_
 refine cut_done (o := or1) () h ?_
 exact wm_of (bl 188 392318858461667547739726454356762081383201223705097669375) (by kernel_rfl) (by kernel_rfl)
 intro j1 h
 refine w_start (by dsimp only [setAll, topAll, List.foldl, List.set]) rfl ?_
 refine w_seq (w_region ?_)
 refine w_mv ?_
 obtain ⟨x6, hx6, h⟩ := bindE_e h
 refine w_callc (args' := [.list (List.length (x1 : List Ev)) (Enc.cellsL (x1 : List Ev)) .none, .list 0 [] .none]) (r := .tup [.list (List.length (x6.1 : List Ck)) (Enc.cellsL (x6.1 : List Ck)) .none, .i x6.2]) (cut_sh fuel x1 [] x6 hx6) rfl rfl (stripL_cons (strip_l (Enc.cloL _)) (stripL_cons rfl rfl)) (okTrimL_cons (okTrim_l (Enc.cloL _)) (by kernel_rfl)) (by dsimp only [aput, List.set]) ?_
 refine w_mv ?_
 refine w_ex ?_
 refine w_ex ?_
 refine w_mv ?_
 refine w_mv ?_
 refine w_seq (w_region ?_)
 refine w_mv ?_
 obtain ⟨g7, h⟩ := chk_e h
 refine w_o (a := .i at_) (h := op_q (q_conv64 g7 rfl rfl rfl)) ?_
 refine w_mv ?_
 refine w_o (a := .i (List.length x6.1 : Int)) ?_
 obtain ⟨g8, h⟩ := chk_e h
 refine w_o (a := .i ((List.length x6.1 : Int) + 1)) (h := op_q (q_add rfl rfl rfl rfl g8.1 g8.2)) ?_
 obtain ⟨g9, h⟩ := chk_e h
 refine w_o (a := .i (Int.tmod at_ ((List.length x6.1 : Int) + 1))) (h := op_q (q_rem64 g9 rfl rfl rfl)) ?_
 refine w_mv ?_
 refine w_seq ?_
 refine w_seq (w_region ?_)
 refine w_mv ?_
 refine w_o (a := .b (x6.2 != 0)) ?_
 refine bif_e h (fun hc12 h => ?_) (fun hc12 h => ?_)
 refine w_condT hc12 rfl ?_
 refine w_seq (w_region ?_)
 refine w_o (a := .b false) ?_
 exact end_b h
 refine w_condF hc12 rfl ?_
 refine w_seq (w_region ?_)
 refine w_qs (.agg (Enc.cells ((Ck.mk 0 []) : Ck))) (a0 := (ckR (Ck.mk 0 []) .full)) rfl rfl rfl (by kernel_rfl) (strip_ckR _ _) (by dsimp only [aput, List.set]) ?_
 refine w_mv ?_
 refine w_o (a := .u (max how 4)) (h := op_q (q_max rfl rfl rfl rfl rfl)) ?_
 refine w_qs (.agg (Enc.cells ((Ck.mk (max how 4) []) : Ck))) (a0 := (ckR (Ck.mk (max how 4) []) .full)) rfl rfl rfl (by kernel_rfl) (strip_ckR _ _) (by dsimp only [aput, List.set]) ?_
 refine w_mv ?_
 obtain ⟨g10, h⟩ := chk_e h
 refine w_o (a := .list (List.length (([(u8of how)] : List UInt8) : List UInt8)) (Enc.cellsL (([(u8of how)] : List UInt8) : List UInt8)) .full) (h := op_q (q_lit (α := UInt8) (l := ([(u8of how)] : List UInt8)) (cs := [.u how]) rfl (by show List.map _ _ = _; simp only [List.map_cons, List.map_nil, u8c g10]))) ?_
 refine w_qs (.agg (Enc.cells ((Ck.mk 2 ([(u8of how)] : List UInt8)) : Ck))) (a0 := (ckR (Ck.mk 2 ([(u8of how)] : List UInt8)) .full)) rfl rfl rfl (by kernel_rfl) (strip_ckR _ _) (by dsimp only [aput, List.set]) ?_
 refine w_o (a := .list (List.length (([0] : List UInt8) : List UInt8)) (Enc.cellsL (([0] : List UInt8) : List UInt8)) .full) (h := op_q (q_lit (α := UInt8) (l := ([0] : List UInt8)) (cs := [.u 0]) rfl rfl)) ?_
 refine w_qs (.agg (Enc.cells ((Ck.mk 3 ([0] : List UInt8)) : Ck))) (a0 := (ckR (Ck.mk 3 ([0] : List UInt8)) .full)) rfl rfl rfl (by kernel_rfl) (strip_ckR _ _) (by dsimp only [aput, List.set]) ?_
 refine w_o (a := .list (List.length ([(Ck.mk 0 []), (Ck.mk (max how 4) []), (Ck.mk 2 ([(u8of how)] : List UInt8)), (Ck.mk 3 ([0] : List UInt8))] : List Ck)) (Enc.cellsL ([(Ck.mk 0 []), (Ck.mk (max how 4) []), (Ck.mk 2 ([(u8of how)] : List UInt8)), (Ck.mk 3 ([0] : List UInt8))] : List Ck)) .full) (h := op_q (q_lit (α := Ck) (l := [(Ck.mk 0 []), (Ck.mk (max how 4) []), (Ck.mk 2 ([(u8of how)] : List UInt8)), (Ck.mk 3 ([0] : List UInt8))]) (cs := Enc.cells ((Ck.mk 0 []) : Ck) ++ (Enc.cells ((Ck.mk (max how 4) []) : Ck) ++ (Enc.cells ((Ck.mk 2 ([(u8of how)] : List UInt8)) : Ck) ++ (Enc.cells ((Ck.mk 3 ([0] : List UInt8)) : Ck) ++ [])))) (by kernel_rfl) (by rw [Enc.cons, Enc.cons, Enc.cons, Enc.cons, Enc.nil]))) ?_
 refine w_mv ?_
 refine w_o (a := .u (Int.tmod how 4)) ?_
 obtain ⟨g11, h⟩ := chk_e h
 obtain ⟨x7, hx7, h⟩ := letE_e h
 refine w_o (a := .iptr (Enc.cells x7 ++ Enc.cellsL (List.drop (Int.toNat (Int.tmod how 4) + 1) [(Ck.mk 0 []), (Ck.mk (max how 4) []), (Ck.mk 2 ([(u8of how)] : List UInt8)), (Ck.mk 3 ([0] : List UInt8))]))) (h := op_q (by rw [← hx7]; exact (q_idx (α := Ck) (l := [(Ck.mk 0 []), (Ck.mk (max how 4) []), (Ck.mk 2 ([(u8of how)] : List UInt8)), (Ck.mk 3 ([0] : List UInt8))]) g11 rfl rfl rfl rfl rfl))) ?_
 refine w_o (a := .agg (Enc.cells (x7 : Ck))) ?_
 refine w_om (a := .ptr 0 0) (σ'' := ⟨[(30, [.u 0, .list 0 [] .full])], [], [], 0, false⟩) ?_
 refine w_om (σ'' := ⟨[(30, (Enc.cells (x7 : Ck)))], [], [], 0, false⟩) (h := op_storeW (n := 2) rfl rfl rfl rfl rfl rfl rfl rfl (by decide)) ?_
 refine bif_e h (fun hc13 h => ?_) (fun hc13 h => ?_)
 obtain ⟨g12, h⟩ := chk_e h
 obtain ⟨x8, hx8, h⟩ := bindE_e h
 refine w_seqAny (id := 15) [.top, .u how, .u at_, .i n, .top, .top, .top, .top, .top, .list (List.length (x1 : List Ev)) (Enc.cellsL (x1 : List Ev)) .none, .top, .top, .top, .top, .top, .top, .top, .top, .top, .list (List.length (x6.1 : List Ck)) (Enc.cellsL (x6.1 : List Ck)) .none, .i x6.2, .i (Int.tmod at_ ((List.length x6.1 : Int) + 1)), .ptr 0 0, .list (List.length (x8.1 : List Ev)) (Enc.cellsL (x8.1 : List Ev)) .none, .i x8.2.1, .i x8.2.2, .top, .top, .top, .top, .top, .top, .top, .top, .top, .top, .top, .top, .top, .top, .top, .top, .top, .top, .top, .top, .top, .top, .top, .top, .top, .top, .top, .top, .top, .top, .top, .top, .top, .top, .top, .top, .top, .top, .top, .top, .top, .top, .top, .top, .top, .top, .top, .top, .top, .top, .top, .top, .top, .top, .top, .top, .top, .top, .top, .top, .top, .top, .top, .top, .top, .top, .top, .top, .top, .top, .top, .top, .top, .top, .top, .top, .top, .top, .top, .top, .top, .top, .top, .top, .top, .top, .top, .tup [.list (List.length (x6.1 : List Ck)) (Enc.cellsL (x6.1 : List Ck)) .none, .i x6.2], .list (List.length (x1 : List Ev)) (Enc.cellsL (x1 : List Ev)) .none, .tup [.list (List.length (x6.1 : List Ck)) (Enc.cellsL (x6.1 : List Ck)) .none, .i x6.2], .list (List.length (x6.1 : List Ck)) (Enc.cellsL (x6.1 : List Ck)) .none, .i x6.2, .u at_, .i at_, .list (List.length (x6.1 : List Ck)) (Enc.cellsL (x6.1 : List Ck)) .none, .i (List.length x6.1 : Int), .i ((List.length x6.1 : Int) + 1), .i (Int.tmod at_ ((List.length x6.1 : Int) + 1)), .i x6.2, .b (x6.2 != 0), .agg (Enc.cells ((Ck.mk 0 []) : Ck)), .u how, .u (max how 4), .agg (Enc.cells ((Ck.mk (max how 4) []) : Ck)), .u how, .list (List.length (([(u8of how)] : List UInt8) : List UInt8)) (Enc.cellsL (([(u8of how)] : List UInt8) : List UInt8)) .full, .agg (Enc.cells ((Ck.mk 2 ([(u8of how)] : List UInt8)) : Ck)), .list (List.length (([0] : List UInt8) : List UInt8)) (Enc.cellsL (([0] : List UInt8) : List UInt8)) .full, .agg (Enc.cells ((Ck.mk 3 ([0] : List UInt8)) : Ck)), .list (List.length ([(Ck.mk 0 []), (Ck.mk (max how 4) []), (Ck.mk 2 ([(u8of how)] : List UInt8)), (Ck.mk 3 ([0] : List UInt8))] : List Ck)) (Enc.cellsL ([(Ck.mk 0 []), (Ck.mk (max how 4) []), (Ck.mk 2 ([(u8of how)] : List UInt8)), (Ck.mk 3 ([0] : List UInt8))] : List Ck)) .full, .u how, .u (Int.tmod how 4), .iptr (Enc.cells x7 ++ Enc.cellsL (List.drop (Int.toNat (Int.tmod how 4) + 1) [(Ck.mk 0 []), (Ck.mk (max how 4) []), (Ck.mk 2 ([(u8of how)] : List UInt8)), (Ck.mk 3 ([0] : List UInt8))])), .agg (Enc.cells (x7 : Ck)), .tup [.list (List.length (x8.1 : List Ev)) (Enc.cellsL (x8.1 : List Ev)) .none, .i x8.2.1, .i x8.2.2], .list (List.length (x6.1 : List Ck)) (Enc.cellsL (x6.1 : List Ck)) .none, .list 0 [] .full, .i (Int.tmod at_ ((List.length x6.1 : Int) + 1)), .agg (Enc.cells (x7 : Ck)), .list (List.length ([x7] : List Ck)) (Enc.cellsL ([x7] : List Ck)) .full, .bsl 1 0 (List.length [x7]) 2 false, .tup [.list (List.length (x8.1 : List Ev)) (Enc.cellsL (x8.1 : List Ev)) .none, .i x8.2.1, .i x8.2.2], .list (List.length (x8.1 : List Ev)) (Enc.cellsL (x8.1 : List Ev)) .none, .i x8.2.1, .i x8.2.2, .top, .top, .top, .top, .top, .top, .top, .top, .top, .top, .top, .top, .top, .top, .top, .top, .top, .top, .top, .top, .top, .top, .top, .top, .top, .top, .top, .top, .top, .top, .top, .top, .top, .top, .top, .top, .top] ⟨[(30, (Enc.cells (x7 : Ck))), (30, (Enc.cellsL (([] : List Ck) : List Ck)))], [], [], 0, false⟩ ?_ ?_
 refine aany_intro (fun ops hops FIN hFIN S0 hS0 => ?_)
 let v144 : AV := .agg (Enc.cells (x7 : Ck))
 let v142 : AV := .list 0 [] .full
 let v145 : AV := .list (List.length ([x7] : List Ck)) (Enc.cellsL ([x7] : List Ck)) .full
 let v146 : AV := .bsl 1 0 (List.length [x7]) 2 false
 let v147 : AV := .tup [.list (List.length (x8.1 : List Ev)) (Enc.cellsL (x8.1 : List Ev)) .none, .i x8.2.1, .i x8.2.2]
 let G0 : St := ⟨[(30, (Enc.cells (x7 : Ck)))], [], [], 0, false⟩
 let G1 : St := ⟨[(30, (Enc.cells (x7 : Ck))), (30, (Enc.cellsL ([x7] : List Ck)))], [], [], 0, false⟩
 let G2 : St := ⟨[(30, (Enc.cells (x7 : Ck))), (30, (Enc.cellsL (([] : List Ck) : List Ck)))], [], [], 0, false⟩
 obtain ⟨ps, hps⟩ : ∃ ps : List (Option (Nat × AV)), ps = [some (141, .list (List.length (x6.1 : List Ck)) (Enc.cellsL (x6.1 : List Ck)) .none), some (142, v142), some (143, .i (Int.tmod at_ ((List.length x6.1 : Int) + 1))), some (144, v144), some (145, v145), some (146, v146), some (147, v147), some (140, .tup [.list (List.length (x8.1 : List Ev)) (Enc.cellsL (x8.1 : List Ev)) .none, .i x8.2.1, .i x8.2.2]), some (148, .list (List.length (x8.1 : List Ev)) (Enc.cellsL (x8.1 : List Ev)) .none), some (149, .i x8.2.1), some (150, .i x8.2.2), some (23, .list (List.length (x8.1 : List Ev)) (Enc.cellsL (x8.1 : List Ev)) .none), some (24, .i x8.2.1), some (25, .i x8.2.2)] := ⟨_, rfl⟩
 let N : Nat → Nat → St → Prop := fun k m σ => aN (ITP Tryz.prog) Tryz.prog none ops FIN S0 ps 14 k m σ
 have n34 : N 0 16383 G2 := by
  exact aN_0 hops hS0 hps (hFIN _ _ (Wk.refl _ _ _))
 have n33 : N 1 8191 G2 := by
  refine aN_1 hops hS0 hps 13 ?_
  refine w_mv ?_
  exact aN_of n34 hS0 hps
 have n32 : N 2 7167 G2 := by
  refine aN_1 hops hS0 hps 10 ?_
  refine w_ex ?_
  exact aN_of n33 hS0 hps
 have n31 : N 2 4095 G2 := by
  refine aN_1 hops hS0 hps 12 ?_
  refine w_mv ?_
  exact aN_of n33 hS0 hps
 have n30 : N 3 3583 G2 := by
  refine aN_1 hops hS0 hps 9 ?_
  refine w_ex ?_
  exact aN_of n31 hS0 hps
 have n29 : N 3 3071 G2 := by
  refine aN_2 hops hS0 hps 10 12 ?_ ?_
  refine w_ex ?_
  exact aN_of n31 hS0 hps
  refine w_mv ?_
  exact aN_of n32 hS0 hps
 have n28 : N 3 2047 G2 := by
  refine aN_1 hops hS0 hps 11 ?_
  refine w_mv ?_
  exact aN_of n31 hS0 hps
 have n27 : N 4 1791 G2 := by
  refine aN_1 hops hS0 hps 8 ?_
  refine w_ex ?_
  exact aN_of n28 hS0 hps
 have n26 : N 4 2559 G2 := by
  refine aN_2 hops hS0 hps 9 10 ?_ ?_
  refine w_ex ?_
  exact aN_of n29 hS0 hps
  refine w_ex ?_
  exact aN_of n30 hS0 hps
 have n25 : N 4 1535 G2 := by
  refine aN_2 hops hS0 hps 9 11 ?_ ?_
  refine w_ex ?_
  exact aN_of n28 hS0 hps
  refine w_mv ?_
  exact aN_of n30 hS0 hps
 have n24 : N 4 1023 G2 := by
  refine aN_2 hops hS0 hps 10 11 ?_ ?_
  refine w_ex ?_
  exact aN_of n28 hS0 hps
  refine w_mv ?_
  exact aN_of n29 hS0 hps
 have n23 : N 5 1279 G2 := by
  refine aN_2 hops hS0 hps 8 9 ?_ ?_
  refine w_ex ?_
  exact aN_of n25 hS0 hps
  refine w_ex ?_
  exact aN_of n27 hS0 hps
 have n22 : N 5 767 G2 := by
  refine aN_2 hops hS0 hps 8 10 ?_ ?_
  refine w_ex ?_
  exact aN_of n24 hS0 hps
  refine w_ex ?_
  exact aN_of n27 hS0 hps
 have n21 : N 5 511 G2 := by
  refine aN_3 hops hS0 hps 9 10 11 ?_ ?_ ?_
  refine w_ex ?_
  exact aN_of n24 hS0 hps
  refine w_ex ?_
  exact aN_of n25 hS0 hps
  refine w_mv ?_
  exact aN_of n26 hS0 hps
 have n20 : N 6 255 G2 := by
  refine aN_3 hops hS0 hps 8 9 10 ?_ ?_ ?_
  refine w_ex ?_
  exact aN_of n21 hS0 hps
  refine w_ex ?_
  exact aN_of n22 hS0 hps
  refine w_ex ?_
  exact aN_of n23 hS0 hps
 have n19 : N 7 127 G2 := by
  refine aN_1 hops hS0 hps 7 ?_
  refine w_mv ?_
  exact aN_of n20 hS0 hps
 have n18 : N 8 63 G1 := by
  refine aN_1 hops hS0 hps 6 ?_
  refine w_snd (r := v147) (σ' := ⟨[(30, (Enc.cells (x7 : Ck))), (30, (Enc.cellsL (([] : List Ck) : List Ck)))], [], [], 0, false⟩) (snd_frz (α := Ck) (t := 30) (l := [x7]) (itp_mono _) (join_sh fuel [x7] x8 hx8) rfl rfl rfl) rfl rfl ⟨rfl, rfl⟩ (by dsimp only [aput, List.set]) ?_
  exact aN_of n19 hS0 hps
 have n17 : N 9 31 G0 := by
  refine aN_1 hops hS0 hps 5 ?_
  refine w_snd (r := v146) (σ' := ⟨[(30, (Enc.cells (x7 : Ck))), (30, (Enc.cellsL ([x7] : List Ck)))], [], [], 0, false⟩) (insC_nil [x7] (Int.tmod at_ ((List.length x6.1 : Int) + 1)) _ _ 1 g12 rfl) rfl rfl ⟨rfl, rfl⟩ (by dsimp only [aput, List.set]) ?_
  exact aN_of n18 hS0 hps
 have n16 : N 10 29 G0 := by
  refine aN_1 hops hS0 hps 1 ?_
  refine w_snd (r := v142) (σ' := ⟨[(30, (Enc.cells (x7 : Ck)))], [], [], 0, false⟩) (cloneC_nil x6.1 hc13 _) rfl rfl ⟨rfl, rfl⟩ (by dsimp only [aput, List.set]) ?_
  exact aN_of n17 hS0 hps
 have n15 : N 10 27 G0 := by
  refine aN_1 hops hS0 hps 2 ?_
  refine w_mv ?_
  exact aN_of n17 hS0 hps
 have n14 : N 10 15 G0 := by
  refine aN_1 hops hS0 hps 4 ?_
  refine w_o (a := v145) (h := op_q (q_lit (α := Ck) (l := [x7]) (cs := Enc.cells (x7 : Ck) ++ []) rfl (by rw [Enc.cons, Enc.nil]))) ?_
  exact aN_of n17 hS0 hps
 have n13 : N 11 28 G0 := by
  refine aN_1 hops hS0 hps 0 ?_
  refine w_mv ?_
  exact aN_of n16 hS0 hps
 have n12 : N 11 25 G0 := by
  refine aN_2 hops hS0 hps 1 2 ?_ ?_
  refine w_snd (r := v142) (σ' := ⟨[(30, (Enc.cells (x7 : Ck)))], [], [], 0, false⟩) (cloneC_nil x6.1 hc13 _) rfl rfl ⟨rfl, rfl⟩ (by dsimp only [aput, List.set]) ?_
  exact aN_of n15 hS0 hps
  refine w_mv ?_
  exact aN_of n16 hS0 hps
 have n11 : N 11 13 G0 := by
  refine aN_2 hops hS0 hps 1 4 ?_ ?_
  refine w_snd (r := v142) (σ' := ⟨[(30, (Enc.cells (x7 : Ck)))], [], [], 0, false⟩) (cloneC_nil x6.1 hc13 _) rfl rfl ⟨rfl, rfl⟩ (by dsimp only [aput, List.set]) ?_
  exact aN_of n14 hS0 hps
  refine w_o (a := v145) (h := op_q (q_lit (α := Ck) (l := [x7]) (cs := Enc.cells (x7 : Ck) ++ []) rfl (by rw [Enc.cons, Enc.nil]))) ?_
  exact aN_of n16 hS0 hps
 have n10 : N 11 11 G0 := by
  refine aN_2 hops hS0 hps 2 4 ?_ ?_
  refine w_mv ?_
  exact aN_of n14 hS0 hps
  refine w_o (a := v145) (h := op_q (q_lit (α := Ck) (l := [x7]) (cs := Enc.cells (x7 : Ck) ++ []) rfl (by rw [Enc.cons, Enc.nil]))) ?_
  exact aN_of n15 hS0 hps
 have n9 : N 11 7 G0 := by
  refine aN_1 hops hS0 hps 3 ?_
  refine w_o (a := v144) ?_
  exact aN_of n14 hS0 hps
 have n8 : N 12 24 G0 := by
  refine aN_2 hops hS0 hps 0 2 ?_ ?_
  refine w_mv ?_
  exact aN_of n12 hS0 hps
  refine w_mv ?_
  exact aN_of n13 hS0 hps
 have n7 : N 12 12 G0 := by
  refine aN_2 hops hS0 hps 0 4 ?_ ?_
  refine w_mv ?_
  exact aN_of n11 hS0 hps
  refine w_o (a := v145) (h := op_q (q_lit (α := Ck) (l := [x7]) (cs := Enc.cells (x7 : Ck) ++ []) rfl (by rw [Enc.cons, Enc.nil]))) ?_
  exact aN_of n13 hS0 hps
 have n6 : N 12 9 G0 := by
  refine aN_3 hops hS0 hps 1 2 4 ?_ ?_ ?_
  refine w_snd (r := v142) (σ' := ⟨[(30, (Enc.cells (x7 : Ck)))], [], [], 0, false⟩) (cloneC_nil x6.1 hc13 _) rfl rfl ⟨rfl, rfl⟩ (by dsimp only [aput, List.set]) ?_
  exact aN_of n10 hS0 hps
  refine w_mv ?_
  exact aN_of n11 hS0 hps
  refine w_o (a := v145) (h := op_q (q_lit (α := Ck) (l := [x7]) (cs := Enc.cells (x7 : Ck) ++ []) rfl (by rw [Enc.cons, Enc.nil]))) ?_
  exact aN_of n12 hS0 hps
 have n5 : N 12 5 G0 := by
  refine aN_2 hops hS0 hps 1 3 ?_ ?_
  refine w_snd (r := v142) (σ' := ⟨[(30, (Enc.cells (x7 : Ck)))], [], [], 0, false⟩) (cloneC_nil x6.1 hc13 _) rfl rfl ⟨rfl, rfl⟩ (by dsimp only [aput, List.set]) ?_
  exact aN_of n9 hS0 hps
  refine w_o (a := v144) ?_
  exact aN_of n11 hS0 hps
 have n4 : N 12 3 G0 := by
  refine aN_2 hops hS0 hps 2 3 ?_ ?_
  refine w_mv ?_
  exact aN_of n9 hS0 hps
  refine w_o (a := v144) ?_
  exact aN_of n10 hS0 hps
 have n3 : N 13 8 G0 := by
  refine aN_3 hops hS0 hps 0 2 4 ?_ ?_ ?_
  refine w_mv ?_
  exact aN_of n6 hS0 hps
  refine w_mv ?_
  exact aN_of n7 hS0 hps
  refine w_o (a := v145) (h := op_q (q_lit (α := Ck) (l := [x7]) (cs := Enc.cells (x7 : Ck) ++ []) rfl (by rw [Enc.cons, Enc.nil]))) ?_
  exact aN_of n8 hS0 hps
 have n2 : N 13 4 G0 := by
  refine aN_2 hops hS0 hps 0 3 ?_ ?_
  refine w_mv ?_
  exact aN_of n5 hS0 hps
  refine w_o (a := v144) ?_
  exact aN_of n7 hS0 hps
 have n1 : N 13 1 G0 := by
  refine aN_3 hops hS0 hps 1 2 3 ?_ ?_ ?_
  refine w_snd (r := v142) (σ' := ⟨[(30, (Enc.cells (x7 : Ck)))], [], [], 0, false⟩) (cloneC_nil x6.1 hc13 _) rfl rfl ⟨rfl, rfl⟩ (by dsimp only [aput, List.set]) ?_
  exact aN_of n4 hS0 hps
  refine w_mv ?_
  exact aN_of n5 hS0 hps
  refine w_o (a := v144) ?_
  exact aN_of n6 hS0 hps
 have n0 : N 14 0 G0 := by
  refine aN_3 hops hS0 hps 0 2 3 ?_ ?_ ?_
  refine w_mv ?_
  exact aN_of n1 hS0 hps
  refine w_mv ?_
  exact aN_of n2 hS0 hps
  refine w_o (a := v144) ?_
  exact aN_of n3 hS0 hps
 exact aN_start n0 hps
 obtain ⟨g13, h⟩ := chk_e h
 obtain ⟨x9, hx9, h⟩ := bindE_e h
 refine w_seqAny (id := 16) [.top, .u how, .u at_, .i n, .top, .top, .top, .top, .top, .list (List.length (x1 : List Ev)) (Enc.cellsL (x1 : List Ev)) .none, .top, .top, .top, .top, .top, .top, .top, .top, .top, .list (List.length (x6.1 : List Ck)) (Enc.cellsL (x6.1 : List Ck)) .none, .i x6.2, .i (Int.tmod at_ ((List.length x6.1 : Int) + 1)), .ptr 0 0, .list (List.length (x8.1 : List Ev)) (Enc.cellsL (x8.1 : List Ev)) .none, .i x8.2.1, .i x8.2.2, .b x9.1, .i x9.2, .top, .top, .top, .top, .top, .top, .top, .top, .top, .top, .top, .top, .top, .top, .top, .top, .top, .top, .top, .top, .top, .top, .top, .top, .top, .top, .top, .top, .top, .top, .top, .top, .top, .top, .top, .top, .top, .top, .top, .top, .top, .top, .top, .top, .top, .top, .top, .top, .top, .top, .top, .top, .top, .top, .top, .top, .top, .top, .top, .top, .top, .top, .top, .top, .top, .top, .top, .top, .top, .top, .top, .top, .top, .top, .top, .top, .top, .top, .top, .top, .top, .top, .top, .top, .top, .tup [.list (List.length (x6.1 : List Ck)) (Enc.cellsL (x6.1 : List Ck)) .none, .i x6.2], .list (List.length (x1 : List Ev)) (Enc.cellsL (x1 : List Ev)) .none, .tup [.list (List.length (x6.1 : List Ck)) (Enc.cellsL (x6.1 : List Ck)) .none, .i x6.2], .list (List.length (x6.1 : List Ck)) (Enc.cellsL (x6.1 : List Ck)) .none, .i x6.2, .u at_, .i at_, .list (List.length (x6.1 : List Ck)) (Enc.cellsL (x6.1 : List Ck)) .none, .i (List.length x6.1 : Int), .i ((List.length x6.1 : Int) + 1), .i (Int.tmod at_ ((List.length x6.1 : Int) + 1)), .i x6.2, .b (x6.2 != 0), .agg (Enc.cells ((Ck.mk 0 []) : Ck)), .u how, .u (max how 4), .agg (Enc.cells ((Ck.mk (max how 4) []) : Ck)), .u how, .list (List.length (([(u8of how)] : List UInt8) : List UInt8)) (Enc.cellsL (([(u8of how)] : List UInt8) : List UInt8)) .full, .agg (Enc.cells ((Ck.mk 2 ([(u8of how)] : List UInt8)) : Ck)), .list (List.length (([0] : List UInt8) : List UInt8)) (Enc.cellsL (([0] : List UInt8) : List UInt8)) .full, .agg (Enc.cells ((Ck.mk 3 ([0] : List UInt8)) : Ck)), .list (List.length ([(Ck.mk 0 []), (Ck.mk (max how 4) []), (Ck.mk 2 ([(u8of how)] : List UInt8)), (Ck.mk 3 ([0] : List UInt8))] : List Ck)) (Enc.cellsL ([(Ck.mk 0 []), (Ck.mk (max how 4) []), (Ck.mk 2 ([(u8of how)] : List UInt8)), (Ck.mk 3 ([0] : List UInt8))] : List Ck)) .full, .u how, .u (Int.tmod how 4), .iptr (Enc.cells x7 ++ Enc.cellsL (List.drop (Int.toNat (Int.tmod how 4) + 1) [(Ck.mk 0 []), (Ck.mk (max how 4) []), (Ck.mk 2 ([(u8of how)] : List UInt8)), (Ck.mk 3 ([0] : List UInt8))])), .agg (Enc.cells (x7 : Ck)), .tup [.list (List.length (x8.1 : List Ev)) (Enc.cellsL (x8.1 : List Ev)) .none, .i x8.2.1, .i x8.2.2], .list (List.length (x6.1 : List Ck)) (Enc.cellsL (x6.1 : List Ck)) .none, .list 0 [] .full, .i (Int.tmod at_ ((List.length x6.1 : Int) + 1)), .agg (Enc.cells (x7 : Ck)), .list (List.length ([x7] : List Ck)) (Enc.cellsL ([x7] : List Ck)) .full, .bsl 1 0 (List.length [x7]) 2 false, .tup [.list (List.length (x8.1 : List Ev)) (Enc.cellsL (x8.1 : List Ev)) .none, .i x8.2.1, .i x8.2.2], .list (List.length (x8.1 : List Ev)) (Enc.cellsL (x8.1 : List Ev)) .none, .i x8.2.1, .i x8.2.2, .tup [.b x9.1, .i x9.2], .list (List.length (x6.1 : List Ck)) (Enc.cellsL (x6.1 : List Ck)) .none, .list 0 [] .full, .i (Int.tmod at_ ((List.length x6.1 : Int) + 1)), .agg (Enc.cells (x7 : Ck)), .list (List.length ([x7] : List Ck)) (Enc.cellsL ([x7] : List Ck)) .full, .bsl 2 0 (List.length [x7]) 2 false, .tup [.b x9.1, .i x9.2], .b x9.1, .i x9.2, .top, .top, .top, .top, .top, .top, .top, .top, .top, .top, .top, .top, .top, .top, .top, .top, .top, .top, .top, .top, .top, .top, .top, .top, .top, .top, .top] ⟨[(30, (Enc.cells (x7 : Ck))), (30, (Enc.cellsL (([] : List Ck) : List Ck))), (30, (Enc.cellsL (([] : List Ck) : List Ck)))], [], [], 0, false⟩ ?_ ?_
 refine aany_intro (fun ops hops FIN hFIN S0 hS0 => ?_)
 let v155 : AV := .agg (Enc.cells (x7 : Ck))
 let v153 : AV := .list 0 [] .full
 let v156 : AV := .list (List.length ([x7] : List Ck)) (Enc.cellsL ([x7] : List Ck)) .full
 let v157 : AV := .bsl 2 0 (List.length [x7]) 2 false
 let v158 : AV := .tup [.b x9.1, .i x9.2]
 let G0 : St := ⟨[(30, (Enc.cells (x7 : Ck))), (30, (Enc.cellsL (([] : List Ck) : List Ck)))], [], [], 0, false⟩
 let G1 : St := ⟨[(30, (Enc.cells (x7 : Ck))), (30, (Enc.cellsL (([] : List Ck) : List Ck))), (30, (Enc.cellsL ([x7] : List Ck)))], [], [], 0, false⟩
 let G2 : St := ⟨[(30, (Enc.cells (x7 : Ck))), (30, (Enc.cellsL (([] : List Ck) : List Ck))), (30, (Enc.cellsL (([] : List Ck) : List Ck)))], [], [], 0, false⟩
 obtain ⟨ps, hps⟩ : ∃ ps : List (Option (Nat × AV)), ps = [some (152, .list (List.length (x6.1 : List Ck)) (Enc.cellsL (x6.1 : List Ck)) .none), some (153, v153), some (154, .i (Int.tmod at_ ((List.length x6.1 : Int) + 1))), some (155, v155), some (156, v156), some (157, v157), some (158, v158), some (151, .tup [.b x9.1, .i x9.2]), some (159, .b x9.1), some (160, .i x9.2), some (26, .b x9.1), some (27, .i x9.2)] := ⟨_, rfl⟩
 let N : Nat → Nat → St → Prop := fun k m σ => aN (ITP Tryz.prog) Tryz.prog none ops FIN S0 ps 12 k m σ
 have n26 : N 0 4095 G2 := by
  exact aN_0 hops hS0 hps (hFIN _ _ (Wk.refl _ _ _))
 have n25 : N 1 2047 G2 := by
  refine aN_1 hops hS0 hps 11 ?_
  refine w_mv ?_
  exact aN_of n26 hS0 hps
 have n24 : N 2 1535 G2 := by
  refine aN_1 hops hS0 hps 9 ?_
  refine w_ex ?_
  exact aN_of n25 hS0 hps
 have n23 : N 2 1023 G2 := by
  refine aN_1 hops hS0 hps 10 ?_
  refine w_mv ?_
  exact aN_of n25 hS0 hps
 have n22 : N 3 767 G2 := by
  refine aN_1 hops hS0 hps 8 ?_
  refine w_ex ?_
  exact aN_of n23 hS0 hps
 have n21 : N 3 511 G2 := by
  refine aN_2 hops hS0 hps 9 10 ?_ ?_
  refine w_ex ?_
  exact aN_of n23 hS0 hps
  refine w_mv ?_
  exact aN_of n24 hS0 hps
 have n20 : N 4 255 G2 := by
  refine aN_2 hops hS0 hps 8 9 ?_ ?_
  refine w_ex ?_
  exact aN_of n21 hS0 hps
  refine w_ex ?_
  exact aN_of n22 hS0 hps
 have n19 : N 5 127 G2 := by
  refine aN_1 hops hS0 hps 7 ?_
  refine w_mv ?_
  exact aN_of n20 hS0 hps
 have n18 : N 6 63 G1 := by
  refine aN_1 hops hS0 hps 6 ?_
  refine w_snd (r := v158) (σ' := ⟨[(30, (Enc.cells (x7 : Ck))), (30, (Enc.cellsL (([] : List Ck) : List Ck))), (30, (Enc.cellsL (([] : List Ck) : List Ck)))], [], [], 0, false⟩) (snd_frz (α := Ck) (t := 30) (l := [x7]) (itp_mono _) (alike_sh fuel [x7] [] x9 hx9) (stripL_cons rfl rfl) (by kernel_rfl) rfl) rfl rfl ⟨rfl, rfl⟩ (by dsimp only [aput, List.set]) ?_
  exact aN_of n19 hS0 hps
 have n17 : N 7 31 G0 := by
  refine aN_1 hops hS0 hps 5 ?_
  refine w_snd (r := v157) (σ' := ⟨[(30, (Enc.cells (x7 : Ck))), (30, (Enc.cellsL (([] : List Ck) : List Ck))), (30, (Enc.cellsL ([x7] : List Ck)))], [], [], 0, false⟩) (insC_nil [x7] (Int.tmod at_ ((List.length x6.1 : Int) + 1)) _ _ 2 g13 rfl) rfl rfl ⟨rfl, rfl⟩ (by dsimp only [aput, List.set]) ?_
  exact aN_of n18 hS0 hps
 have n16 : N 8 29 G0 := by
  refine aN_1 hops hS0 hps 1 ?_
  refine w_snd (r := v153) (σ' := ⟨[(30, (Enc.cells (x7 : Ck))), (30, (Enc.cellsL (([] : List Ck) : List Ck)))], [], [], 0, false⟩) (cloneC_nil x6.1 hc13 _) rfl rfl ⟨rfl, rfl⟩ (by dsimp only [aput, List.set]) ?_
  exact aN_of n17 hS0 hps
 have n15 : N 8 27 G0 := by
  refine aN_1 hops hS0 hps 2 ?_
  refine w_mv ?_
  exact aN_of n17 hS0 hps
 have n14 : N 8 15 G0 := by
  refine aN_1 hops hS0 hps 4 ?_
  refine w_o (a := v156) (h := op_q (q_lit (α := Ck) (l := [x7]) (cs := Enc.cells (x7 : Ck) ++ []) rfl (by rw [Enc.cons, Enc.nil]))) ?_
  exact aN_of n17 hS0 hps
 have n13 : N 9 28 G0 := by
  refine aN_1 hops hS0 hps 0 ?_
  refine w_mv ?_
  exact aN_of n16 hS0 hps
 have n12 : N 9 25 G0 := by
  refine aN_2 hops hS0 hps 1 2 ?_ ?_
  refine w_snd (r := v153) (σ' := ⟨[(30, (Enc.cells (x7 : Ck))), (30, (Enc.cellsL (([] : List Ck) : List Ck)))], [], [], 0, false⟩) (cloneC_nil x6.1 hc13 _) rfl rfl ⟨rfl, rfl⟩ (by dsimp only [aput, List.set]) ?_
  exact aN_of n15 hS0 hps
  refine w_mv ?_
  exact aN_of n16 hS0 hps
 have n11 : N 9 13 G0 := by
  refine aN_2 hops hS0 hps 1 4 ?_ ?_
  refine w_snd (r := v153) (σ' := ⟨[(30, (Enc.cells (x7 : Ck))), (30, (Enc.cellsL (([] : List Ck) : List Ck)))], [], [], 0, false⟩) (cloneC_nil x6.1 hc13 _) rfl rfl ⟨rfl, rfl⟩ (by dsimp only [aput, List.set]) ?_
  exact aN_of n14 hS0 hps
  refine w_o (a := v156) (h := op_q (q_lit (α := Ck) (l := [x7]) (cs := Enc.cells (x7 : Ck) ++ []) rfl (by rw [Enc.cons, Enc.nil]))) ?_
  exact aN_of n16 hS0 hps
 have n10 : N 9 11 G0 := by
  refine aN_2 hops hS0 hps 2 4 ?_ ?_
  refine w_mv ?_
  exact aN_of n14 hS0 hps
  refine w_o (a := v156) (h := op_q (q_lit (α := Ck) (l := [x7]) (cs := Enc.cells (x7 : Ck) ++ []) rfl (by rw [Enc.cons, Enc.nil]))) ?_
  exact aN_of n15 hS0 hps
 have n9 : N 9 7 G0 := by
  refine aN_1 hops hS0 hps 3 ?_
  refine w_o (a := v155) ?_
  exact aN_of n14 hS0 hps
 have n8 : N 10 24 G0 := by
  refine aN_2 hops hS0 hps 0 2 ?_ ?_
  refine w_mv ?_
  exact aN_of n12 hS0 hps
  refine w_mv ?_
  exact aN_of n13 hS0 hps
 have n7 : N 10 12 G0 := by
  refine aN_2 hops hS0 hps 0 4 ?_ ?_
  refine w_mv ?_
  exact aN_of n11 hS0 hps
  refine w_o (a := v156) (h := op_q (q_lit (α := Ck) (l := [x7]) (cs := Enc.cells (x7 : Ck) ++ []) rfl (by rw [Enc.cons, Enc.nil]))) ?_
  exact aN_of n13 hS0 hps
 have n6 : N 10 9 G0 := by
  refine aN_3 hops hS0 hps 1 2 4 ?_ ?_ ?_
  refine w_snd (r := v153) (σ' := ⟨[(30, (Enc.cells (x7 : Ck))), (30, (Enc.cellsL (([] : List Ck) : List Ck)))], [], [], 0, false⟩) (cloneC_nil x6.1 hc13 _) rfl rfl ⟨rfl, rfl⟩ (by dsimp only [aput, List.set]) ?_
  exact aN_of n10 hS0 hps
  refine w_mv ?_
  exact aN_of n11 hS0 hps
  refine w_o (a := v156) (h := op_q (q_lit (α := Ck) (l := [x7]) (cs := Enc.cells (x7 : Ck) ++ []) rfl (by rw [Enc.cons, Enc.nil]))) ?_
  exact aN_of n12 hS0 hps
 have n5 : N 10 5 G0 := by
  refine aN_2 hops hS0 hps 1 3 ?_ ?_
  refine w_snd (r := v153) (σ' := ⟨[(30, (Enc.cells (x7 : Ck))), (30, (Enc.cellsL (([] : List Ck) : List Ck)))], [], [], 0, false⟩) (cloneC_nil x6.1 hc13 _) rfl rfl ⟨rfl, rfl⟩ (by dsimp only [aput, List.set]) ?_
  exact aN_of n9 hS0 hps
  refine w_o (a := v155) ?_
  exact aN_of n11 hS0 hps
 have n4 : N 10 3 G0 := by
  refine aN_2 hops hS0 hps 2 3 ?_ ?_
  refine w_mv ?_
  exact aN_of n9 hS0 hps
  refine w_o (a := v155) ?_
  exact aN_of n10 hS0 hps
 have n3 : N 11 8 G0 := by
  refine aN_3 hops hS0 hps 0 2 4 ?_ ?_ ?_
  refine w_mv ?_
  exact aN_of n6 hS0 hps
  refine w_mv ?_
  exact aN_of n7 hS0 hps
  refine w_o (a := v156) (h := op_q (q_lit (α := Ck) (l := [x7]) (cs := Enc.cells (x7 : Ck) ++ []) rfl (by rw [Enc.cons, Enc.nil]))) ?_
  exact aN_of n8 hS0 hps
 have n2 : N 11 4 G0 := by
  refine aN_2 hops hS0 hps 0 3 ?_ ?_
  refine w_mv ?_
  exact aN_of n5 hS0 hps
  refine w_o (a := v155) ?_
  exact aN_of n7 hS0 hps
 have n1 : N 11 1 G0 := by
  refine aN_3 hops hS0 hps 1 2 3 ?_ ?_ ?_
  refine w_snd (r := v153) (σ' := ⟨[(30, (Enc.cells (x7 : Ck))), (30, (Enc.cellsL (([] : List Ck) : List Ck)))], [], [], 0, false⟩) (cloneC_nil x6.1 hc13 _) rfl rfl ⟨rfl, rfl⟩ (by dsimp only [aput, List.set]) ?_
  exact aN_of n4 hS0 hps
  refine w_mv ?_
  exact aN_of n5 hS0 hps
  refine w_o (a := v155) ?_
  exact aN_of n6 hS0 hps
 have n0 : N 12 0 G0 := by
  refine aN_3 hops hS0 hps 0 2 3 ?_ ?_ ?_
  refine w_mv ?_
  exact aN_of n1 hS0 hps
  refine w_mv ?_
  exact aN_of n2 hS0 hps
  refine w_o (a := v155) ?_
  exact aN_of n3 hS0 hps
 exact aN_start n0 hps
 refine w_seq (w_region ?_)
 refine w_mv ?_
 refine w_mv ?_
 refine w_o (a := .i (min n (-1))) (h := op_q (q_min rfl rfl rfl rfl rfl)) ?_
 refine w_o (a := .list (List.length (([1, (min n (-1))] : List Int) : List Int)) (Enc.cellsL (([1, (min n (-1))] : List Int) : List Int)) .full) (h := op_q (q_lit (α := Int) (l := [1, (min n (-1))]) (cs := Enc.cells (1 : Int) ++ (Enc.cells ((min n (-1)) : Int) ++ [])) rfl (by rw [Enc.cons, Enc.cons, Enc.nil]))) ?_
 obtain ⟨x10, hx10, h⟩ := bindE_e h
 refine w_callc (args' := [.list (List.length (x1 : List Ev)) (Enc.cellsL (x1 : List Ev)) .none, .list (List.length (([1, (min n (-1))] : List Int) : List Int)) (Enc.cellsL (([1, (min n (-1))] : List Int) : List Int)) .none]) (r := .tup [.list (List.length (x10.1 : List Ck)) (Enc.cellsL (x10.1 : List Ck)) .none, .i x10.2]) (cut_sh fuel x1 ([1, (min n (-1))] : List Int) x10 hx10) rfl rfl (stripL_cons (strip_l (Enc.cloL _)) (stripL_cons (strip_l (Enc.cloL _)) rfl)) (okTrimL_cons (okTrim_l (Enc.cloL _)) (okTrimL_cons (okTrim_l (Enc.cloL _)) rfl)) (by dsimp only [aput, List.set]) ?_
 refine w_mv ?_
 refine w_ex ?_
 refine w_ex ?_
 refine w_mv ?_
 refine w_mv ?_
 refine w_seq (w_region ?_)
 refine w_mv ?_
 refine w_mv ?_
 refine w_o (a := .b (x8.2.1 == (Int.tmod at_ ((List.length x6.1 : Int) + 1)))) ?_
 refine bif_e h (fun hc14 h => ?_) (fun hc14 h => ?_)
 refine w_o (a := .b true) (h := op_q (q_bool rfl hc14)) ?_
 refine w_met rfl rfl ?_
 refine w_mv ?_
 refine w_met rfl rfl ?_
 refine w_o (a := .b (x8.2.2 == 320)) ?_
 refine w_o (a := .b (x8.2.2 == 320)) ?_
 refine bif_e h (fun hc15 h => ?_) (fun hc15 h => ?_)
 refine w_o (a := .b true) (h := op_q (q_bool rfl hc15)) ?_
 refine w_met rfl rfl ?_
 refine w_mv ?_
 refine w_met rfl rfl ?_
 refine w_mv ?_
 refine w_met rfl rfl ?_
 refine w_o (a := .b (x9.2 == x8.2.2)) ?_
 refine w_o (a := .b (x9.2 == x8.2.2)) ?_
 refine bif_e h (fun hc16 h => ?_) (fun hc16 h => ?_)
 refine w_o (a := .b true) (h := op_q (q_bool rfl hc16)) ?_
 refine w_met rfl rfl ?_
 refine w_mv ?_
 refine w_met rfl rfl ?_
 refine w_o (a := .b (x10.2 == 2)) ?_
 refine w_o (a := .b (x10.2 == 2)) ?_
 refine bif_e h (fun hc17 h => ?_) (fun hc17 h => ?_)
 refine w_o (a := .b true) (h := op_q (q_bool rfl hc17)) ?_
 refine w_met rfl rfl ?_
 obtain ⟨x11, hx11, h⟩ := bindE_e h
 refine w_callc (args' := []) (r := .b x11) (awake_sh fuel x11 hx11) rfl rfl rfl rfl (by dsimp only [aput, List.set]) ?_
 refine w_o (a := .b x11) ?_
 refine w_mv ?_
 exact end_b h
 refine w_o (a := .b false) (h := op_q (q_bool rfl hc17)) ?_
 refine w_po ?_
 refine w_o (a := .b false) ?_
 refine w_mv ?_
 exact end_b h
 refine w_o (a := .b false) (h := op_q (q_bool rfl hc16)) ?_
 refine w_po ?_
 refine w_po ?_
 refine w_o (a := .b false) ?_
 refine w_mv ?_
 refine w_po ?_
 refine w_o (a := .b false) ?_
 refine w_mv ?_
 exact end_b h
 refine w_o (a := .b false) (h := op_q (q_bool rfl hc15)) ?_
 refine w_po ?_
 refine w_po ?_
 refine w_po ?_
 refine w_o (a := .b false) ?_
 refine w_mv ?_
 refine w_po ?_
 refine w_po ?_
 refine w_o (a := .b false) ?_
 refine w_mv ?_
 refine w_po ?_
 refine w_o (a := .b false) ?_
 refine w_mv ?_
 exact end_b h
 refine w_o (a := .b false) (h := op_q (q_bool rfl hc14)) ?_
 refine w_po ?_
 refine w_po ?_
 refine w_o (a := .b false) ?_
 refine w_mv ?_
 refine w_po ?_
 refine w_po ?_
 refine w_po ?_
 refine w_o (a := .b false) ?_
 refine w_mv ?_
 refine w_po ?_
 refine w_po ?_
 refine w_o (a := .b false) ?_
 refine w_mv ?_
 refine w_po ?_
 refine w_o (a := .b false) ?_
 refine w_mv ?_
 exact end_b h
 obtain ⟨g14, h⟩ := chk_e h
 obtain ⟨g15, h⟩ := chk_e h
 obtain ⟨x12, hx12, h⟩ := letE_e h
 obtain ⟨x13, hx13, h⟩ := bindE_e h
 refine w_seqAny (id := 15) [.top, .u how, .u at_, .i n, .top, .top, .top, .top, .top, .list (List.length (x1 : List Ev)) (Enc.cellsL (x1 : List Ev)) .none, .top, .top, .top, .top, .top, .top, .top, .top, .top, .list (List.length (x6.1 : List Ck)) (Enc.cellsL (x6.1 : List Ck)) .none, .i x6.2, .i (Int.tmod at_ ((List.length x6.1 : Int) + 1)), .ptr 0 0, .list (List.length (x13.1 : List Ev)) (Enc.cellsL (x13.1 : List Ev)) .none, .i x13.2.1, .i x13.2.2, .top, .top, .top, .top, .top, .top, .top, .top, .top, .top, .top, .top, .top, .top, .top, .top, .top, .top, .top, .top, .top, .top, .top, .top, .top, .top, .top, .top, .top, .top, .top, .top, .top, .top, .top, .top, .top, .top, .top, .top, .top, .top, .top, .top, .top, .top, .top, .top, .top, .top, .top, .top, .top, .top, .top, .top, .top, .top, .top, .top, .top, .top, .top, .top, .top, .top, .top, .top, .top, .top, .top, .top, .top, .top, .top, .top, .top, .top, .top, .top, .top, .top, .top, .top, .top, .top, .top, .tup [.list (List.length (x6.1 : List Ck)) (Enc.cellsL (x6.1 : List Ck)) .none, .i x6.2], .list (List.length (x1 : List Ev)) (Enc.cellsL (x1 : List Ev)) .none, .tup [.list (List.length (x6.1 : List Ck)) (Enc.cellsL (x6.1 : List Ck)) .none, .i x6.2], .list (List.length (x6.1 : List Ck)) (Enc.cellsL (x6.1 : List Ck)) .none, .i x6.2, .u at_, .i at_, .list (List.length (x6.1 : List Ck)) (Enc.cellsL (x6.1 : List Ck)) .none, .i (List.length x6.1 : Int), .i ((List.length x6.1 : Int) + 1), .i (Int.tmod at_ ((List.length x6.1 : Int) + 1)), .i x6.2, .b (x6.2 != 0), .agg (Enc.cells ((Ck.mk 0 []) : Ck)), .u how, .u (max how 4), .agg (Enc.cells ((Ck.mk (max how 4) []) : Ck)), .u how, .list (List.length (([(u8of how)] : List UInt8) : List UInt8)) (Enc.cellsL (([(u8of how)] : List UInt8) : List UInt8)) .full, .agg (Enc.cells ((Ck.mk 2 ([(u8of how)] : List UInt8)) : Ck)), .list (List.length (([0] : List UInt8) : List UInt8)) (Enc.cellsL (([0] : List UInt8) : List UInt8)) .full, .agg (Enc.cells ((Ck.mk 3 ([0] : List UInt8)) : Ck)), .list (List.length ([(Ck.mk 0 []), (Ck.mk (max how 4) []), (Ck.mk 2 ([(u8of how)] : List UInt8)), (Ck.mk 3 ([0] : List UInt8))] : List Ck)) (Enc.cellsL ([(Ck.mk 0 []), (Ck.mk (max how 4) []), (Ck.mk 2 ([(u8of how)] : List UInt8)), (Ck.mk 3 ([0] : List UInt8))] : List Ck)) .full, .u how, .u (Int.tmod how 4), .iptr (Enc.cells x7 ++ Enc.cellsL (List.drop (Int.toNat (Int.tmod how 4) + 1) [(Ck.mk 0 []), (Ck.mk (max how 4) []), (Ck.mk 2 ([(u8of how)] : List UInt8)), (Ck.mk 3 ([0] : List UInt8))])), .agg (Enc.cells (x7 : Ck)), .tup [.list (List.length (x13.1 : List Ev)) (Enc.cellsL (x13.1 : List Ev)) .none, .i x13.2.1, .i x13.2.2], .list (List.length (x6.1 : List Ck)) (Enc.cellsL (x6.1 : List Ck)) .none, .bsl 1 0 (List.length x6.1) 2 false, .i (Int.tmod at_ ((List.length x6.1 : Int) + 1)), .agg (Enc.cells (x7 : Ck)), .list (List.length ([x7] : List Ck)) (Enc.cellsL ([x7] : List Ck)) .full, .bsl 2 0 (List.length x12) 2 false, .tup [.list (List.length (x13.1 : List Ev)) (Enc.cellsL (x13.1 : List Ev)) .none, .i x13.2.1, .i x13.2.2], .list (List.length (x13.1 : List Ev)) (Enc.cellsL (x13.1 : List Ev)) .none, .i x13.2.1, .i x13.2.2, .top, .top, .top, .top, .top, .top, .top, .top, .top, .top, .top, .top, .top, .top, .top, .top, .top, .top, .top, .top, .top, .top, .top, .top, .top, .top, .top, .top, .top, .top, .top, .top, .top, .top, .top, .top, .top] ⟨[(30, (Enc.cells (x7 : Ck))), (30, (Enc.cellsL (([] : List Ck) : List Ck))), (30, (Enc.cellsL (([] : List Ck) : List Ck)))], [], [], 0, false⟩ ?_ ?_
 refine aany_intro (fun ops hops FIN hFIN S0 hS0 => ?_)
 let v144 : AV := .agg (Enc.cells (x7 : Ck))
 let v142 : AV := .bsl 1 0 (List.length x6.1) 2 false
 let v145 : AV := .list (List.length ([x7] : List Ck)) (Enc.cellsL ([x7] : List Ck)) .full
 let v146 : AV := .bsl 2 0 (List.length x12) 2 false
 let v147 : AV := .tup [.list (List.length (x13.1 : List Ev)) (Enc.cellsL (x13.1 : List Ev)) .none, .i x13.2.1, .i x13.2.2]
 let G0 : St := ⟨[(30, (Enc.cells (x7 : Ck)))], [], [], 0, false⟩
 let G1 : St := ⟨[(30, (Enc.cells (x7 : Ck))), (30, (Enc.cellsL (x6.1 : List Ck)))], [], [], 0, false⟩
 let G2 : St := ⟨[(30, (Enc.cells (x7 : Ck))), (30, (Enc.cellsL (([] : List Ck) : List Ck))), (30, (Enc.cellsL (x12 : List Ck)))], [], [], 0, false⟩
 let G3 : St := ⟨[(30, (Enc.cells (x7 : Ck))), (30, (Enc.cellsL (([] : List Ck) : List Ck))), (30, (Enc.cellsL (([] : List Ck) : List Ck)))], [], [], 0, false⟩
 obtain ⟨ps, hps⟩ : ∃ ps : List (Option (Nat × AV)), ps = [some (141, .list (List.length (x6.1 : List Ck)) (Enc.cellsL (x6.1 : List Ck)) .none), some (142, v142), some (143, .i (Int.tmod at_ ((List.length x6.1 : Int) + 1))), some (144, v144), some (145, v145), some (146, v146), some (147, v147), some (140, .tup [.list (List.length (x13.1 : List Ev)) (Enc.cellsL (x13.1 : List Ev)) .none, .i x13.2.1, .i x13.2.2]), some (148, .list (List.length (x13.1 : List Ev)) (Enc.cellsL (x13.1 : List Ev)) .none), some (149, .i x13.2.1), some (150, .i x13.2.2), some (23, .list (List.length (x13.1 : List Ev)) (Enc.cellsL (x13.1 : List Ev)) .none), some (24, .i x13.2.1), some (25, .i x13.2.2)] := ⟨_, rfl⟩
 let N : Nat → Nat → St → Prop := fun k m σ => aN (ITP Tryz.prog) Tryz.prog none ops FIN S0 ps 14 k m σ
 have n34 : N 0 16383 G3 := by
  exact aN_0 hops hS0 hps (hFIN _ _ (Wk.refl _ _ _))
 have n33 : N 1 8191 G3 := by
  refine aN_1 hops hS0 hps 13 ?_
  refine w_mv ?_
  exact aN_of n34 hS0 hps
 have n32 : N 2 7167 G3 := by
  refine aN_1 hops hS0 hps 10 ?_
  refine w_ex ?_
  exact aN_of n33 hS0 hps
 have n31 : N 2 4095 G3 := by
  refine aN_1 hops hS0 hps 12 ?_
  refine w_mv ?_
  exact aN_of n33 hS0 hps
 have n30 : N 3 3583 G3 := by
  refine aN_1 hops hS0 hps 9 ?_
  refine w_ex ?_
  exact aN_of n31 hS0 hps
 have n29 : N 3 3071 G3 := by
  refine aN_2 hops hS0 hps 10 12 ?_ ?_
  refine w_ex ?_
  exact aN_of n31 hS0 hps
  refine w_mv ?_
  exact aN_of n32 hS0 hps
 have n28 : N 3 2047 G3 := by
  refine aN_1 hops hS0 hps 11 ?_
  refine w_mv ?_
  exact aN_of n31 hS0 hps
 have n27 : N 4 1791 G3 := by
  refine aN_1 hops hS0 hps 8 ?_
  refine w_ex ?_
  exact aN_of n28 hS0 hps
 have n26 : N 4 2559 G3 := by
  refine aN_2 hops hS0 hps 9 10 ?_ ?_
  refine w_ex ?_
  exact aN_of n29 hS0 hps
  refine w_ex ?_
  exact aN_of n30 hS0 hps
 have n25 : N 4 1535 G3 := by
  refine aN_2 hops hS0 hps 9 11 ?_ ?_
  refine w_ex ?_
  exact aN_of n28 hS0 hps
  refine w_mv ?_
  exact aN_of n30 hS0 hps
 have n24 : N 4 1023 G3 := by
  refine aN_2 hops hS0 hps 10 11 ?_ ?_
  refine w_ex ?_
  exact aN_of n28 hS0 hps
  refine w_mv ?_
  exact aN_of n29 hS0 hps
 have n23 : N 5 1279 G3 := by
  refine aN_2 hops hS0 hps 8 9 ?_ ?_
  refine w_ex ?_
  exact aN_of n25 hS0 hps
  refine w_ex ?_
  exact aN_of n27 hS0 hps
 have n22 : N 5 767 G3 := by
  refine aN_2 hops hS0 hps 8 10 ?_ ?_
  refine w_ex ?_
  exact aN_of n24 hS0 hps
  refine w_ex ?_
  exact aN_of n27 hS0 hps
 have n21 : N 5 511 G3 := by
  refine aN_3 hops hS0 hps 9 10 11 ?_ ?_ ?_
  refine w_ex ?_
  exact aN_of n24 hS0 hps
  refine w_ex ?_
  exact aN_of n25 hS0 hps
  refine w_mv ?_
  exact aN_of n26 hS0 hps
 have n20 : N 6 255 G3 := by
  refine aN_3 hops hS0 hps 8 9 10 ?_ ?_ ?_
  refine w_ex ?_
  exact aN_of n21 hS0 hps
  refine w_ex ?_
  exact aN_of n22 hS0 hps
  refine w_ex ?_
  exact aN_of n23 hS0 hps
 have n19 : N 7 127 G3 := by
  refine aN_1 hops hS0 hps 7 ?_
  refine w_mv ?_
  exact aN_of n20 hS0 hps
 have n18 : N 8 63 G2 := by
  refine aN_1 hops hS0 hps 6 ?_
  refine w_snd (r := v147) (σ' := ⟨[(30, (Enc.cells (x7 : Ck))), (30, (Enc.cellsL (([] : List Ck) : List Ck))), (30, (Enc.cellsL (([] : List Ck) : List Ck)))], [], [], 0, false⟩) (snd_frz (α := Ck) (t := 30) (l := x12) (itp_mono _) (join_sh fuel x12 x13 hx13) rfl rfl rfl) rfl rfl ⟨rfl, rfl⟩ (by dsimp only [aput, List.set]) ?_
  exact aN_of n19 hS0 hps
 have n17 : N 9 31 G1 := by
  refine aN_1 hops hS0 hps 5 ?_
  refine w_snd (r := v146) (σ' := ⟨[(30, (Enc.cells (x7 : Ck))), (30, (Enc.cellsL (([] : List Ck) : List Ck))), (30, (Enc.cellsL (x12 : List Ck)))], [], [], 0, false⟩) (insC_snd x6.1 [x7] (Int.tmod at_ ((List.length x6.1 : Int) + 1)) _ _ 1 2 x12 hx12 g15 rfl rfl) rfl rfl ⟨rfl, rfl⟩ (by dsimp only [aput, List.set]) ?_
  exact aN_of n18 hS0 hps
 have n16 : N 10 29 G0 := by
  refine aN_1 hops hS0 hps 1 ?_
  refine w_snd (r := v142) (σ' := ⟨[(30, (Enc.cells (x7 : Ck))), (30, (Enc.cellsL (x6.1 : List Ck)))], [], [], 0, false⟩) (cloneC_some x6.1 g14 hc13 1 _ rfl) rfl rfl ⟨rfl, rfl⟩ (by dsimp only [aput, List.set]) ?_
  exact aN_of n17 hS0 hps
 have n15 : N 10 27 G1 := by
  refine aN_1 hops hS0 hps 2 ?_
  refine w_mv ?_
  exact aN_of n17 hS0 hps
 have n14 : N 10 15 G1 := by
  refine aN_1 hops hS0 hps 4 ?_
  refine w_o (a := v145) (h := op_q (q_lit (α := Ck) (l := [x7]) (cs := Enc.cells (x7 : Ck) ++ []) rfl (by rw [Enc.cons, Enc.nil]))) ?_
  exact aN_of n17 hS0 hps
 have n13 : N 11 28 G0 := by
  refine aN_1 hops hS0 hps 0 ?_
  refine w_mv ?_
  exact aN_of n16 hS0 hps
 have n12 : N 11 25 G0 := by
  refine aN_2 hops hS0 hps 1 2 ?_ ?_
  refine w_snd (r := v142) (σ' := ⟨[(30, (Enc.cells (x7 : Ck))), (30, (Enc.cellsL (x6.1 : List Ck)))], [], [], 0, false⟩) (cloneC_some x6.1 g14 hc13 1 _ rfl) rfl rfl ⟨rfl, rfl⟩ (by dsimp only [aput, List.set]) ?_
  exact aN_of n15 hS0 hps
  refine w_mv ?_
  exact aN_of n16 hS0 hps
 have n11 : N 11 13 G0 := by
  refine aN_2 hops hS0 hps 1 4 ?_ ?_
  refine w_snd (r := v142) (σ' := ⟨[(30, (Enc.cells (x7 : Ck))), (30, (Enc.cellsL (x6.1 : List Ck)))], [], [], 0, false⟩) (cloneC_some x6.1 g14 hc13 1 _ rfl) rfl rfl ⟨rfl, rfl⟩ (by dsimp only [aput, List.set]) ?_
  exact aN_of n14 hS0 hps
  refine w_o (a := v145) (h := op_q (q_lit (α := Ck) (l := [x7]) (cs := Enc.cells (x7 : Ck) ++ []) rfl (by rw [Enc.cons, Enc.nil]))) ?_
  exact aN_of n16 hS0 hps
 have n10 : N 11 11 G1 := by
  refine aN_2 hops hS0 hps 2 4 ?_ ?_
  refine w_mv ?_
  exact aN_of n14 hS0 hps
  refine w_o (a := v145) (h := op_q (q_lit (α := Ck) (l := [x7]) (cs := Enc.cells (x7 : Ck) ++ []) rfl (by rw [Enc.cons, Enc.nil]))) ?_
  exact aN_of n15 hS0 hps
 have n9 : N 11 7 G1 := by
  refine aN_1 hops hS0 hps 3 ?_
  refine w_o (a := v144) ?_
  exact aN_of n14 hS0 hps
 have n8 : N 12 24 G0 := by
  refine aN_2 hops hS0 hps 0 2 ?_ ?_
  refine w_mv ?_
  exact aN_of n12 hS0 hps
  refine w_mv ?_
  exact aN_of n13 hS0 hps
 have n7 : N 12 12 G0 := by
  refine aN_2 hops hS0 hps 0 4 ?_ ?_
  refine w_mv ?_
  exact aN_of n11 hS0 hps
  refine w_o (a := v145) (h := op_q (q_lit (α := Ck) (l := [x7]) (cs := Enc.cells (x7 : Ck) ++ []) rfl (by rw [Enc.cons, Enc.nil]))) ?_
  exact aN_of n13 hS0 hps
 have n6 : N 12 9 G0 := by
  refine aN_3 hops hS0 hps 1 2 4 ?_ ?_ ?_
  refine w_snd (r := v142) (σ' := ⟨[(30, (Enc.cells (x7 : Ck))), (30, (Enc.cellsL (x6.1 : List Ck)))], [], [], 0, false⟩) (cloneC_some x6.1 g14 hc13 1 _ rfl) rfl rfl ⟨rfl, rfl⟩ (by dsimp only [aput, List.set]) ?_
  exact aN_of n10 hS0 hps
  refine w_mv ?_
  exact aN_of n11 hS0 hps
  refine w_o (a := v145) (h := op_q (q_lit (α := Ck) (l := [x7]) (cs := Enc.cells (x7 : Ck) ++ []) rfl (by rw [Enc.cons, Enc.nil]))) ?_
  exact aN_of n12 hS0 hps
 have n5 : N 12 5 G0 := by
  refine aN_2 hops hS0 hps 1 3 ?_ ?_
  refine w_snd (r := v142) (σ' := ⟨[(30, (Enc.cells (x7 : Ck))), (30, (Enc.cellsL (x6.1 : List Ck)))], [], [], 0, false⟩) (cloneC_some x6.1 g14 hc13 1 _ rfl) rfl rfl ⟨rfl, rfl⟩ (by dsimp only [aput, List.set]) ?_
  exact aN_of n9 hS0 hps
  refine w_o (a := v144) ?_
  exact aN_of n11 hS0 hps
 have n4 : N 12 3 G1 := by
  refine aN_2 hops hS0 hps 2 3 ?_ ?_
  refine w_mv ?_
  exact aN_of n9 hS0 hps
  refine w_o (a := v144) ?_
  exact aN_of n10 hS0 hps
 have n3 : N 13 8 G0 := by
  refine aN_3 hops hS0 hps 0 2 4 ?_ ?_ ?_
  refine w_mv ?_
  exact aN_of n6 hS0 hps
  refine w_mv ?_
  exact aN_of n7 hS0 hps
  refine w_o (a := v145) (h := op_q (q_lit (α := Ck) (l := [x7]) (cs := Enc.cells (x7 : Ck) ++ []) rfl (by rw [Enc.cons, Enc.nil]))) ?_
  exact aN_of n8 hS0 hps
 have n2 : N 13 4 G0 := by
  refine aN_2 hops hS0 hps 0 3 ?_ ?_
  refine w_mv ?_
  exact aN_of n5 hS0 hps
  refine w_o (a := v144) ?_
  exact aN_of n7 hS0 hps
 have n1 : N 13 1 G0 := by
  refine aN_3 hops hS0 hps 1 2 3 ?_ ?_ ?_
  refine w_snd (r := v142) (σ' := ⟨[(30, (Enc.cells (x7 : Ck))), (30, (Enc.cellsL (x6.1 : List Ck)))], [], [], 0, false⟩) (cloneC_some x6.1 g14 hc13 1 _ rfl) rfl rfl ⟨rfl, rfl⟩ (by dsimp only [aput, List.set]) ?_
  exact aN_of n4 hS0 hps
  refine w_mv ?_
  exact aN_of n5 hS0 hps
  refine w_o (a := v144) ?_
  exact aN_of n6 hS0 hps
 have n0 : N 14 0 G0 := by
  refine aN_3 hops hS0 hps 0 2 3 ?_ ?_ ?_
  refine w_mv ?_
  exact aN_of n1 hS0 hps
  refine w_mv ?_
  exact aN_of n2 hS0 hps
  refine w_o (a := v144) ?_
  exact aN_of n3 hS0 hps
 exact aN_start n0 hps
 obtain ⟨g16, h⟩ := chk_e h
 obtain ⟨g17, h⟩ := chk_e h
 obtain ⟨x14, hx14, h⟩ := letE_e h
 obtain ⟨x15, hx15, h⟩ := bindE_e h
 refine w_seqAny (id := 16) [.top, .u how, .u at_, .i n, .top, .top, .top, .top, .top, .list (List.length (x1 : List Ev)) (Enc.cellsL (x1 : List Ev)) .none, .top, .top, .top, .top, .top, .top, .top, .top, .top, .list (List.length (x6.1 : List Ck)) (Enc.cellsL (x6.1 : List Ck)) .none, .i x6.2, .i (Int.tmod at_ ((List.length x6.1 : Int) + 1)), .ptr 0 0, .list (List.length (x13.1 : List Ev)) (Enc.cellsL (x13.1 : List Ev)) .none, .i x13.2.1, .i x13.2.2, .b x15.1, .i x15.2, .top, .top, .top, .top, .top, .top, .top, .top, .top, .top, .top, .top, .top, .top, .top, .top, .top, .top, .top, .top, .top, .top, .top, .top, .top, .top, .top, .top, .top, .top, .top, .top, .top, .top, .top, .top, .top, .top, .top, .top, .top, .top, .top, .top, .top, .top, .top, .top, .top, .top, .top, .top, .top, .top, .top, .top, .top, .top, .top, .top, .top, .top, .top, .top, .top, .top, .top, .top, .top, .top, .top, .top, .top, .top, .top, .top, .top, .top, .top, .top, .top, .top, .top, .top, .top, .tup [.list (List.length (x6.1 : List Ck)) (Enc.cellsL (x6.1 : List Ck)) .none, .i x6.2], .list (List.length (x1 : List Ev)) (Enc.cellsL (x1 : List Ev)) .none, .tup [.list (List.length (x6.1 : List Ck)) (Enc.cellsL (x6.1 : List Ck)) .none, .i x6.2], .list (List.length (x6.1 : List Ck)) (Enc.cellsL (x6.1 : List Ck)) .none, .i x6.2, .u at_, .i at_, .list (List.length (x6.1 : List Ck)) (Enc.cellsL (x6.1 : List Ck)) .none, .i (List.length x6.1 : Int), .i ((List.length x6.1 : Int) + 1), .i (Int.tmod at_ ((List.length x6.1 : Int) + 1)), .i x6.2, .b (x6.2 != 0), .agg (Enc.cells ((Ck.mk 0 []) : Ck)), .u how, .u (max how 4), .agg (Enc.cells ((Ck.mk (max how 4) []) : Ck)), .u how, .list (List.length (([(u8of how)] : List UInt8) : List UInt8)) (Enc.cellsL (([(u8of how)] : List UInt8) : List UInt8)) .full, .agg (Enc.cells ((Ck.mk 2 ([(u8of how)] : List UInt8)) : Ck)), .list (List.length (([0] : List UInt8) : List UInt8)) (Enc.cellsL (([0] : List UInt8) : List UInt8)) .full, .agg (Enc.cells ((Ck.mk 3 ([0] : List UInt8)) : Ck)), .list (List.length ([(Ck.mk 0 []), (Ck.mk (max how 4) []), (Ck.mk 2 ([(u8of how)] : List UInt8)), (Ck.mk 3 ([0] : List UInt8))] : List Ck)) (Enc.cellsL ([(Ck.mk 0 []), (Ck.mk (max how 4) []), (Ck.mk 2 ([(u8of how)] : List UInt8)), (Ck.mk 3 ([0] : List UInt8))] : List Ck)) .full, .u how, .u (Int.tmod how 4), .iptr (Enc.cells x7 ++ Enc.cellsL (List.drop (Int.toNat (Int.tmod how 4) + 1) [(Ck.mk 0 []), (Ck.mk (max how 4) []), (Ck.mk 2 ([(u8of how)] : List UInt8)), (Ck.mk 3 ([0] : List UInt8))])), .agg (Enc.cells (x7 : Ck)), .tup [.list (List.length (x13.1 : List Ev)) (Enc.cellsL (x13.1 : List Ev)) .none, .i x13.2.1, .i x13.2.2], .list (List.length (x6.1 : List Ck)) (Enc.cellsL (x6.1 : List Ck)) .none, .bsl 1 0 (List.length x6.1) 2 false, .i (Int.tmod at_ ((List.length x6.1 : Int) + 1)), .agg (Enc.cells (x7 : Ck)), .list (List.length ([x7] : List Ck)) (Enc.cellsL ([x7] : List Ck)) .full, .bsl 2 0 (List.length x12) 2 false, .tup [.list (List.length (x13.1 : List Ev)) (Enc.cellsL (x13.1 : List Ev)) .none, .i x13.2.1, .i x13.2.2], .list (List.length (x13.1 : List Ev)) (Enc.cellsL (x13.1 : List Ev)) .none, .i x13.2.1, .i x13.2.2, .tup [.b x15.1, .i x15.2], .list (List.length (x6.1 : List Ck)) (Enc.cellsL (x6.1 : List Ck)) .none, .bsl 3 0 (List.length x6.1) 2 false, .i (Int.tmod at_ ((List.length x6.1 : Int) + 1)), .agg (Enc.cells (x7 : Ck)), .list (List.length ([x7] : List Ck)) (Enc.cellsL ([x7] : List Ck)) .full, .bsl 4 0 (List.length x14) 2 false, .tup [.b x15.1, .i x15.2], .b x15.1, .i x15.2, .top, .top, .top, .top, .top, .top, .top, .top, .top, .top, .top, .top, .top, .top, .top, .top, .top, .top, .top, .top, .top, .top, .top, .top, .top, .top, .top] ⟨[(30, (Enc.cells (x7 : Ck))), (30, (Enc.cellsL (([] : List Ck) : List Ck))), (30, (Enc.cellsL (([] : List Ck) : List Ck))), (30, (Enc.cellsL (([] : List Ck) : List Ck))), (30, (Enc.cellsL (([] : List Ck) : List Ck)))], [], [], 0, false⟩ ?_ ?_
 refine aany_intro (fun ops hops FIN hFIN S0 hS0 => ?_)
 let v155 : AV := .agg (Enc.cells (x7 : Ck))
 let v153 : AV := .bsl 3 0 (List.length x6.1) 2 false
 let v156 : AV := .list (List.length ([x7] : List Ck)) (Enc.cellsL ([x7] : List Ck)) .full
 let v157 : AV := .bsl 4 0 (List.length x14) 2 false
 let v158 : AV := .tup [.b x15.1, .i x15.2]
 let G0 : St := ⟨[(30, (Enc.cells (x7 : Ck))), (30, (Enc.cellsL (([] : List Ck) : List Ck))), (30, (Enc.cellsL (([] : List Ck) : List Ck)))], [], [], 0, false⟩
 let G1 : St := ⟨[(30, (Enc.cells (x7 : Ck))), (30, (Enc.cellsL (([] : List Ck) : List Ck))), (30, (Enc.cellsL (([] : List Ck) : List Ck))), (30, (Enc.cellsL (x6.1 : List Ck)))], [], [], 0, false⟩
 let G2 : St := ⟨[(30, (Enc.cells (x7 : Ck))), (30, (Enc.cellsL (([] : List Ck) : List Ck))), (30, (Enc.cellsL (([] : List Ck) : List Ck))), (30, (Enc.cellsL (([] : List Ck) : List Ck))), (30, (Enc.cellsL (x14 : List Ck)))], [], [], 0, false⟩
 let G3 : St := ⟨[(30, (Enc.cells (x7 : Ck))), (30, (Enc.cellsL (([] : List Ck) : List Ck))), (30, (Enc.cellsL (([] : List Ck) : List Ck))), (30, (Enc.cellsL (([] : List Ck) : List Ck))), (30, (Enc.cellsL (([] : List Ck) : List Ck)))], [], [], 0, false⟩
 obtain ⟨ps, hps⟩ : ∃ ps : List (Option (Nat × AV)), ps = [some (152, .list (List.length (x6.1 : List Ck)) (Enc.cellsL (x6.1 : List Ck)) .none), some (153, v153), some (154, .i (Int.tmod at_ ((List.length x6.1 : Int) + 1))), some (155, v155), some (156, v156), some (157, v157), some (158, v158), some (151, .tup [.b x15.1, .i x15.2]), some (159, .b x15.1), some (160, .i x15.2), some (26, .b x15.1), some (27, .i x15.2)] := ⟨_, rfl⟩
 let N : Nat → Nat → St → Prop := fun k m σ => aN (ITP Tryz.prog) Tryz.prog none ops FIN S0 ps 12 k m σ
 have n26 : N 0 4095 G3 := by
  exact aN_0 hops hS0 hps (hFIN _ _ (Wk.refl _ _ _))
 have n25 : N 1 2047 G3 := by
  refine aN_1 hops hS0 hps 11 ?_
  refine w_mv ?_
  exact aN_of n26 hS0 hps
 have n24 : N 2 1535 G3 := by
  refine aN_1 hops hS0 hps 9 ?_
  refine w_ex ?_
  exact aN_of n25 hS0 hps
 have n23 : N 2 1023 G3 := by
  refine aN_1 hops hS0 hps 10 ?_
  refine w_mv ?_
  exact aN_of n25 hS0 hps
 have n22 : N 3 767 G3 := by
  refine aN_1 hops hS0 hps 8 ?_
  refine w_ex ?_
  exact aN_of n23 hS0 hps
 have n21 : N 3 511 G3 := by
  refine aN_2 hops hS0 hps 9 10 ?_ ?_
  refine w_ex ?_
  exact aN_of n23 hS0 hps
  refine w_mv ?_
  exact aN_of n24 hS0 hps
 have n20 : N 4 255 G3 := by
  refine aN_2 hops hS0 hps 8 9 ?_ ?_
  refine w_ex ?_
  exact aN_of n21 hS0 hps
  refine w_ex ?_
  exact aN_of n22 hS0 hps
 have n19 : N 5 127 G3 := by
  refine aN_1 hops hS0 hps 7 ?_
  refine w_mv ?_
  exact aN_of n20 hS0 hps
 have n18 : N 6 63 G2 := by
  refine aN_1 hops hS0 hps 6 ?_
  refine w_snd (r := v158) (σ' := ⟨[(30, (Enc.cells (x7 : Ck))), (30, (Enc.cellsL (([] : List Ck) : List Ck))), (30, (Enc.cellsL (([] : List Ck) : List Ck))), (30, (Enc.cellsL (([] : List Ck) : List Ck))), (30, (Enc.cellsL (([] : List Ck) : List Ck)))], [], [], 0, false⟩) (snd_frz (α := Ck) (t := 30) (l := x14) (itp_mono _) (alike_sh fuel x14 [] x15 hx15) (stripL_cons rfl rfl) (by kernel_rfl) rfl) rfl rfl ⟨rfl, rfl⟩ (by dsimp only [aput, List.set]) ?_
  exact aN_of n19 hS0 hps
 have n17 : N 7 31 G1 := by
  refine aN_1 hops hS0 hps 5 ?_
  refine w_snd (r := v157) (σ' := ⟨[(30, (Enc.cells (x7 : Ck))), (30, (Enc.cellsL (([] : List Ck) : List Ck))), (30, (Enc.cellsL (([] : List Ck) : List Ck))), (30, (Enc.cellsL (([] : List Ck) : List Ck))), (30, (Enc.cellsL (x14 : List Ck)))], [], [], 0, false⟩) (insC_snd x6.1 [x7] (Int.tmod at_ ((List.length x6.1 : Int) + 1)) _ _ 3 4 x14 hx14 g17 rfl rfl) rfl rfl ⟨rfl, rfl⟩ (by dsimp only [aput, List.set]) ?_
  exact aN_of n18 hS0 hps
 have n16 : N 8 29 G0 := by
  refine aN_1 hops hS0 hps 1 ?_
  refine w_snd (r := v153) (σ' := ⟨[(30, (Enc.cells (x7 : Ck))), (30, (Enc.cellsL (([] : List Ck) : List Ck))), (30, (Enc.cellsL (([] : List Ck) : List Ck))), (30, (Enc.cellsL (x6.1 : List Ck)))], [], [], 0, false⟩) (cloneC_some x6.1 g16 hc13 3 _ rfl) rfl rfl ⟨rfl, rfl⟩ (by dsimp only [aput, List.set]) ?_
  exact aN_of n17 hS0 hps
 have n15 : N 8 27 G1 := by
  refine aN_1 hops hS0 hps 2 ?_
  refine w_mv ?_
  exact aN_of n17 hS0 hps
 have n14 : N 8 15 G1 := by
  refine aN_1 hops hS0 hps 4 ?_
  refine w_o (a := v156) (h := op_q (q_lit (α := Ck) (l := [x7]) (cs := Enc.cells (x7 : Ck) ++ []) rfl (by rw [Enc.cons, Enc.nil]))) ?_
  exact aN_of n17 hS0 hps
 have n13 : N 9 28 G0 := by
  refine aN_1 hops hS0 hps 0 ?_
  refine w_mv ?_
  exact aN_of n16 hS0 hps
 have n12 : N 9 25 G0 := by
  refine aN_2 hops hS0 hps 1 2 ?_ ?_
  refine w_snd (r := v153) (σ' := ⟨[(30, (Enc.cells (x7 : Ck))), (30, (Enc.cellsL (([] : List Ck) : List Ck))), (30, (Enc.cellsL (([] : List Ck) : List Ck))), (30, (Enc.cellsL (x6.1 : List Ck)))], [], [], 0, false⟩) (cloneC_some x6.1 g16 hc13 3 _ rfl) rfl rfl ⟨rfl, rfl⟩ (by dsimp only [aput, List.set]) ?_
  exact aN_of n15 hS0 hps
  refine w_mv ?_
  exact aN_of n16 hS0 hps
 have n11 : N 9 13 G0 := by
  refine aN_2 hops hS0 hps 1 4 ?_ ?_
  refine w_snd (r := v153) (σ' := ⟨[(30, (Enc.cells (x7 : Ck))), (30, (Enc.cellsL (([] : List Ck) : List Ck))), (30, (Enc.cellsL (([] : List Ck) : List Ck))), (30, (Enc.cellsL (x6.1 : List Ck)))], [], [], 0, false⟩) (cloneC_some x6.1 g16 hc13 3 _ rfl) rfl rfl ⟨rfl, rfl⟩ (by dsimp only [aput, List.set]) ?_
  exact aN_of n14 hS0 hps
  refine w_o (a := v156) (h := op_q (q_lit (α := Ck) (l := [x7]) (cs := Enc.cells (x7 : Ck) ++ []) rfl (by rw [Enc.cons, Enc.nil]))) ?_
  exact aN_of n16 hS0 hps
 have n10 : N 9 11 G1 := by
  refine aN_2 hops hS0 hps 2 4 ?_ ?_
  refine w_mv ?_
  exact aN_of n14 hS0 hps
  refine w_o (a := v156) (h := op_q (q_lit (α := Ck) (l := [x7]) (cs := Enc.cells (x7 : Ck) ++ []) rfl (by rw [Enc.cons, Enc.nil]))) ?_
  exact aN_of n15 hS0 hps
 have n9 : N 9 7 G1 := by
  refine aN_1 hops hS0 hps 3 ?_
  refine w_o (a := v155) ?_
  exact aN_of n14 hS0 hps
 have n8 : N 10 24 G0 := by
  refine aN_2 hops hS0 hps 0 2 ?_ ?_
  refine w_mv ?_
  exact aN_of n12 hS0 hps
  refine w_mv ?_
  exact aN_of n13 hS0 hps
 have n7 : N 10 12 G0 := by
  refine aN_2 hops hS0 hps 0 4 ?_ ?_
  refine w_mv ?_
  exact aN_of n11 hS0 hps
  refine w_o (a := v156) (h := op_q (q_lit (α := Ck) (l := [x7]) (cs := Enc.cells (x7 : Ck) ++ []) rfl (by rw [Enc.cons, Enc.nil]))) ?_
  exact aN_of n13 hS0 hps
 have n6 : N 10 9 G0 := by
  refine aN_3 hops hS0 hps 1 2 4 ?_ ?_ ?_
  refine w_snd (r := v153) (σ' := ⟨[(30, (Enc.cells (x7 : Ck))), (30, (Enc.cellsL (([] : List Ck) : List Ck))), (30, (Enc.cellsL (([] : List Ck) : List Ck))), (30, (Enc.cellsL (x6.1 : List Ck)))], [], [], 0, false⟩) (cloneC_some x6.1 g16 hc13 3 _ rfl) rfl rfl ⟨rfl, rfl⟩ (by dsimp only [aput, List.set]) ?_
  exact aN_of n10 hS0 hps
  refine w_mv ?_
  exact aN_of n11 hS0 hps
  refine w_o (a := v156) (h := op_q (q_lit (α := Ck) (l := [x7]) (cs := Enc.cells (x7 : Ck) ++ []) rfl (by rw [Enc.cons, Enc.nil]))) ?_
  exact aN_of n12 hS0 hps
 have n5 : N 10 5 G0 := by
  refine aN_2 hops hS0 hps 1 3 ?_ ?_
  refine w_snd (r := v153) (σ' := ⟨[(30, (Enc.cells (x7 : Ck))), (30, (Enc.cellsL (([] : List Ck) : List Ck))), (30, (Enc.cellsL (([] : List Ck) : List Ck))), (30, (Enc.cellsL (x6.1 : List Ck)))], [], [], 0, false⟩) (cloneC_some x6.1 g16 hc13 3 _ rfl) rfl rfl ⟨rfl, rfl⟩ (by dsimp only [aput, List.set]) ?_
  exact aN_of n9 hS0 hps
  refine w_o (a := v155) ?_
  exact aN_of n11 hS0 hps
 have n4 : N 10 3 G1 := by
  refine aN_2 hops hS0 hps 2 3 ?_ ?_
  refine w_mv ?_
  exact aN_of n9 hS0 hps
  refine w_o (a := v155) ?_
  exact aN_of n10 hS0 hps
 have n3 : N 11 8 G0 := by
  refine aN_3 hops hS0 hps 0 2 4 ?_ ?_ ?_
  refine w_mv ?_
  exact aN_of n6 hS0 hps
  refine w_mv ?_
  exact aN_of n7 hS0 hps
  refine w_o (a := v156) (h := op_q (q_lit (α := Ck) (l := [x7]) (cs := Enc.cells (x7 : Ck) ++ []) rfl (by rw [Enc.cons, Enc.nil]))) ?_
  exact aN_of n8 hS0 hps
 have n2 : N 11 4 G0 := by
  refine aN_2 hops hS0 hps 0 3 ?_ ?_
  refine w_mv ?_
  exact aN_of n5 hS0 hps
  refine w_o (a := v155) ?_
  exact aN_of n7 hS0 hps
 have n1 : N 11 1 G0 := by
  refine aN_3 hops hS0 hps 1 2 3 ?_ ?_ ?_
  refine w_snd (r := v153) (σ' := ⟨[(30, (Enc.cells (x7 : Ck))), (30, (Enc.cellsL (([] : List Ck) : List Ck))), (30, (Enc.cellsL (([] : List Ck) : List Ck))), (30, (Enc.cellsL (x6.1 : List Ck)))], [], [], 0, false⟩) (cloneC_some x6.1 g16 hc13 3 _ rfl) rfl rfl ⟨rfl, rfl⟩ (by dsimp only [aput, List.set]) ?_
  exact aN_of n4 hS0 hps
  refine w_mv ?_
  exact aN_of n5 hS0 hps
  refine w_o (a := v155) ?_
  exact aN_of n6 hS0 hps
 have n0 : N 12 0 G0 := by
  refine aN_3 hops hS0 hps 0 2 3 ?_ ?_ ?_
  refine w_mv ?_
  exact aN_of n1 hS0 hps
  refine w_mv ?_
  exact aN_of n2 hS0 hps
  refine w_o (a := v155) ?_
  exact aN_of n3 hS0 hps
 exact aN_start n0 hps
 refine w_seq (w_region ?_)
 refine w_mv ?_
 refine w_mv ?_
 refine w_o (a := .i (min n (-1))) (h := op_q (q_min rfl rfl rfl rfl rfl)) ?_
 refine w_o (a := .list (List.length (([1, (min n (-1))] : List Int) : List Int)) (Enc.cellsL (([1, (min n (-1))] : List Int) : List Int)) .full) (h := op_q (q_lit (α := Int) (l := [1, (min n (-1))]) (cs := Enc.cells (1 : Int) ++ (Enc.cells ((min n (-1)) : Int) ++ [])) rfl (by rw [Enc.cons, Enc.cons, Enc.nil]))) ?_
 obtain ⟨x16, hx16, h⟩ := bindE_e h
 refine w_callc (args' := [.list (List.length (x1 : List Ev)) (Enc.cellsL (x1 : List Ev)) .none, .list (List.length (([1, (min n (-1))] : List Int) : List Int)) (Enc.cellsL (([1, (min n (-1))] : List Int) : List Int)) .none]) (r := .tup [.list (List.length (x16.1 : List Ck)) (Enc.cellsL (x16.1 : List Ck)) .none, .i x16.2]) (cut_sh fuel x1 ([1, (min n (-1))] : List Int) x16 hx16) rfl rfl (stripL_cons (strip_l (Enc.cloL _)) (stripL_cons (strip_l (Enc.cloL _)) rfl)) (okTrimL_cons (okTrim_l (Enc.cloL _)) (okTrimL_cons (okTrim_l (Enc.cloL _)) rfl)) (by dsimp only [aput, List.set]) ?_
 refine w_mv ?_
 refine w_ex ?_
 refine w_ex ?_
 refine w_mv ?_
 refine w_mv ?_
 refine w_seq (w_region ?_)
 refine w_mv ?_
 refine w_mv ?_
 refine w_o (a := .b (x13.2.1 == (Int.tmod at_ ((List.length x6.1 : Int) + 1)))) ?_
 refine bif_e h (fun hc18 h => ?_) (fun hc18 h => ?_)
 refine w_o (a := .b true) (h := op_q (q_bool rfl hc18)) ?_
 refine w_met rfl rfl ?_
 refine w_mv ?_
 refine w_met rfl rfl ?_
 refine w_o (a := .b (x13.2.2 == 320)) ?_
 refine w_o (a := .b (x13.2.2 == 320)) ?_
 refine bif_e h (fun hc19 h => ?_) (fun hc19 h => ?_)
 refine w_o (a := .b true) (h := op_q (q_bool rfl hc19)) ?_
 refine w_met rfl rfl ?_
 refine w_mv ?_
 refine w_met rfl rfl ?_
 refine w_mv ?_
 refine w_met rfl rfl ?_
 refine w_o (a := .b (x15.2 == x13.2.2)) ?_
 refine w_o (a := .b (x15.2 == x13.2.2)) ?_
 refine bif_e h (fun hc20 h => ?_) (fun hc20 h => ?_)
 refine w_o (a := .b true) (h := op_q (q_bool rfl hc20)) ?_
 refine w_met rfl rfl ?_
 refine w_mv ?_
 refine w_met rfl rfl ?_
 refine w_o (a := .b (x16.2 == 2)) ?_
 refine w_o (a := .b (x16.2 == 2)) ?_
 refine bif_e h (fun hc21 h => ?_) (fun hc21 h => ?_)
 refine w_o (a := .b true) (h := op_q (q_bool rfl hc21)) ?_
 refine w_met rfl rfl ?_
 obtain ⟨x17, hx17, h⟩ := bindE_e h
 refine w_callc (args' := []) (r := .b x17) (awake_sh fuel x17 hx17) rfl rfl rfl rfl (by dsimp only [aput, List.set]) ?_
 refine w_o (a := .b x17) ?_
 refine w_mv ?_
 exact end_b h
 refine w_o (a := .b false) (h := op_q (q_bool rfl hc21)) ?_
 refine w_po ?_
 refine w_o (a := .b false) ?_
 refine w_mv ?_
 exact end_b h
 refine w_o (a := .b false) (h := op_q (q_bool rfl hc20)) ?_
 refine w_po ?_
 refine w_po ?_
 refine w_o (a := .b false) ?_
 refine w_mv ?_
 refine w_po ?_
 refine w_o (a := .b false) ?_
 refine w_mv ?_
 exact end_b h
 refine w_o (a := .b false) (h := op_q (q_bool rfl hc19)) ?_
 refine w_po ?_
 refine w_po ?_
 refine w_po ?_
 refine w_o (a := .b false) ?_
 refine w_mv ?_
 refine w_po ?_
 refine w_po ?_
 refine w_o (a := .b false) ?_
 refine w_mv ?_
 refine w_po ?_
 refine w_o (a := .b false) ?_
 refine w_mv ?_
 exact end_b h
 refine w_o (a := .b false) (h := op_q (q_bool rfl hc18)) ?_
 refine w_po ?_
 refine w_po ?_
 refine w_o (a := .b false) ?_
 refine w_mv ?_
 refine w_po ?_
 refine w_po ?_
 refine w_po ?_
 refine w_o (a := .b false) ?_
 refine w_mv ?_
 refine w_po ?_
 refine w_po ?_
 refine w_o (a := .b false) ?_
 refine w_mv ?_
 refine w_po ?_
 refine w_o (a := .b false) ?_
 refine w_mv ?_
 exact end_b h
 obtain ⟨g18, h⟩ := chk_e h
 refine w_snd (r := .bsl 0 0 (List.length x1) 2 false) (σ' := ⟨[(27, (Enc.cellsL (x1 : List Ev)))], [], [], 0, false⟩) (cloneE_some x1 g18 hc1 0 _ rfl) rfl rfl ⟨rfl, rfl⟩ (by dsimp only [aput, List.set]) ?_
 refine w_mv ?_
 refine w_mv ?_
 obtain ⟨g19, h⟩ := chk_e h
 obtain ⟨x18, hx18, h⟩ := letE_e h
 refine w_snd (r := .bsl 1 0 (List.length x18) 2 false) (σ' := ⟨[(27, (Enc.cellsL (([] : List Ev) : List Ev))), (27, (Enc.cellsL (x18 : List Ev)))], [], [], 0, false⟩) (insE_snd x1 x2 (Int.tmod at_ ((List.length x1 : Int) + 1)) _ _ 0 1 x18 hx18 g19 rfl rfl) rfl rfl ⟨rfl, rfl⟩ (by dsimp only [aput, List.set]) ?_
 refine w_mv ?_
 refine at_wk (S' := (.top :: .u how :: .u at_ :: .i n :: .top :: .top :: .top :: .top :: .b false :: .list (List.length (x1 : List Ev)) (Enc.cellsL (x1 : List Ev)) .none :: .i (Int.tmod at_ ((List.length x1 : Int) + 1)) :: .top :: .list (List.length (x18 : List Ev)) (Enc.cellsL (x18 : List Ev)) .none :: .top :: .top :: .top :: .top :: .top :: .top :: .top :: .top :: .top :: .top :: .top :: .top :: .top :: .top :: .top :: .top :: .top :: .top :: .top :: .u at_ :: .i at_ :: .top :: .i (List.length x1 : Int) :: .i ((List.length x1 : Int) + 1) :: .i (Int.tmod at_ ((List.length x1 : Int) + 1)) :: .top :: .top :: .u how :: .u (max how 4) :: .top :: .top :: .u how :: .u (max how 1) :: .top :: .top :: .top :: .top :: .top :: .top :: .u how :: .top :: .top :: .top :: .u how :: .u (Int.tmod how 5) :: .top :: .top :: .top :: .top :: .i (Int.tmod at_ ((List.length x1 : Int) + 1)) :: .top :: .top :: .top :: .top :: .top :: .top :: .top :: .top :: .top :: .top :: .top :: .top :: .top :: .top :: .top :: .top :: .top :: .top :: .top :: .top :: .top :: .top :: .top :: .top :: .top :: .top :: .top :: .top :: .top :: .top :: .top :: .top :: .top :: .top :: .top :: .top :: .top :: .top :: .top :: .top :: .top :: .top :: .top :: .top :: .top :: .top :: .top :: .top :: .top :: .top :: .top :: .top :: .top :: .top :: .top :: .top :: .top :: .top :: .top :: .top :: .top :: .top :: .top :: .top :: .top :: .top :: .top :: .top :: .top :: .top :: .top :: .top :: .top :: .top :: .top :: .top :: .top :: .top :: .top :: .top :: .top :: .top :: .top :: .top :: .top :: .top :: .top :: .top :: .top :: .top :: .top :: .top :: .top :: .top :: .top :: .top :: .top :: .top :: .top :: .top :: .top :: .top :: .top :: .top :: .top :: .top :: .top :: .top :: .top :: .top :: .top :: .top :: .top :: .top :: .top :: .top :: .top :: .top :: .top :: .top :: .top :: .top :: .top :: .top :: .top :: [])) (wm_keep (false :: true :: true :: true :: false :: false :: false :: false :: true :: true :: true :: false :: true :: false :: false :: false :: false :: false :: false :: false :: false :: false :: false :: false :: false :: false :: false :: false :: false :: false :: false :: false :: true :: true :: false :: true :: true :: true :: false :: false :: true :: true :: false :: false :: true :: true :: false :: false :: false :: false :: false :: false :: true :: false :: false :: false :: true :: true :: false :: false :: false :: false :: true :: false :: false :: false :: false :: false :: false :: false :: false :: false :: false :: false :: false :: false :: false :: false :: false :: false :: false :: false :: false :: false :: false :: false :: false :: false :: false :: false :: false :: false :: false :: false :: false :: false :: false :: false :: false :: false :: false :: false :: false :: false :: false :: false :: false :: false :: false :: false :: false :: false :: false :: false :: false :: false :: false :: false :: false :: false :: false :: false :: false :: false :: false :: false :: false :: false :: false :: false :: false :: false :: false :: false :: false :: false :: false :: false :: false :: false :: false :: false :: false :: false :: false :: false :: false :: false :: false :: false :: false :: false :: false :: false :: false :: false :: false :: false :: false :: false :: false :: false :: false :: false :: false :: false :: false :: false :: false :: false :: false :: false :: false :: false :: false :: false :: false :: false :: false :: false :: false :: false :: false :: false :: false :: false :: false :: false :: []) 0 [] [] 1 (Nat.le_refl _) rfl (fgK_f (fgK_t (mapK_clo _ _ _ rfl) (fgK_t (mapK_clo _ _ _ rfl) (fgK_t (mapK_clo _ _ _ rfl) (fgK_f (fgK_f (fgK_f (fgK_f (fgK_t (mapK_clo _ _ _ rfl) (fgK_t (mapK_clo _ _ _ (clo_list (Enc.cloL _))) (fgK_t (mapK_clo _ _ _ rfl) (fgK_f (fgK_t (kz_bsl (α := Ev) (t := 27) (l := x18) rfl rfl rfl) (fgK_f (fgK_f (fgK_f (fgK_f (fgK_f (fgK_f (fgK_f (fgK_f (fgK_f (fgK_f (fgK_f (fgK_f (fgK_f (fgK_f (fgK_f (fgK_f (fgK_f (fgK_f (fgK_f (fgK_t (mapK_clo _ _ _ rfl) (fgK_t (mapK_clo _ _ _ rfl) (fgK_f (fgK_t (mapK_clo _ _ _ rfl) (fgK_t (mapK_clo _ _ _ rfl) (fgK_t (mapK_clo _ _ _ rfl) (fgK_f (fgK_f (fgK_t (mapK_clo _ _ _ rfl) (fgK_t (mapK_clo _ _ _ rfl) (fgK_f (fgK_f (fgK_t (mapK_clo _ _ _ rfl) (fgK_t (mapK_clo _ _ _ rfl) (fgK_f (fgK_f (fgK_f (fgK_f (fgK_f (fgK_f (fgK_t (mapK_clo _ _ _ rfl) (fgK_f (fgK_f (fgK_f (fgK_t (mapK_clo _ _ _ rfl) (fgK_t (mapK_clo _ _ _ rfl) (fgK_f (fgK_f (fgK_f (fgK_f (fgK_t (mapK_clo _ _ _ rfl) (fgK_f (fgK_f (fgK_f (fgK_f (fgK_f (fgK_f (fgK_f (fgK_f (fgK_f (fgK_f (fgK_f (fgK_f (fgK_f (fgK_f (fgK_f (fgK_f (fgK_f (fgK_f (fgK_f (fgK_f (fgK_f (fgK_f (fgK_f (fgK_f (fgK_f (fgK_f (fgK_f (fgK_f (fgK_f (fgK_f (fgK_f (fgK_f (fgK_f (fgK_f (fgK_f (fgK_f (fgK_f (fgK_f (fgK_f (fgK_f (fgK_f (fgK_f (fgK_f (fgK_f (fgK_f (fgK_f (fgK_f (fgK_f (fgK_f (fgK_f (fgK_f (fgK_f (fgK_f (fgK_f (fgK_f (fgK_f (fgK_f (fgK_f (fgK_f (fgK_f (fgK_f (fgK_f (fgK_f (fgK_f (fgK_f (fgK_f (fgK_f (fgK_f (fgK_f (fgK_f (fgK_f (fgK_f (fgK_f (fgK_f (fgK_f (fgK_f (fgK_f (fgK_f (fgK_f (fgK_f (fgK_f (fgK_f (fgK_f (fgK_f (fgK_f (fgK_f (fgK_f (fgK_f (fgK_f (fgK_f (fgK_f (fgK_f (fgK_f (fgK_f (fgK_f (fgK_f (fgK_f (fgK_f (fgK_f (fgK_f (fgK_f (fgK_f (fgK_f (fgK_f (fgK_f (fgK_f (fgK_f (fgK_f (fgK_f (fgK_f (fgK_f (fgK_f (fgK_f (fgK_f (fgK_f (fgK_f (fgK_f (fgK_f (fgK_f (fgK_f (fgK_f (fgK_f (fgK_f (fgK_f (fgK_f fgK_nil)))))))))))))))))))))))))))))))))))))))))))))))))))))))))))))))))))))))))))))))))))))))))))))))))))))))))))))))))))))))))))))))))))))))))))))))))))))))))))))))))))))))))))))))))))))))))))) (keep_of keep_nil rfl)) ?_
 refine w_seq (w_region ?_)
 refine w_mv ?_
 obtain ⟨x19, hx19, h⟩ := bindE_e h
 refine w_callc (args' := [.list (List.length (x18 : List Ev)) (Enc.cellsL (x18 : List Ev)) .none]) (r := .tup [.i x19.1, .i x19.2]) (check_sh fuel x18 x19 hx19) rfl rfl (stripL_cons (strip_l (Enc.cloL _)) rfl) (okTrimL_cons (okTrim_l (Enc.cloL _)) rfl) (by dsimp only [aput, List.set]) ?_
 refine w_mv ?_
 refine w_ex ?_
 refine w_ex ?_
 refine w_mv ?_
 refine w_mv ?_
 refine w_seq (w_region ?_)
 refine w_mv ?_
 obtain ⟨x20, hx20, h⟩ := bindE_e h
 refine w_callc (args' := [.list (List.length (x18 : List Ev)) (Enc.cellsL (x18 : List Ev)) .none, .list 0 [] .none]) (r := .tup [.list (List.length (x20.1 : List Ck)) (Enc.cellsL (x20.1 : List Ck)) .none, .i x20.2]) (cut_sh fuel x18 [] x20 hx20) rfl rfl (stripL_cons (strip_l (Enc.cloL _)) (stripL_cons rfl rfl)) (okTrimL_cons (okTrim_l (Enc.cloL _)) (by kernel_rfl)) (by dsimp only [aput, List.set]) ?_
 refine w_mv ?_
 refine w_ex ?_
 refine w_ex ?_
 refine w_mv ?_
 refine w_mv ?_
 refine w_seq (w_region ?_)
 refine w_mv ?_
 obtain ⟨x21, hx21, h⟩ := bindE_e h
 refine w_callc (args' := [.list (List.length (x18 : List Ev)) (Enc.cellsL (x18 : List Ev)) .none]) (r := .tup [.s x21.1, .i x21.2]) (write_sh fuel x18 x21 hx21) rfl rfl (stripL_cons (strip_l (Enc.cloL _)) rfl) (okTrimL_cons (okTrim_l (Enc.cloL _)) rfl) (by dsimp only [aput, List.set]) ?_
 refine w_mv ?_
 refine w_ex ?_
 refine w_ex ?_
 refine w_mv ?_
 refine w_mv ?_
 refine w_cutF h [8, 10, 12, 13, 14, 15, 16, 17, 18, 32, 33, 35, 36, 37, 40, 41, 44, 45, 52, 56, 57, 62, 65, 66, 67, 68, 69, 70, 71, 72, 73, 74, 75, 76, 77, 78, 79, 80, 81, 82, 83, 84, 85, 86, 87, 88, 89, 90, 91, 92, 93, 94, 95, 96, 97, 98, 99, 100, 101, 102, 103, 104, 105, 106, 107, 108, 109, 110, 111, 112] (fun j2 => []) (fun j2 => ⟨[], [], [], 0, false⟩) ?_ ?_
 intro or2 h hr2
 refine w_seq (w_region ?_)
 refine w_mv ?_
 refine w_mv ?_
 refine w_o (a := .b (decide (x19.1 < (Int.tmod at_ ((List.length x1 : Int) + 1))))) ?_
 refine bif_e h (fun hc22 h => ?_) (fun hc22 h => ?_)
 refine w_o (a := .b true) (h := op_q (q_bool rfl hc22)) ?_
 refine w_po ?_
 refine w_po ?_
 refine w_po ?_
 refine w_po ?_
 refine w_o (a := .b true) ?_
 refine w_mv ?_
 refine w_po ?_
 refine w_po ?_
 refine w_po ?_
 refine w_po ?_
 refine w_po ?_
 refine w_po ?_
 refine w_po ?_
 refine w_po ?_
 refine w_o (a := .b true) ?_
 refine w_mv ?_
 refine w_po ?_
 refine w_po ?_
 refine w_o (a := .b true) ?_
 refine w_mv ?_
 refine w_po ?_
 refine w_po ?_
 refine w_po ?_
 refine w_o (a := .b true) ?_
 refine w_mv ?_
 refine w_po ?_
 refine w_po ?_
 refine w_po ?_
 refine w_o (a := .b true) ?_
 refine w_true rfl ?_
 refine w_seq (w_region ?_)
 refine w_o (a := .b false) ?_
 replace h := cut_inr h hr2
 exact end_b h
 refine w_o (a := .b false) (h := op_q (q_bool rfl hc22)) ?_
 refine w_met rfl rfl ?_
 refine w_mv ?_
 refine w_met rfl rfl ?_
 refine w_mv ?_
 refine w_met rfl rfl ?_
 obtain ⟨g20, h⟩ := chk_e h
 refine w_o (a := .i ((Int.tmod at_ ((List.length x1 : Int) + 1)) + 1)) (h := op_q (q_add rfl rfl rfl rfl g20.1 g20.2)) ?_
 refine w_met rfl rfl ?_
 refine w_o (a := .b (decide (x19.1 > ((Int.tmod at_ ((List.length x1 : Int) + 1)) + 1)))) ?_
 refine w_o (a := .b (decide (x19.1 > ((Int.tmod at_ ((List.length x1 : Int) + 1)) + 1)))) ?_
 refine bif_e h (fun hc23 h => ?_) (fun hc23 h => ?_)
 refine w_o (a := .b true) (h := op_q (q_bool rfl hc23)) ?_
 refine w_po ?_
 refine w_po ?_
 refine w_po ?_
 refine w_po ?_
 refine w_po ?_
 refine w_po ?_
 refine w_po ?_
 refine w_po ?_
 refine w_o (a := .b true) ?_
 refine w_mv ?_
 refine w_po ?_
 refine w_po ?_
 refine w_o (a := .b true) ?_
 refine w_mv ?_
 refine w_po ?_
 refine w_po ?_
 refine w_po ?_
 refine w_o (a := .b true) ?_
 refine w_mv ?_
 refine w_po ?_
 refine w_po ?_
 refine w_po ?_
 refine w_o (a := .b true) ?_
 refine w_true rfl ?_
 refine w_seq (w_region ?_)
 refine w_o (a := .b false) ?_
 replace h := cut_inr h hr2
 exact end_b h
 refine w_o (a := .b false) (h := op_q (q_bool rfl hc23)) ?_
 refine w_met rfl rfl ?_
 refine w_mv ?_
 refine w_met rfl rfl ?_
 refine w_o (a := .u (Int.tmod how 5)) ?_
 refine w_met rfl rfl ?_
 refine w_o (a := .b (decide ((Int.tmod how 5) < 3))) ?_
 refine w_met rfl rfl ?_
 refine bif_e h (fun hc24 h => ?_) (fun hc24 h => ?_)
 refine w_o (a := .b true) (h := op_q (q_bool rfl hc24)) ?_
 refine w_met rfl rfl ?_
 refine w_mv ?_
 refine w_met rfl rfl ?_
 refine w_mv ?_
 refine w_met rfl rfl ?_
 refine w_o (a := .b (x19.1 != (Int.tmod at_ ((List.length x1 : Int) + 1)))) ?_
 refine w_met rfl rfl ?_
 refine w_o (a := .b (x19.1 != (Int.tmod at_ ((List.length x1 : Int) + 1)))) ?_
 refine w_o (a := .b (x19.1 != (Int.tmod at_ ((List.length x1 : Int) + 1)))) ?_
 refine bif_e h (fun hc25 h => ?_) (fun hc25 h => ?_)
 refine w_o (a := .b true) (h := op_q (q_bool rfl hc25)) ?_
 refine w_po ?_
 refine w_po ?_
 refine w_o (a := .b true) ?_
 refine w_mv ?_
 refine w_po ?_
 refine w_po ?_
 refine w_po ?_
 refine w_o (a := .b true) ?_
 refine w_mv ?_
 refine w_po ?_
 refine w_po ?_
 refine w_po ?_
 refine w_o (a := .b true) ?_
 refine w_true rfl ?_
 refine w_seq (w_region ?_)
 refine w_o (a := .b false) ?_
 replace h := cut_inr h hr2
 exact end_b h
 refine w_o (a := .b false) (h := op_q (q_bool rfl hc25)) ?_
 refine w_met rfl rfl ?_
 refine w_mv ?_
 refine w_met rfl rfl ?_
 refine w_o (a := .b (x19.2 != 320)) ?_
 refine w_o (a := .b (x19.2 != 320)) ?_
 refine bif_e h (fun hc26 h => ?_) (fun hc26 h => ?_)
 refine w_o (a := .b true) (h := op_q (q_bool rfl hc26)) ?_
 refine w_po ?_
 refine w_po ?_
 refine w_po ?_
 refine w_o (a := .b true) ?_
 refine w_mv ?_
 refine w_po ?_
 refine w_po ?_
 refine w_po ?_
 refine w_o (a := .b true) ?_
 refine w_true rfl ?_
 refine w_seq (w_region ?_)
 refine w_o (a := .b false) ?_
 replace h := cut_inr h hr2
 exact end_b h
 refine w_o (a := .b false) (h := op_q (q_bool rfl hc26)) ?_
 refine w_met rfl rfl ?_
 refine w_mv ?_
 refine w_met rfl rfl ?_
 refine w_mv ?_
 refine w_met rfl rfl ?_
 refine w_o (a := .b (x20.2 != x19.2)) ?_
 refine w_o (a := .b (x20.2 != x19.2)) ?_
 refine bif_e h (fun hc27 h => ?_) (fun hc27 h => ?_)
 refine w_o (a := .b true) (h := op_q (q_bool rfl hc27)) ?_
 refine w_po ?_
 refine w_po ?_
 refine w_po ?_
 refine w_o (a := .b true) ?_
 refine w_true rfl ?_
 refine w_seq (w_region ?_)
 refine w_o (a := .b false) ?_
 replace h := cut_inr h hr2
 exact end_b h
 refine w_o (a := .b false) (h := op_q (q_bool rfl hc27)) ?_
 refine w_met rfl rfl ?_
 refine w_mv ?_
 refine w_met rfl rfl ?_
 refine w_mv ?_
 refine w_met rfl rfl ?_
 refine w_o (a := .b (x21.2 != x19.2)) ?_
 refine w_o (a := .b (x21.2 != x19.2)) ?_
 refine bif_e h (fun hc28 h => ?_) (fun hc28 h => ?_)
 refine w_condT hc28 rfl ?_
 refine w_seq (w_region ?_)
 refine w_o (a := .b false) ?_
 replace h := cut_inr h hr2
 exact end_b h
 refine w_condF hc28 rfl ?_
 refine cut_done (o := or2) () h ?_
 exact wm_of (bl 188 392318858461667547739726454356762081383201223705097669375) (by kernel_rfl) (by kernel_rfl)
 refine w_o (a := .b false) (h := op_q (q_bool rfl hc24)) ?_
 refine w_po ?_
 refine w_po ?_
 refine w_po ?_
 refine w_met rfl rfl ?_
 refine w_o (a := .b false) ?_
 refine w_o (a := .b false) ?_
 refine w_mv ?_
 refine w_met rfl rfl ?_
 refine w_mv ?_
 refine w_met rfl rfl ?_
 refine w_o (a := .b (x19.2 != 320)) ?_
 refine w_o (a := .b (x19.2 != 320)) ?_
 refine bif_e h (fun hc29 h => ?_) (fun hc29 h => ?_)
 refine w_o (a := .b true) (h := op_q (q_bool rfl hc29)) ?_
 refine w_po ?_
 refine w_po ?_
 refine w_po ?_
 refine w_o (a := .b true) ?_
 refine w_mv ?_
 refine w_po ?_
 refine w_po ?_
 refine w_po ?_
 refine w_o (a := .b true) ?_
 refine w_true rfl ?_
 refine w_seq (w_region ?_)
 refine w_o (a := .b false) ?_
 replace h := cut_inr h hr2
 exact end_b h
 refine w_o (a := .b false) (h := op_q (q_bool rfl hc29)) ?_
 refine w_met rfl rfl ?_
 refine w_mv ?_
 refine w_met rfl rfl ?_
 refine w_mv ?_
 refine w_met rfl rfl ?_
 refine w_o (a := .b (x20.2 != x19.2)) ?_
 refine w_o (a := .b (x20.2 != x19.2)) ?_
 refine bif_e h (fun hc30 h => ?_) (fun hc30 h => ?_)
 refine w_o (a := .b true) (h := op_q (q_bool rfl hc30)) ?_
 refine w_po ?_
 refine w_po ?_
 refine w_po ?_
 refine w_o (a := .b true) ?_
 refine w_true rfl ?_
 refine w_seq (w_region ?_)
 refine w_o (a := .b false) ?_
 replace h := cut_inr h hr2
 exact end_b h
 refine w_o (a := .b false) (h := op_q (q_bool rfl hc30)) ?_
 refine w_met rfl rfl ?_
 refine w_mv ?_
 refine w_met rfl rfl ?_
 refine w_mv ?_
 refine w_met rfl rfl ?_
 refine w_o (a := .b (x21.2 != x19.2)) ?_
 refine w_o (a := .b (x21.2 != x19.2)) ?_
 refine bif_e h (fun hc31 h => ?_) (fun hc31 h => ?_)
 refine w_condT hc31 rfl ?_
 refine w_seq (w_region ?_)
 refine w_o (a := .b false) ?_
 replace h := cut_inr h hr2
 exact end_b h
 refine w_condF hc31 rfl ?_
 refine cut_done (o := or2) () h ?_
 exact wm_of (bl 188 392318858461667547739726454356762081383201223705097669375) (by kernel_rfl) (by kernel_rfl)
 intro j2 h
 refine w_start (by dsimp only [setAll, topAll, List.foldl, List.set]) rfl ?_
 refine w_seq (w_region ?_)
 refine w_mv ?_
 obtain ⟨x22, hx22, h⟩ := bindE_e h
 refine w_callc (args' := [.list (List.length (x1 : List Ev)) (Enc.cellsL (x1 : List Ev)) .none, .list 0 [] .none]) (r := .tup [.list (List.length (x22.1 : List Ck)) (Enc.cellsL (x22.1 : List Ck)) .none, .i x22.2]) (cut_sh fuel x1 [] x22 hx22) rfl rfl (stripL_cons (strip_l (Enc.cloL _)) (stripL_cons rfl rfl)) (okTrimL_cons (okTrim_l (Enc.cloL _)) (by kernel_rfl)) (by dsimp only [aput, List.set]) ?_
 refine w_mv ?_
 refine w_ex ?_
 refine w_ex ?_
 refine w_mv ?_
 refine w_mv ?_
 refine w_seq (w_region ?_)
 refine w_mv ?_
 obtain ⟨g21, h⟩ := chk_e h
 refine w_o (a := .i at_) (h := op_q (q_conv64 g21 rfl rfl rfl)) ?_
 refine w_mv ?_
 refine w_o (a := .i (List.length x22.1 : Int)) ?_
 obtain ⟨g22, h⟩ := chk_e h
 refine w_o (a := .i ((List.length x22.1 : Int) + 1)) (h := op_q (q_add rfl rfl rfl rfl g22.1 g22.2)) ?_
 obtain ⟨g23, h⟩ := chk_e h
 refine w_o (a := .i (Int.tmod at_ ((List.length x22.1 : Int) + 1))) (h := op_q (q_rem64 g23 rfl rfl rfl)) ?_
 refine w_mv ?_
 refine w_seq ?_
 refine w_seq (w_region ?_)
 refine w_mv ?_
 refine w_o (a := .b (x22.2 != 0)) ?_
 refine bif_e h (fun hc32 h => ?_) (fun hc32 h => ?_)
 refine w_condT hc32 rfl ?_
 refine w_seq (w_region ?_)
 refine w_o (a := .b false) ?_
 exact end_b h
 refine w_condF hc32 rfl ?_
 refine w_seq (w_region ?_)
 refine w_qs (.agg (Enc.cells ((Ck.mk 0 []) : Ck))) (a0 := (ckR (Ck.mk 0 []) .full)) rfl rfl rfl (by kernel_rfl) (strip_ckR _ _) (by dsimp only [aput, List.set]) ?_
 refine w_mv ?_
 refine w_o (a := .u (max how 4)) (h := op_q (q_max rfl rfl rfl rfl rfl)) ?_
 refine w_qs (.agg (Enc.cells ((Ck.mk (max how 4) []) : Ck))) (a0 := (ckR (Ck.mk (max how 4) []) .full)) rfl rfl rfl (by kernel_rfl) (strip_ckR _ _) (by dsimp only [aput, List.set]) ?_
 refine w_mv ?_
 obtain ⟨g24, h⟩ := chk_e h
 refine w_o (a := .list (List.length (([(u8of how)] : List UInt8) : List UInt8)) (Enc.cellsL (([(u8of how)] : List UInt8) : List UInt8)) .full) (h := op_q (q_lit (α := UInt8) (l := ([(u8of how)] : List UInt8)) (cs := [.u how]) rfl (by show List.map _ _ = _; simp only [List.map_cons, List.map_nil, u8c g24]))) ?_
 refine w_qs (.agg (Enc.cells ((Ck.mk 2 ([(u8of how)] : List UInt8)) : Ck))) (a0 := (ckR (Ck.mk 2 ([(u8of how)] : List UInt8)) .full)) rfl rfl rfl (by kernel_rfl) (strip_ckR _ _) (by dsimp only [aput, List.set]) ?_
 refine w_o (a := .list (List.length (([0] : List UInt8) : List UInt8)) (Enc.cellsL (([0] : List UInt8) : List UInt8)) .full) (h := op_q (q_lit (α := UInt8) (l := ([0] : List UInt8)) (cs := [.u 0]) rfl rfl)) ?_
 refine w_qs (.agg (Enc.cells ((Ck.mk 3 ([0] : List UInt8)) : Ck))) (a0 := (ckR (Ck.mk 3 ([0] : List UInt8)) .full)) rfl rfl rfl (by kernel_rfl) (strip_ckR _ _) (by dsimp only [aput, List.set]) ?_
 refine w_o (a := .list (List.length ([(Ck.mk 0 []), (Ck.mk (max how 4) []), (Ck.mk 2 ([(u8of how)] : List UInt8)), (Ck.mk 3 ([0] : List UInt8))] : List Ck)) (Enc.cellsL ([(Ck.mk 0 []), (Ck.mk (max how 4) []), (Ck.mk 2 ([(u8of how)] : List UInt8)), (Ck.mk 3 ([0] : List UInt8))] : List Ck)) .full) (h := op_q (q_lit (α := Ck) (l := [(Ck.mk 0 []), (Ck.mk (max how 4) []), (Ck.mk 2 ([(u8of how)] : List UInt8)), (Ck.mk 3 ([0] : List UInt8))]) (cs := Enc.cells ((Ck.mk 0 []) : Ck) ++ (Enc.cells ((Ck.mk (max how 4) []) : Ck) ++ (Enc.cells ((Ck.mk 2 ([(u8of how)] : List UInt8)) : Ck) ++ (Enc.cells ((Ck.mk 3 ([0] : List UInt8)) : Ck) ++ [])))) (by kernel_rfl) (by rw [Enc.cons, Enc.cons, Enc.cons, Enc.cons, Enc.nil]))) ?_
 refine w_mv ?_
 refine w_o (a := .u (Int.tmod how 4)) ?_
 obtain ⟨g25, h⟩ := chk_e h
 obtain ⟨x23, hx23, h⟩ := letE_e h
 refine w_o (a := .iptr (Enc.cells x23 ++ Enc.cellsL (List.drop (Int.toNat (Int.tmod how 4) + 1) [(Ck.mk 0 []), (Ck.mk (max how 4) []), (Ck.mk 2 ([(u8of how)] : List UInt8)), (Ck.mk 3 ([0] : List UInt8))]))) (h := op_q (by rw [← hx23]; exact (q_idx (α := Ck) (l := [(Ck.mk 0 []), (Ck.mk (max how 4) []), (Ck.mk 2 ([(u8of how)] : List UInt8)), (Ck.mk 3 ([0] : List UInt8))]) g25 rfl rfl rfl rfl rfl))) ?_
 refine w_o (a := .agg (Enc.cells (x23 : Ck))) ?_
 refine w_om (a := .ptr 0 0) (σ'' := ⟨[(30, [.u 0, .list 0 [] .full])], [], [], 0, false⟩) ?_
 refine w_om (σ'' := ⟨[(30, (Enc.cells (x23 : Ck)))], [], [], 0, false⟩) (h := op_storeW (n := 2) rfl rfl rfl rfl rfl rfl rfl rfl (by decide)) ?_
 refine bif_e h (fun hc33 h => ?_) (fun hc33 h => ?_)
 obtain ⟨g26, h⟩ := chk_e h
 obtain ⟨x24, hx24, h⟩ := bindE_e h
 refine w_seqAny (id := 15) [.top, .u how, .u at_, .i n, .top, .top, .top, .top, .top, .list (List.length (x1 : List Ev)) (Enc.cellsL (x1 : List Ev)) .none, .top, .top, .top, .top, .top, .top, .top, .top, .top, .list (List.length (x22.1 : List Ck)) (Enc.cellsL (x22.1 : List Ck)) .none, .i x22.2, .i (Int.tmod at_ ((List.length x22.1 : Int) + 1)), .ptr 0 0, .list (List.length (x24.1 : List Ev)) (Enc.cellsL (x24.1 : List Ev)) .none, .i x24.2.1, .i x24.2.2, .top, .top, .top, .top, .top, .top, .top, .top, .top, .top, .top, .top, .top, .top, .top, .top, .top, .top, .top, .top, .top, .top, .top, .top, .top, .top, .top, .top, .top, .top, .top, .top, .top, .top, .top, .top, .top, .top, .top, .top, .top, .top, .top, .top, .top, .top, .top, .top, .top, .top, .top, .top, .top, .top, .top, .top, .top, .top, .top, .top, .top, .top, .top, .top, .top, .top, .top, .top, .top, .top, .top, .top, .top, .top, .top, .top, .top, .top, .top, .top, .top, .top, .top, .top, .top, .top, .top, .tup [.list (List.length (x22.1 : List Ck)) (Enc.cellsL (x22.1 : List Ck)) .none, .i x22.2], .list (List.length (x1 : List Ev)) (Enc.cellsL (x1 : List Ev)) .none, .tup [.list (List.length (x22.1 : List Ck)) (Enc.cellsL (x22.1 : List Ck)) .none, .i x22.2], .list (List.length (x22.1 : List Ck)) (Enc.cellsL (x22.1 : List Ck)) .none, .i x22.2, .u at_, .i at_, .list (List.length (x22.1 : List Ck)) (Enc.cellsL (x22.1 : List Ck)) .none, .i (List.length x22.1 : Int), .i ((List.length x22.1 : Int) + 1), .i (Int.tmod at_ ((List.length x22.1 : Int) + 1)), .i x22.2, .b (x22.2 != 0), .agg (Enc.cells ((Ck.mk 0 []) : Ck)), .u how, .u (max how 4), .agg (Enc.cells ((Ck.mk (max how 4) []) : Ck)), .u how, .list (List.length (([(u8of how)] : List UInt8) : List UInt8)) (Enc.cellsL (([(u8of how)] : List UInt8) : List UInt8)) .full, .agg (Enc.cells ((Ck.mk 2 ([(u8of how)] : List UInt8)) : Ck)), .list (List.length (([0] : List UInt8) : List UInt8)) (Enc.cellsL (([0] : List UInt8) : List UInt8)) .full, .agg (Enc.cells ((Ck.mk 3 ([0] : List UInt8)) : Ck)), .list (List.length ([(Ck.mk 0 []), (Ck.mk (max how 4) []), (Ck.mk 2 ([(u8of how)] : List UInt8)), (Ck.mk 3 ([0] : List UInt8))] : List Ck)) (Enc.cellsL ([(Ck.mk 0 []), (Ck.mk (max how 4) []), (Ck.mk 2 ([(u8of how)] : List UInt8)), (Ck.mk 3 ([0] : List UInt8))] : List Ck)) .full, .u how, .u (Int.tmod how 4), .iptr (Enc.cells x23 ++ Enc.cellsL (List.drop (Int.toNat (Int.tmod how 4) + 1) [(Ck.mk 0 []), (Ck.mk (max how 4) []), (Ck.mk 2 ([(u8of how)] : List UInt8)), (Ck.mk 3 ([0] : List UInt8))])), .agg (Enc.cells (x23 : Ck)), .tup [.list (List.length (x24.1 : List Ev)) (Enc.cellsL (x24.1 : List Ev)) .none, .i x24.2.1, .i x24.2.2], .list (List.length (x22.1 : List Ck)) (Enc.cellsL (x22.1 : List Ck)) .none, .list 0 [] .full, .i (Int.tmod at_ ((List.length x22.1 : Int) + 1)), .agg (Enc.cells (x23 : Ck)), .list (List.length ([x23] : List Ck)) (Enc.cellsL ([x23] : List Ck)) .full, .bsl 1 0 (List.length [x23]) 2 false, .tup [.list (List.length (x24.1 : List Ev)) (Enc.cellsL (x24.1 : List Ev)) .none, .i x24.2.1, .i x24.2.2], .list (List.length (x24.1 : List Ev)) (Enc.cellsL (x24.1 : List Ev)) .none, .i x24.2.1, .i x24.2.2, .top, .top, .top, .top, .top, .top, .top, .top, .top, .top, .top, .top, .top, .top, .top, .top, .top, .top, .top, .top, .top, .top, .top, .top, .top, .top, .top, .top, .top, .top, .top, .top, .top, .top, .top, .top, .top] ⟨[(30, (Enc.cells (x23 : Ck))), (30, (Enc.cellsL (([] : List Ck) : List Ck)))], [], [], 0, false⟩ ?_ ?_
 refine aany_intro (fun ops hops FIN hFIN S0 hS0 => ?_)
 let v144 : AV := .agg (Enc.cells (x23 : Ck))
 let v142 : AV := .list 0 [] .full
 let v145 : AV := .list (List.length ([x23] : List Ck)) (Enc.cellsL ([x23] : List Ck)) .full
 let v146 : AV := .bsl 1 0 (List.length [x23]) 2 false
 let v147 : AV := .tup [.list (List.length (x24.1 : List Ev)) (Enc.cellsL (x24.1 : List Ev)) .none, .i x24.2.1, .i x24.2.2]
 let G0 : St := ⟨[(30, (Enc.cells (x23 : Ck)))], [], [], 0, false⟩
 let G1 : St := ⟨[(30, (Enc.cells (x23 : Ck))), (30, (Enc.cellsL ([x23] : List Ck)))], [], [], 0, false⟩
 let G2 : St := ⟨[(30, (Enc.cells (x23 : Ck))), (30, (Enc.cellsL (([] : List Ck) : List Ck)))], [], [], 0, false⟩
 obtain ⟨ps, hps⟩ : ∃ ps : List (Option (Nat × AV)), ps = [some (141, .list (List.length (x22.1 : List Ck)) (Enc.cellsL (x22.1 : List Ck)) .none), some (142, v142), some (143, .i (Int.tmod at_ ((List.length x22.1 : Int) + 1))), some (144, v144), some (145, v145), some (146, v146), some (147, v147), some (140, .tup [.list (List.length (x24.1 : List Ev)) (Enc.cellsL (x24.1 : List Ev)) .none, .i x24.2.1, .i x24.2.2]), some (148, .list (List.length (x24.1 : List Ev)) (Enc.cellsL (x24.1 : List Ev)) .none), some (149, .i x24.2.1), some (150, .i x24.2.2), some (23, .list (List.length (x24.1 : List Ev)) (Enc.cellsL (x24.1 : List Ev)) .none), some (24, .i x24.2.1), some (25, .i x24.2.2)] := ⟨_, rfl⟩
 let N : Nat → Nat → St → Prop := fun k m σ => aN (ITP Tryz.prog) Tryz.prog none ops FIN S0 ps 14 k m σ
 have n34 : N 0 16383 G2 := by
  exact aN_0 hops hS0 hps (hFIN _ _ (Wk.refl _ _ _))
 have n33 : N 1 8191 G2 := by
  refine aN_1 hops hS0 hps 13 ?_
  refine w_mv ?_
  exact aN_of n34 hS0 hps
 have n32 : N 2 7167 G2 := by
  refine aN_1 hops hS0 hps 10 ?_
  refine w_ex ?_
  exact aN_of n33 hS0 hps
 have n31 : N 2 4095 G2 := by
  refine aN_1 hops hS0 hps 12 ?_
  refine w_mv ?_
  exact aN_of n33 hS0 hps
 have n30 : N 3 3583 G2 := by
  refine aN_1 hops hS0 hps 9 ?_
  refine w_ex ?_
  exact aN_of n31 hS0 hps
 have n29 : N 3 3071 G2 := by
  refine aN_2 hops hS0 hps 10 12 ?_ ?_
  refine w_ex ?_
  exact aN_of n31 hS0 hps
  refine w_mv ?_
  exact aN_of n32 hS0 hps
 have n28 : N 3 2047 G2 := by
  refine aN_1 hops hS0 hps 11 ?_
  refine w_mv ?_
  exact aN_of n31 hS0 hps
 have n27 : N 4 1791 G2 := by
  refine aN_1 hops hS0 hps 8 ?_
  refine w_ex ?_
  exact aN_of n28 hS0 hps
 have n26 : N 4 2559 G2 := by
  refine aN_2 hops hS0 hps 9 10 ?_ ?_
  refine w_ex ?_
  exact aN_of n29 hS0 hps
  refine w_ex ?_
  exact aN_of n30 hS0 hps
 have n25 : N 4 1535 G2 := by
  refine aN_2 hops hS0 hps 9 11 ?_ ?_
  refine w_ex ?_
  exact aN_of n28 hS0 hps
  refine w_mv ?_
  exact aN_of n30 hS0 hps
 have n24 : N 4 1023 G2 := by
  refine aN_2 hops hS0 hps 10 11 ?_ ?_
  refine w_ex ?_
  exact aN_of n28 hS0 hps
  refine w_mv ?_
  exact aN_of n29 hS0 hps
 have n23 : N 5 1279 G2 := by
  refine aN_2 hops hS0 hps 8 9 ?_ ?_
  refine w_ex ?_
  exact aN_of n25 hS0 hps
  refine w_ex ?_
  exact aN_of n27 hS0 hps
 have n22 : N 5 767 G2 := by
  refine aN_2 hops hS0 hps 8 10 ?_ ?_
  refine w_ex ?_
  exact aN_of n24 hS0 hps
  refine w_ex ?_
  exact aN_of n27 hS0 hps
 have n21 : N 5 511 G2 := by
  refine aN_3 hops hS0 hps 9 10 11 ?_ ?_ ?_
  refine w_ex ?_
  exact aN_of n24 hS0 hps
  refine w_ex ?_
  exact aN_of n25 hS0 hps
  refine w_mv ?_
  exact aN_of n26 hS0 hps
 have n20 : N 6 255 G2 := by
  refine aN_3 hops hS0 hps 8 9 10 ?_ ?_ ?_
  refine w_ex ?_
  exact aN_of n21 hS0 hps
  refine w_ex ?_
  exact aN_of n22 hS0 hps
  refine w_ex ?_
  exact aN_of n23 hS0 hps
 have n19 : N 7 127 G2 := by
  refine aN_1 hops hS0 hps 7 ?_
  refine w_mv ?_
  exact aN_of n20 hS0 hps
 have n18 : N 8 63 G1 := by
  refine aN_1 hops hS0 hps 6 ?_
  refine w_snd (r := v147) (σ' := ⟨[(30, (Enc.cells (x23 : Ck))), (30, (Enc.cellsL (([] : List Ck) : List Ck)))], [], [], 0, false⟩) (snd_frz (α := Ck) (t := 30) (l := [x23]) (itp_mono _) (join_sh fuel [x23] x24 hx24) rfl rfl rfl) rfl rfl ⟨rfl, rfl⟩ (by dsimp only [aput, List.set]) ?_
  exact aN_of n19 hS0 hps
 have n17 : N 9 31 G0 := by
  refine aN_1 hops hS0 hps 5 ?_
  refine w_snd (r := v146) (σ' := ⟨[(30, (Enc.cells (x23 : Ck))), (30, (Enc.cellsL ([x23] : List Ck)))], [], [], 0, false⟩) (insC_nil [x23] (Int.tmod at_ ((List.length x22.1 : Int) + 1)) _ _ 1 g26 rfl) rfl rfl ⟨rfl, rfl⟩ (by dsimp only [aput, List.set]) ?_
  exact aN_of n18 hS0 hps
 have n16 : N 10 29 G0 := by
  refine aN_1 hops hS0 hps 1 ?_
  refine w_snd (r := v142) (σ' := ⟨[(30, (Enc.cells (x23 : Ck)))], [], [], 0, false⟩) (cloneC_nil x22.1 hc33 _) rfl rfl ⟨rfl, rfl⟩ (by dsimp only [aput, List.set]) ?_
  exact aN_of n17 hS0 hps
 have n15 : N 10 27 G0 := by
  refine aN_1 hops hS0 hps 2 ?_
  refine w_mv ?_
  exact aN_of n17 hS0 hps
 have n14 : N 10 15 G0 := by
  refine aN_1 hops hS0 hps 4 ?_
  refine w_o (a := v145) (h := op_q (q_lit (α := Ck) (l := [x23]) (cs := Enc.cells (x23 : Ck) ++ []) rfl (by rw [Enc.cons, Enc.nil]))) ?_
  exact aN_of n17 hS0 hps
 have n13 : N 11 28 G0 := by
  refine aN_1 hops hS0 hps 0 ?_
  refine w_mv ?_
  exact aN_of n16 hS0 hps
 have n12 : N 11 25 G0 := by
  refine aN_2 hops hS0 hps 1 2 ?_ ?_
  refine w_snd (r := v142) (σ' := ⟨[(30, (Enc.cells (x23 : Ck)))], [], [], 0, false⟩) (cloneC_nil x22.1 hc33 _) rfl rfl ⟨rfl, rfl⟩ (by dsimp only [aput, List.set]) ?_
  exact aN_of n15 hS0 hps
  refine w_mv ?_
  exact aN_of n16 hS0 hps
 have n11 : N 11 13 G0 := by
  refine aN_2 hops hS0 hps 1 4 ?_ ?_
  refine w_snd (r := v142) (σ' := ⟨[(30, (Enc.cells (x23 : Ck)))], [], [], 0, false⟩) (cloneC_nil x22.1 hc33 _) rfl rfl ⟨rfl, rfl⟩ (by dsimp only [aput, List.set]) ?_
  exact aN_of n14 hS0 hps
  refine w_o (a := v145) (h := op_q (q_lit (α := Ck) (l := [x23]) (cs := Enc.cells (x23 : Ck) ++ []) rfl (by rw [Enc.cons, Enc.nil]))) ?_
  exact aN_of n16 hS0 hps
 have n10 : N 11 11 G0 := by
  refine aN_2 hops hS0 hps 2 4 ?_ ?_
  refine w_mv ?_
  exact aN_of n14 hS0 hps
  refine w_o (a := v145) (h := op_q (q_lit (α := Ck) (l := [x23]) (cs := Enc.cells (x23 : Ck) ++ []) rfl (by rw [Enc.cons, Enc.nil]))) ?_
  exact aN_of n15 hS0 hps
 have n9 : N 11 7 G0 := by
  refine aN_1 hops hS0 hps 3 ?_
  refine w_o (a := v144) ?_
  exact aN_of n14 hS0 hps
 have n8 : N 12 24 G0 := by
  refine aN_2 hops hS0 hps 0 2 ?_ ?_
  refine w_mv ?_
  exact aN_of n12 hS0 hps
  refine w_mv ?_
  exact aN_of n13 hS0 hps
 have n7 : N 12 12 G0 := by
  refine aN_2 hops hS0 hps 0 4 ?_ ?_
  refine w_mv ?_
  exact aN_of n11 hS0 hps
  refine w_o (a := v145) (h := op_q (q_lit (α := Ck) (l := [x23]) (cs := Enc.cells (x23 : Ck) ++ []) rfl (by rw [Enc.cons, Enc.nil]))) ?_
  exact aN_of n13 hS0 hps
 have n6 : N 12 9 G0 := by
  refine aN_3 hops hS0 hps 1 2 4 ?_ ?_ ?_
  refine w_snd (r := v142) (σ' := ⟨[(30, (Enc.cells (x23 : Ck)))], [], [], 0, false⟩) (cloneC_nil x22.1 hc33 _) rfl rfl ⟨rfl, rfl⟩ (by dsimp only [aput, List.set]) ?_
  exact aN_of n10 hS0 hps
  refine w_mv ?_
  exact aN_of n11 hS0 hps
  refine w_o (a := v145) (h := op_q (q_lit (α := Ck) (l := [x23]) (cs := Enc.cells (x23 : Ck) ++ []) rfl (by rw [Enc.cons, Enc.nil]))) ?_
  exact aN_of n12 hS0 hps
 have n5 : N 12 5 G0 := by
  refine aN_2 hops hS0 hps 1 3 ?_ ?_
  refine w_snd (r := v142) (σ' := ⟨[(30, (Enc.cells (x23 : Ck)))], [], [], 0, false⟩) (cloneC_nil x22.1 hc33 _) rfl rfl ⟨rfl, rfl⟩ (by dsimp only [aput, List.set]) ?_
  exact aN_of n9 hS0 hps
  refine w_o (a := v144) ?_
  exact aN_of n11 hS0 hps
 have n4 : N 12 3 G0 := by
  refine aN_2 hops hS0 hps 2 3 ?_ ?_
  refine w_mv ?_
  exact aN_of n9 hS0 hps
  refine w_o (a := v144) ?_
  exact aN_of n10 hS0 hps
 have n3 : N 13 8 G0 := by
  refine aN_3 hops hS0 hps 0 2 4 ?_ ?_ ?_
  refine w_mv ?_
  exact aN_of n6 hS0 hps
  refine w_mv ?_
  exact aN_of n7 hS0 hps
  refine w_o (a := v145) (h := op_q (q_lit (α := Ck) (l := [x23]) (cs := Enc.cells (x23 : Ck) ++ []) rfl (by rw [Enc.cons, Enc.nil]))) ?_
  exact aN_of n8 hS0 hps
 have n2 : N 13 4 G0 := by
  refine aN_2 hops hS0 hps 0 3 ?_ ?_
  refine w_mv ?_
  exact aN_of n5 hS0 hps
  refine w_o (a := v144) ?_
  exact aN_of n7 hS0 hps
 have n1 : N 13 1 G0 := by
  refine aN_3 hops hS0 hps 1 2 3 ?_ ?_ ?_
  refine w_snd (r := v142) (σ' := ⟨[(30, (Enc.cells (x23 : Ck)))], [], [], 0, false⟩) (cloneC_nil x22.1 hc33 _) rfl rfl ⟨rfl, rfl⟩ (by dsimp only [aput, List.set]) ?_
  exact aN_of n4 hS0 hps
  refine w_mv ?_
  exact aN_of n5 hS0 hps
  refine w_o (a := v144) ?_
  exact aN_of n6 hS0 hps
 have n0 : N 14 0 G0 := by
  refine aN_3 hops hS0 hps 0 2 3 ?_ ?_ ?_
  refine w_mv ?_
  exact aN_of n1 hS0 hps
  refine w_mv ?_
  exact aN_of n2 hS0 hps
  refine w_o (a := v144) ?_
  exact aN_of n3 hS0 hps
 exact aN_start n0 hps
 obtain ⟨g27, h⟩ := chk_e h
 obtain ⟨x25, hx25, h⟩ := bindE_e h
 refine w_seqAny (id := 16) [.top, .u how, .u at_, .i n, .top, .top, .top, .top, .top, .list (List.length (x1 : List Ev)) (Enc.cellsL (x1 : List Ev)) .none, .top, .top, .top, .top, .top, .top, .top, .top, .top, .list (List.length (x22.1 : List Ck)) (Enc.cellsL (x22.1 : List Ck)) .none, .i x22.2, .i (Int.tmod at_ ((List.length x22.1 : Int) + 1)), .ptr 0 0, .list (List.length (x24.1 : List Ev)) (Enc.cellsL (x24.1 : List Ev)) .none, .i x24.2.1, .i x24.2.2, .b x25.1, .i x25.2, .top, .top, .top, .top, .top, .top, .top, .top, .top, .top, .top, .top, .top, .top, .top, .top, .top, .top, .top, .top, .top, .top, .top, .top, .top, .top, .top, .top, .top, .top, .top, .top, .top, .top, .top, .top, .top, .top, .top, .top, .top, .top, .top, .top, .top, .top, .top, .top, .top, .top, .top, .top, .top, .top, .top, .top, .top, .top, .top, .top, .top, .top, .top, .top, .top, .top, .top, .top, .top, .top, .top, .top, .top, .top, .top, .top, .top, .top, .top, .top, .top, .top, .top, .top, .top, .tup [.list (List.length (x22.1 : List Ck)) (Enc.cellsL (x22.1 : List Ck)) .none, .i x22.2], .list (List.length (x1 : List Ev)) (Enc.cellsL (x1 : List Ev)) .none, .tup [.list (List.length (x22.1 : List Ck)) (Enc.cellsL (x22.1 : List Ck)) .none, .i x22.2], .list (List.length (x22.1 : List Ck)) (Enc.cellsL (x22.1 : List Ck)) .none, .i x22.2, .u at_, .i at_, .list (List.length (x22.1 : List Ck)) (Enc.cellsL (x22.1 : List Ck)) .none, .i (List.length x22.1 : Int), .i ((List.length x22.1 : Int) + 1), .i (Int.tmod at_ ((List.length x22.1 : Int) + 1)), .i x22.2, .b (x22.2 != 0), .agg (Enc.cells ((Ck.mk 0 []) : Ck)), .u how, .u (max how 4), .agg (Enc.cells ((Ck.mk (max how 4) []) : Ck)), .u how, .list (List.length (([(u8of how)] : List UInt8) : List UInt8)) (Enc.cellsL (([(u8of how)] : List UInt8) : List UInt8)) .full, .agg (Enc.cells ((Ck.mk 2 ([(u8of how)] : List UInt8)) : Ck)), .list (List.length (([0] : List UInt8) : List UInt8)) (Enc.cellsL (([0] : List UInt8) : List UInt8)) .full, .agg (Enc.cells ((Ck.mk 3 ([0] : List UInt8)) : Ck)), .list (List.length ([(Ck.mk 0 []), (Ck.mk (max how 4) []), (Ck.mk 2 ([(u8of how)] : List UInt8)), (Ck.mk 3 ([0] : List UInt8))] : List Ck)) (Enc.cellsL ([(Ck.mk 0 []), (Ck.mk (max how 4) []), (Ck.mk 2 ([(u8of how)] : List UInt8)), (Ck.mk 3 ([0] : List UInt8))] : List Ck)) .full, .u how, .u (Int.tmod how 4), .iptr (Enc.cells x23 ++ Enc.cellsL (List.drop (Int.toNat (Int.tmod how 4) + 1) [(Ck.mk 0 []), (Ck.mk (max how 4) []), (Ck.mk 2 ([(u8of how)] : List UInt8)), (Ck.mk 3 ([0] : List UInt8))])), .agg (Enc.cells (x23 : Ck)), .tup [.list (List.length (x24.1 : List Ev)) (Enc.cellsL (x24.1 : List Ev)) .none, .i x24.2.1, .i x24.2.2], .list (List.length (x22.1 : List Ck)) (Enc.cellsL (x22.1 : List Ck)) .none, .list 0 [] .full, .i (Int.tmod at_ ((List.length x22.1 : Int) + 1)), .agg (Enc.cells (x23 : Ck)), .list (List.length ([x23] : List Ck)) (Enc.cellsL ([x23] : List Ck)) .full, .bsl 1 0 (List.length [x23]) 2 false, .tup [.list (List.length (x24.1 : List Ev)) (Enc.cellsL (x24.1 : List Ev)) .none, .i x24.2.1, .i x24.2.2], .list (List.length (x24.1 : List Ev)) (Enc.cellsL (x24.1 : List Ev)) .none, .i x24.2.1, .i x24.2.2, .tup [.b x25.1, .i x25.2], .list (List.length (x22.1 : List Ck)) (Enc.cellsL (x22.1 : List Ck)) .none, .list 0 [] .full, .i (Int.tmod at_ ((List.length x22.1 : Int) + 1)), .agg (Enc.cells (x23 : Ck)), .list (List.length ([x23] : List Ck)) (Enc.cellsL ([x23] : List Ck)) .full, .bsl 2 0 (List.length [x23]) 2 false, .tup [.b x25.1, .i x25.2], .b x25.1, .i x25.2, .top, .top, .top, .top, .top, .top, .top, .top, .top, .top, .top, .top, .top, .top, .top, .top, .top, .top, .top, .top, .top, .top, .top, .top, .top, .top, .top] ⟨[(30, (Enc.cells (x23 : Ck))), (30, (Enc.cellsL (([] : List Ck) : List Ck))), (30, (Enc.cellsL (([] : List Ck) : List Ck)))], [], [], 0, false⟩ ?_ ?_
 refine aany_intro (fun ops hops FIN hFIN S0 hS0 => ?_)
 let v155 : AV := .agg (Enc.cells (x23 : Ck))
 let v153 : AV := .list 0 [] .full
 let v156 : AV := .list (List.length ([x23] : List Ck)) (Enc.cellsL ([x23] : List Ck)) .full
 let v157 : AV := .bsl 2 0 (List.length [x23]) 2 false
 let v158 : AV := .tup [.b x25.1, .i x25.2]
 let G0 : St := ⟨[(30, (Enc.cells (x23 : Ck))), (30, (Enc.cellsL (([] : List Ck) : List Ck)))], [], [], 0, false⟩
 let G1 : St := ⟨[(30, (Enc.cells (x23 : Ck))), (30, (Enc.cellsL (([] : List Ck) : List Ck))), (30, (Enc.cellsL ([x23] : List Ck)))], [], [], 0, false⟩
 let G2 : St := ⟨[(30, (Enc.cells (x23 : Ck))), (30, (Enc.cellsL (([] : List Ck) : List Ck))), (30, (Enc.cellsL (([] : List Ck) : List Ck)))], [], [], 0, false⟩
 obtain ⟨ps, hps⟩ : ∃ ps : List (Option (Nat × AV)), ps = [some (152, .list (List.length (x22.1 : List Ck)) (Enc.cellsL (x22.1 : List Ck)) .none), some (153, v153), some (154, .i (Int.tmod at_ ((List.length x22.1 : Int) + 1))), some (155, v155), some (156, v156), some (157, v157), some (158, v158), some (151, .tup [.b x25.1, .i x25.2]), some (159, .b x25.1), some (160, .i x25.2), some (26, .b x25.1), some (27, .i x25.2)] := ⟨_, rfl⟩
 let N : Nat → Nat → St → Prop := fun k m σ => aN (ITP Tryz.prog) Tryz.prog none ops FIN S0 ps 12 k m σ
 have n26 : N 0 4095 G2 := by
  exact aN_0 hops hS0 hps (hFIN _ _ (Wk.refl _ _ _))
 have n25 : N 1 2047 G2 := by
  refine aN_1 hops hS0 hps 11 ?_
  refine w_mv ?_
  exact aN_of n26 hS0 hps
 have n24 : N 2 1535 G2 := by
  refine aN_1 hops hS0 hps 9 ?_
  refine w_ex ?_
  exact aN_of n25 hS0 hps
 have n23 : N 2 1023 G2 := by
  refine aN_1 hops hS0 hps 10 ?_
  refine w_mv ?_
  exact aN_of n25 hS0 hps
 have n22 : N 3 767 G2 := by
  refine aN_1 hops hS0 hps 8 ?_
  refine w_ex ?_
  exact aN_of n23 hS0 hps
 have n21 : N 3 511 G2 := by
  refine aN_2 hops hS0 hps 9 10 ?_ ?_
  refine w_ex ?_
  exact aN_of n23 hS0 hps
  refine w_mv ?_
  exact aN_of n24 hS0 hps
 have n20 : N 4 255 G2 := by
  refine aN_2 hops hS0 hps 8 9 ?_ ?_
  refine w_ex ?_
  exact aN_of n21 hS0 hps
  refine w_ex ?_
  exact aN_of n22 hS0 hps
 have n19 : N 5 127 G2 := by
  refine aN_1 hops hS0 hps 7 ?_
  refine w_mv ?_
  exact aN_of n20 hS0 hps
 have n18 : N 6 63 G1 := by
  refine aN_1 hops hS0 hps 6 ?_
  refine w_snd (r := v158) (σ' := ⟨[(30, (Enc.cells (x23 : Ck))), (30, (Enc.cellsL (([] : List Ck) : List Ck))), (30, (Enc.cellsL (([] : List Ck) : List Ck)))], [], [], 0, false⟩) (snd_frz (α := Ck) (t := 30) (l := [x23]) (itp_mono _) (alike_sh fuel [x23] [] x25 hx25) (stripL_cons rfl rfl) (by kernel_rfl) rfl) rfl rfl ⟨rfl, rfl⟩ (by dsimp only [aput, List.set]) ?_
  exact aN_of n19 hS0 hps
 have n17 : N 7 31 G0 := by
  refine aN_1 hops hS0 hps 5 ?_
  refine w_snd (r := v157) (σ' := ⟨[(30, (Enc.cells (x23 : Ck))), (30, (Enc.cellsL (([] : List Ck) : List Ck))), (30, (Enc.cellsL ([x23] : List Ck)))], [], [], 0, false⟩) (insC_nil [x23] (Int.tmod at_ ((List.length x22.1 : Int) + 1)) _ _ 2 g27 rfl) rfl rfl ⟨rfl, rfl⟩ (by dsimp only [aput, List.set]) ?_
  exact aN_of n18 hS0 hps
 have n16 : N 8 29 G0 := by
  refine aN_1 hops hS0 hps 1 ?_
  refine w_snd (r := v153) (σ' := ⟨[(30, (Enc.cells (x23 : Ck))), (30, (Enc.cellsL (([] : List Ck) : List Ck)))], [], [], 0, false⟩) (cloneC_nil x22.1 hc33 _) rfl rfl ⟨rfl, rfl⟩ (by dsimp only [aput, List.set]) ?_
  exact aN_of n17 hS0 hps
 have n15 : N 8 27 G0 := by
  refine aN_1 hops hS0 hps 2 ?_
  refine w_mv ?_
  exact aN_of n17 hS0 hps
 have n14 : N 8 15 G0 := by
  refine aN_1 hops hS0 hps 4 ?_
  refine w_o (a := v156) (h := op_q (q_lit (α := Ck) (l := [x23]) (cs := Enc.cells (x23 : Ck) ++ []) rfl (by rw [Enc.cons, Enc.nil]))) ?_
  exact aN_of n17 hS0 hps
 have n13 : N 9 28 G0 := by
  refine aN_1 hops hS0 hps 0 ?_
  refine w_mv ?_
  exact aN_of n16 hS0 hps
 have n12 : N 9 25 G0 := by
  refine aN_2 hops hS0 hps 1 2 ?_ ?_
  refine w_snd (r := v153) (σ' := ⟨[(30, (Enc.cells (x23 : Ck))), (30, (Enc.cellsL (([] : List Ck) : List Ck)))], [], [], 0, false⟩) (cloneC_nil x22.1 hc33 _) rfl rfl ⟨rfl, rfl⟩ (by dsimp only [aput, List.set]) ?_
  exact aN_of n15 hS0 hps
  refine w_mv ?_
  exact aN_of n16 hS0 hps
 have n11 : N 9 13 G0 := by
  refine aN_2 hops hS0 hps 1 4 ?_ ?_
  refine w_snd (r := v153) (σ' := ⟨[(30, (Enc.cells (x23 : Ck))), (30, (Enc.cellsL (([] : List Ck) : List Ck)))], [], [], 0, false⟩) (cloneC_nil x22.1 hc33 _) rfl rfl ⟨rfl, rfl⟩ (by dsimp only [aput, List.set]) ?_
  exact aN_of n14 hS0 hps
  refine w_o (a := v156) (h := op_q (q_lit (α := Ck) (l := [x23]) (cs := Enc.cells (x23 : Ck) ++ []) rfl (by rw [Enc.cons, Enc.nil]))) ?_
  exact aN_of n16 hS0 hps
 have n10 : N 9 11 G0 := by
  refine aN_2 hops hS0 hps 2 4 ?_ ?_
  refine w_mv ?_
  exact aN_of n14 hS0 hps
  refine w_o (a := v156) (h := op_q (q_lit (α := Ck) (l := [x23]) (cs := Enc.cells (x23 : Ck) ++ []) rfl (by rw [Enc.cons, Enc.nil]))) ?_
  exact aN_of n15 hS0 hps
 have n9 : N 9 7 G0 := by
  refine aN_1 hops hS0 hps 3 ?_
  refine w_o (a := v155) ?_
  exact aN_of n14 hS0 hps
 have n8 : N 10 24 G0 := by
  refine aN_2 hops hS0 hps 0 2 ?_ ?_
  refine w_mv ?_
  exact aN_of n12 hS0 hps
  refine w_mv ?_
  exact aN_of n13 hS0 hps
 have n7 : N 10 12 G0 := by
  refine aN_2 hops hS0 hps 0 4 ?_ ?_
  refine w_mv ?_
  exact aN_of n11 hS0 hps
  refine w_o (a := v156) (h := op_q (q_lit (α := Ck) (l := [x23]) (cs := Enc.cells (x23 : Ck) ++ []) rfl (by rw [Enc.cons, Enc.nil]))) ?_
  exact aN_of n13 hS0 hps
 have n6 : N 10 9 G0 := by
  refine aN_3 hops hS0 hps 1 2 4 ?_ ?_ ?_
  refine w_snd (r := v153) (σ' := ⟨[(30, (Enc.cells (x23 : Ck))), (30, (Enc.cellsL (([] : List Ck) : List Ck)))], [], [], 0, false⟩) (cloneC_nil x22.1 hc33 _) rfl rfl ⟨rfl, rfl⟩ (by dsimp only [aput, List.set]) ?_
  exact aN_of n10 hS0 hps
  refine w_mv ?_
  exact aN_of n11 hS0 hps
  refine w_o (a := v156) (h := op_q (q_lit (α := Ck) (l := [x23]) (cs := Enc.cells (x23 : Ck) ++ []) rfl (by rw [Enc.cons, Enc.nil]))) ?_
  exact aN_of n12 hS0 hps
 have n5 : N 10 5 G0 := by
  refine aN_2 hops hS0 hps 1 3 ?_ ?_
  refine w_snd (r := v153) (σ' := ⟨[(30, (Enc.cells (x23 : Ck))), (30, (Enc.cellsL (([] : List Ck) : List Ck)))], [], [], 0, false⟩) (cloneC_nil x22.1 hc33 _) rfl rfl ⟨rfl, rfl⟩ (by dsimp only [aput, List.set]) ?_
  exact aN_of n9 hS0 hps
  refine w_o (a := v155) ?_
  exact aN_of n11 hS0 hps
 have n4 : N 10 3 G0 := by
  refine aN_2 hops hS0 hps 2 3 ?_ ?_
  refine w_mv ?_
  exact aN_of n9 hS0 hps
  refine w_o (a := v155) ?_
  exact aN_of n10 hS0 hps
 have n3 : N 11 8 G0 := by
  refine aN_3 hops hS0 hps 0 2 4 ?_ ?_ ?_
  refine w_mv ?_
  exact aN_of n6 hS0 hps
  refine w_mv ?_
  exact aN_of n7 hS0 hps
  refine w_o (a := v156) (h := op_q (q_lit (α := Ck) (l := [x23]) (cs := Enc.cells (x23 : Ck) ++ []) rfl (by rw [Enc.cons, Enc.nil]))) ?_
  exact aN_of n8 hS0 hps
 have n2 : N 11 4 G0 := by
  refine aN_2 hops hS0 hps 0 3 ?_ ?_
  refine w_mv ?_
  exact aN_of n5 hS0 hps
  refine w_o (a := v155) ?_
  exact aN_of n7 hS0 hps
 have n1 : N 11 1 G0 := by
  refine aN_3 hops hS0 hps 1 2 3 ?_ ?_ ?_
  refine w_snd (r := v153) (σ' := ⟨[(30, (Enc.cells (x23 : Ck))), (30, (Enc.cellsL (([] : List Ck) : List Ck)))], [], [], 0, false⟩) (cloneC_nil x22.1 hc33 _) rfl rfl ⟨rfl, rfl⟩ (by dsimp only [aput, List.set]) ?_
  exact aN_of n4 hS0 hps
  refine w_mv ?_
  exact aN_of n5 hS0 hps
  refine w_o (a := v155) ?_
  exact aN_of n6 hS0 hps
 have n0 : N 12 0 G0 := by
  refine aN_3 hops hS0 hps 0 2 3 ?_ ?_ ?_
  refine w_mv ?_
  exact aN_of n1 hS0 hps
  refine w_mv ?_
  exact aN_of n2 hS0 hps
  refine w_o (a := v155) ?_
  exact aN_of n3 hS0 hps
 exact aN_start n0 hps
 refine w_seq (w_region ?_)
 refine w_mv ?_
 refine w_mv ?_
 refine w_o (a := .i (min n (-1))) (h := op_q (q_min rfl rfl rfl rfl rfl)) ?_
 refine w_o (a := .list (List.length (([1, (min n (-1))] : List Int) : List Int)) (Enc.cellsL (([1, (min n (-1))] : List Int) : List Int)) .full) (h := op_q (q_lit (α := Int) (l := [1, (min n (-1))]) (cs := Enc.cells (1 : Int) ++ (Enc.cells ((min n (-1)) : Int) ++ [])) rfl (by rw [Enc.cons, Enc.cons, Enc.nil]))) ?_
 obtain ⟨x26, hx26, h⟩ := bindE_e h
 refine w_callc (args' := [.list (List.length (x1 : List Ev)) (Enc.cellsL (x1 : List Ev)) .none, .list (List.length (([1, (min n (-1))] : List Int) : List Int)) (Enc.cellsL (([1, (min n (-1))] : List Int) : List Int)) .none]) (r := .tup [.list (List.length (x26.1 : List Ck)) (Enc.cellsL (x26.1 : List Ck)) .none, .i x26.2]) (cut_sh fuel x1 ([1, (min n (-1))] : List Int) x26 hx26) rfl rfl (stripL_cons (strip_l (Enc.cloL _)) (stripL_cons (strip_l (Enc.cloL _)) rfl)) (okTrimL_cons (okTrim_l (Enc.cloL _)) (okTrimL_cons (okTrim_l (Enc.cloL _)) rfl)) (by dsimp only [aput, List.set]) ?_
 refine w_mv ?_
 refine w_ex ?_
 refine w_ex ?_
 refine w_mv ?_
 refine w_mv ?_
 refine w_seq (w_region ?_)
 refine w_mv ?_
 refine w_mv ?_
 refine w_o (a := .b (x24.2.1 == (Int.tmod at_ ((List.length x22.1 : Int) + 1)))) ?_
 refine bif_e h (fun hc34 h => ?_) (fun hc34 h => ?_)
 refine w_o (a := .b true) (h := op_q (q_bool rfl hc34)) ?_
 refine w_met rfl rfl ?_
 refine w_mv ?_
 refine w_met rfl rfl ?_
 refine w_o (a := .b (x24.2.2 == 320)) ?_
 refine w_o (a := .b (x24.2.2 == 320)) ?_
 refine bif_e h (fun hc35 h => ?_) (fun hc35 h => ?_)
 refine w_o (a := .b true) (h := op_q (q_bool rfl hc35)) ?_
 refine w_met rfl rfl ?_
 refine w_mv ?_
 refine w_met rfl rfl ?_
 refine w_mv ?_
 refine w_met rfl rfl ?_
 refine w_o (a := .b (x25.2 == x24.2.2)) ?_
 refine w_o (a := .b (x25.2 == x24.2.2)) ?_
 refine bif_e h (fun hc36 h => ?_) (fun hc36 h => ?_)
 refine w_o (a := .b true) (h := op_q (q_bool rfl hc36)) ?_
 refine w_met rfl rfl ?_
 refine w_mv ?_
 refine w_met rfl rfl ?_
 refine w_o (a := .b (x26.2 == 2)) ?_
 refine w_o (a := .b (x26.2 == 2)) ?_
 refine bif_e h (fun hc37 h => ?_) (fun hc37 h => ?_)
 refine w_o (a := .b true) (h := op_q (q_bool rfl hc37)) ?_
 refine w_met rfl rfl ?_
 obtain ⟨x27, hx27, h⟩ := bindE_e h
 refine w_callc (args' := []) (r := .b x27) (awake_sh fuel x27 hx27) rfl rfl rfl rfl (by dsimp only [aput, List.set]) ?_
 refine w_o (a := .b x27) ?_
 refine w_mv ?_
 exact end_b h
 refine w_o (a := .b false) (h := op_q (q_bool rfl hc37)) ?_
 refine w_po ?_
 refine w_o (a := .b false) ?_
 refine w_mv ?_
 exact end_b h
 refine w_o (a := .b false) (h := op_q (q_bool rfl hc36)) ?_
 refine w_po ?_
 refine w_po ?_
 refine w_o (a := .b false) ?_
 refine w_mv ?_
 refine w_po ?_
 refine w_o (a := .b false) ?_
 refine w_mv ?_
 exact end_b h
 refine w_o (a := .b false) (h := op_q (q_bool rfl hc35)) ?_
 refine w_po ?_
 refine w_po ?_
 refine w_po ?_
 refine w_o (a := .b false) ?_
 refine w_mv ?_
 refine w_po ?_
 refine w_po ?_
 refine w_o (a := .b false) ?_
 refine w_mv ?_
 refine w_po ?_
 refine w_o (a := .b false) ?_
 refine w_mv ?_
 exact end_b h
 refine w_o (a := .b false) (h := op_q (q_bool rfl hc34)) ?_
 refine w_po ?_
 refine w_po ?_
 refine w_o (a := .b false) ?_
 refine w_mv ?_
 refine w_po ?_
 refine w_po ?_
 refine w_po ?_
 refine w_o (a := .b false) ?_
 refine w_mv ?_
 refine w_po ?_
 refine w_po ?_
 refine w_o (a := .b false) ?_
 refine w_mv ?_
 refine w_po ?_
 refine w_o (a := .b false) ?_
 refine w_mv ?_
 exact end_b h
 obtain ⟨g28, h⟩ := chk_e h
 obtain ⟨g29, h⟩ := chk_e h
 obtain ⟨x28, hx28, h⟩ := letE_e h
 obtain ⟨x29, hx29, h⟩ := bindE_e h
 refine w_seqAny (id := 15) [.top, .u how, .u at_, .i n, .top, .top, .top, .top, .top, .list (List.length (x1 : List Ev)) (Enc.cellsL (x1 : List Ev)) .none, .top, .top, .top, .top, .top, .top, .top, .top, .top, .list (List.length (x22.1 : List Ck)) (Enc.cellsL (x22.1 : List Ck)) .none, .i x22.2, .i (Int.tmod at_ ((List.length x22.1 : Int) + 1)), .ptr 0 0, .list (List.length (x29.1 : List Ev)) (Enc.cellsL (x29.1 : List Ev)) .none, .i x29.2.1, .i x29.2.2, .top, .top, .top, .top, .top, .top, .top, .top, .top, .top, .top, .top, .top, .top, .top, .top, .top, .top, .top, .top, .top, .top, .top, .top, .top, .top, .top, .top, .top, .top, .top, .top, .top, .top, .top, .top, .top, .top, .top, .top, .top, .top, .top, .top, .top, .top, .top, .top, .top, .top, .top, .top, .top, .top, .top, .top, .top, .top, .top, .top, .top, .top, .top, .top, .top, .top, .top, .top, .top, .top, .top, .top, .top, .top, .top, .top, .top, .top, .top, .top, .top, .top, .top, .top, .top, .top, .top, .tup [.list (List.length (x22.1 : List Ck)) (Enc.cellsL (x22.1 : List Ck)) .none, .i x22.2], .list (List.length (x1 : List Ev)) (Enc.cellsL (x1 : List Ev)) .none, .tup [.list (List.length (x22.1 : List Ck)) (Enc.cellsL (x22.1 : List Ck)) .none, .i x22.2], .list (List.length (x22.1 : List Ck)) (Enc.cellsL (x22.1 : List Ck)) .none, .i x22.2, .u at_, .i at_, .list (List.length (x22.1 : List Ck)) (Enc.cellsL (x22.1 : List Ck)) .none, .i (List.length x22.1 : Int), .i ((List.length x22.1 : Int) + 1), .i (Int.tmod at_ ((List.length x22.1 : Int) + 1)), .i x22.2, .b (x22.2 != 0), .agg (Enc.cells ((Ck.mk 0 []) : Ck)), .u how, .u (max how 4), .agg (Enc.cells ((Ck.mk (max how 4) []) : Ck)), .u how, .list (List.length (([(u8of how)] : List UInt8) : List UInt8)) (Enc.cellsL (([(u8of how)] : List UInt8) : List UInt8)) .full, .agg (Enc.cells ((Ck.mk 2 ([(u8of how)] : List UInt8)) : Ck)), .list (List.length (([0] : List UInt8) : List UInt8)) (Enc.cellsL (([0] : List UInt8) : List UInt8)) .full, .agg (Enc.cells ((Ck.mk 3 ([0] : List UInt8)) : Ck)), .list (List.length ([(Ck.mk 0 []), (Ck.mk (max how 4) []), (Ck.mk 2 ([(u8of how)] : List UInt8)), (Ck.mk 3 ([0] : List UInt8))] : List Ck)) (Enc.cellsL ([(Ck.mk 0 []), (Ck.mk (max how 4) []), (Ck.mk 2 ([(u8of how)] : List UInt8)), (Ck.mk 3 ([0] : List UInt8))] : List Ck)) .full, .u how, .u (Int.tmod how 4), .iptr (Enc.cells x23 ++ Enc.cellsL (List.drop (Int.toNat (Int.tmod how 4) + 1) [(Ck.mk 0 []), (Ck.mk (max how 4) []), (Ck.mk 2 ([(u8of how)] : List UInt8)), (Ck.mk 3 ([0] : List UInt8))])), .agg (Enc.cells (x23 : Ck)), .tup [.list (List.length (x29.1 : List Ev)) (Enc.cellsL (x29.1 : List Ev)) .none, .i x29.2.1, .i x29.2.2], .list (List.length (x22.1 : List Ck)) (Enc.cellsL (x22.1 : List Ck)) .none, .bsl 1 0 (List.length x22.1) 2 false, .i (Int.tmod at_ ((List.length x22.1 : Int) + 1)), .agg (Enc.cells (x23 : Ck)), .list (List.length ([x23] : List Ck)) (Enc.cellsL ([x23] : List Ck)) .full, .bsl 2 0 (List.length x28) 2 false, .tup [.list (List.length (x29.1 : List Ev)) (Enc.cellsL (x29.1 : List Ev)) .none, .i x29.2.1, .i x29.2.2], .list (List.length (x29.1 : List Ev)) (Enc.cellsL (x29.1 : List Ev)) .none, .i x29.2.1, .i x29.2.2, .top, .top, .top, .top, .top, .top, .top, .top, .top, .top, .top, .top, .top, .top, .top, .top, .top, .top, .top, .top, .top, .top, .top, .top, .top, .top, .top, .top, .top, .top, .top, .top, .top, .top, .top, .top, .top] ⟨[(30, (Enc.cells (x23 : Ck))), (30, (Enc.cellsL (([] : List Ck) : List Ck))), (30, (Enc.cellsL (([] : List Ck) : List Ck)))], [], [], 0, false⟩ ?_ ?_
 refine aany_intro (fun ops hops FIN hFIN S0 hS0 => ?_)
 let v144 : AV := .agg (Enc.cells (x23 : Ck))
 let v142 : AV := .bsl 1 0 (List.length x22.1) 2 false
 let v145 : AV := .list (List.length ([x23] : List Ck)) (Enc.cellsL ([x23] : List Ck)) .full
 let v146 : AV := .bsl 2 0 (List.length x28) 2 false
 let v147 : AV := .tup [.list (List.length (x29.1 : List Ev)) (Enc.cellsL (x29.1 : List Ev)) .none, .i x29.2.1, .i x29.2.2]
 let G0 : St := ⟨[(30, (Enc.cells (x23 : Ck)))], [], [], 0, false⟩
 let G1 : St := ⟨[(30, (Enc.cells (x23 : Ck))), (30, (Enc.cellsL (x22.1 : List Ck)))], [], [], 0, false⟩
 let G2 : St := ⟨[(30, (Enc.cells (x23 : Ck))), (30, (Enc.cellsL (([] : List Ck) : List Ck))), (30, (Enc.cellsL (x28 : List Ck)))], [], [], 0, false⟩
 let G3 : St := ⟨[(30, (Enc.cells (x23 : Ck))), (30, (Enc.cellsL (([] : List Ck) : List Ck))), (30, (Enc.cellsL (([] : List Ck) : List Ck)))], [], [], 0, false⟩
 obtain ⟨ps, hps⟩ : ∃ ps : List (Option (Nat × AV)), ps = [some (141, .list (List.length (x22.1 : List Ck)) (Enc.cellsL (x22.1 : List Ck)) .none), some (142, v142), some (143, .i (Int.tmod at_ ((List.length x22.1 : Int) + 1))), some (144, v144), some (145, v145), some (146, v146), some (147, v147), some (140, .tup [.list (List.length (x29.1 : List Ev)) (Enc.cellsL (x29.1 : List Ev)) .none, .i x29.2.1, .i x29.2.2]), some (148, .list (List.length (x29.1 : List Ev)) (Enc.cellsL (x29.1 : List Ev)) .none), some (149, .i x29.2.1), some (150, .i x29.2.2), some (23, .list (List.length (x29.1 : List Ev)) (Enc.cellsL (x29.1 : List Ev)) .none), some (24, .i x29.2.1), some (25, .i x29.2.2)] := ⟨_, rfl⟩
 let N : Nat → Nat → St → Prop := fun k m σ => aN (ITP Tryz.prog) Tryz.prog none ops FIN S0 ps 14 k m σ
 have n34 : N 0 16383 G3 := by
  exact aN_0 hops hS0 hps (hFIN _ _ (Wk.refl _ _ _))
 have n33 : N 1 8191 G3 := by
  refine aN_1 hops hS0 hps 13 ?_
  refine w_mv ?_
  exact aN_of n34 hS0 hps
 have n32 : N 2 7167 G3 := by
  refine aN_1 hops hS0 hps 10 ?_
  refine w_ex ?_
  exact aN_of n33 hS0 hps
 have n31 : N 2 4095 G3 := by
  refine aN_1 hops hS0 hps 12 ?_
  refine w_mv ?_
  exact aN_of n33 hS0 hps
 have n30 : N 3 3583 G3 := by
  refine aN_1 hops hS0 hps 9 ?_
  refine w_ex ?_
  exact aN_of n31 hS0 hps
 have n29 : N 3 3071 G3 := by
  refine aN_2 hops hS0 hps 10 12 ?_ ?_
  refine w_ex ?_
  exact aN_of n31 hS0 hps
  refine w_mv ?_
  exact aN_of n32 hS0 hps
 have n28 : N 3 2047 G3 := by
  refine aN_1 hops hS0 hps 11 ?_
  refine w_mv ?_
  exact aN_of n31 hS0 hps
 have n27 : N 4 1791 G3 := by
  refine aN_1 hops hS0 hps 8 ?_
  refine w_ex ?_
  exact aN_of n28 hS0 hps
 have n26 : N 4 2559 G3 := by
  refine aN_2 hops hS0 hps 9 10 ?_ ?_
  refine w_ex ?_
  exact aN_of n29 hS0 hps
  refine w_ex ?_
  exact aN_of n30 hS0 hps
 have n25 : N 4 1535 G3 := by
  refine aN_2 hops hS0 hps 9 11 ?_ ?_
  refine w_ex ?_
  exact aN_of n28 hS0 hps
  refine w_mv ?_
  exact aN_of n30 hS0 hps
 have n24 : N 4 1023 G3 := by
  refine aN_2 hops hS0 hps 10 11 ?_ ?_
  refine w_ex ?_
  exact aN_of n28 hS0 hps
  refine w_mv ?_
  exact aN_of n29 hS0 hps
 have n23 : N 5 1279 G3 := by
  refine aN_2 hops hS0 hps 8 9 ?_ ?_
  refine w_ex ?_
  exact aN_of n25 hS0 hps
  refine w_ex ?_
  exact aN_of n27 hS0 hps
 have n22 : N 5 767 G3 := by
  refine aN_2 hops hS0 hps 8 10 ?_ ?_
  refine w_ex ?_
  exact aN_of n24 hS0 hps
  refine w_ex ?_
  exact aN_of n27 hS0 hps
 have n21 : N 5 511 G3 := by
  refine aN_3 hops hS0 hps 9 10 11 ?_ ?_ ?_
  refine w_ex ?_
  exact aN_of n24 hS0 hps
  refine w_ex ?_
  exact aN_of n25 hS0 hps
  refine w_mv ?_
  exact aN_of n26 hS0 hps
 have n20 : N 6 255 G3 := by
  refine aN_3 hops hS0 hps 8 9 10 ?_ ?_ ?_
  refine w_ex ?_
  exact aN_of n21 hS0 hps
  refine w_ex ?_
  exact aN_of n22 hS0 hps
  refine w_ex ?_
  exact aN_of n23 hS0 hps
 have n19 : N 7 127 G3 := by
  refine aN_1 hops hS0 hps 7 ?_
  refine w_mv ?_
  exact aN_of n20 hS0 hps
 have n18 : N 8 63 G2 := by
  refine aN_1 hops hS0 hps 6 ?_
  refine w_snd (r := v147) (σ' := ⟨[(30, (Enc.cells (x23 : Ck))), (30, (Enc.cellsL (([] : List Ck) : List Ck))), (30, (Enc.cellsL (([] : List Ck) : List Ck)))], [], [], 0, false⟩) (snd_frz (α := Ck) (t := 30) (l := x28) (itp_mono _) (join_sh fuel x28 x29 hx29) rfl rfl rfl) rfl rfl ⟨rfl, rfl⟩ (by dsimp only [aput, List.set]) ?_
  exact aN_of n19 hS0 hps
 have n17 : N 9 31 G1 := by
  refine aN_1 hops hS0 hps 5 ?_
  refine w_snd (r := v146) (σ' := ⟨[(30, (Enc.cells (x23 : Ck))), (30, (Enc.cellsL (([] : List Ck) : List Ck))), (30, (Enc.cellsL (x28 : List Ck)))], [], [], 0, false⟩) (insC_snd x22.1 [x23] (Int.tmod at_ ((List.length x22.1 : Int) + 1)) _ _ 1 2 x28 hx28 g29 rfl rfl) rfl rfl ⟨rfl, rfl⟩ (by dsimp only [aput, List.set]) ?_
  exact aN_of n18 hS0 hps
 have n16 : N 10 29 G0 := by
  refine aN_1 hops hS0 hps 1 ?_
  refine w_snd (r := v142) (σ' := ⟨[(30, (Enc.cells (x23 : Ck))), (30, (Enc.cellsL (x22.1 : List Ck)))], [], [], 0, false⟩) (cloneC_some x22.1 g28 hc33 1 _ rfl) rfl rfl ⟨rfl, rfl⟩ (by dsimp only [aput, List.set]) ?_
  exact aN_of n17 hS0 hps
 have n15 : N 10 27 G1 := by
  refine aN_1 hops hS0 hps 2 ?_
  refine w_mv ?_
  exact aN_of n17 hS0 hps
 have n14 : N 10 15 G1 := by
  refine aN_1 hops hS0 hps 4 ?_
  refine w_o (a := v145) (h := op_q (q_lit (α := Ck) (l := [x23]) (cs := Enc.cells (x23 : Ck) ++ []) rfl (by rw [Enc.cons, Enc.nil]))) ?_
  exact aN_of n17 hS0 hps
 have n13 : N 11 28 G0 := by
  refine aN_1 hops hS0 hps 0 ?_
  refine w_mv ?_
  exact aN_of n16 hS0 hps
 have n12 : N 11 25 G0 := by
  refine aN_2 hops hS0 hps 1 2 ?_ ?_
  refine w_snd (r := v142) (σ' := ⟨[(30, (Enc.cells (x23 : Ck))), (30, (Enc.cellsL (x22.1 : List Ck)))], [], [], 0, false⟩) (cloneC_some x22.1 g28 hc33 1 _ rfl) rfl rfl ⟨rfl, rfl⟩ (by dsimp only [aput, List.set]) ?_
  exact aN_of n15 hS0 hps
  refine w_mv ?_
  exact aN_of n16 hS0 hps
 have n11 : N 11 13 G0 := by
  refine aN_2 hops hS0 hps 1 4 ?_ ?_
  refine w_snd (r := v142) (σ' := ⟨[(30, (Enc.cells (x23 : Ck))), (30, (Enc.cellsL (x22.1 : List Ck)))], [], [], 0, false⟩) (cloneC_some x22.1 g28 hc33 1 _ rfl) rfl rfl ⟨rfl, rfl⟩ (by dsimp only [aput, List.set]) ?_
  exact aN_of n14 hS0 hps
  refine w_o (a := v145) (h := op_q (q_lit (α := Ck) (l := [x23]) (cs := Enc.cells (x23 : Ck) ++ []) rfl (by rw [Enc.cons, Enc.nil]))) ?_
  exact aN_of n16 hS0 hps
 have n10 : N 11 11 G1 := by
  refine aN_2 hops hS0 hps 2 4 ?_ ?_
  refine w_mv ?_
  exact aN_of n14 hS0 hps
  refine w_o (a := v145) (h := op_q (q_lit (α := Ck) (l := [x23]) (cs := Enc.cells (x23 : Ck) ++ []) rfl (by rw [Enc.cons, Enc.nil]))) ?_
  exact aN_of n15 hS0 hps
 have n9 : N 11 7 G1 := by
  refine aN_1 hops hS0 hps 3 ?_
  refine w_o (a := v144) ?_
  exact aN_of n14 hS0 hps
 have n8 : N 12 24 G0 := by
  refine aN_2 hops hS0 hps 0 2 ?_ ?_
  refine w_mv ?_
  exact aN_of n12 hS0 hps
  refine w_mv ?_
  exact aN_of n13 hS0 hps
 have n7 : N 12 12 G0 := by
  refine aN_2 hops hS0 hps 0 4 ?_ ?_
  refine w_mv ?_
  exact aN_of n11 hS0 hps
  refine w_o (a := v145) (h := op_q (q_lit (α := Ck) (l := [x23]) (cs := Enc.cells (x23 : Ck) ++ []) rfl (by rw [Enc.cons, Enc.nil]))) ?_
  exact aN_of n13 hS0 hps
 have n6 : N 12 9 G0 := by
  refine aN_3 hops hS0 hps 1 2 4 ?_ ?_ ?_
  refine w_snd (r := v142) (σ' := ⟨[(30, (Enc.cells (x23 : Ck))), (30, (Enc.cellsL (x22.1 : List Ck)))], [], [], 0, false⟩) (cloneC_some x22.1 g28 hc33 1 _ rfl) rfl rfl ⟨rfl, rfl⟩ (by dsimp only [aput, List.set]) ?_
  exact aN_of n10 hS0 hps
  refine w_mv ?_
  exact aN_of n11 hS0 hps
  refine w_o (a := v145) (h := op_q (q_lit (α := Ck) (l := [x23]) (cs := Enc.cells (x23 : Ck) ++ []) rfl (by rw [Enc.cons, Enc.nil]))) ?_
  exact aN_of n12 hS0 hps
 have n5 : N 12 5 G0 := by
  refine aN_2 hops hS0 hps 1 3 ?_ ?_
  refine w_snd (r := v142) (σ' := ⟨[(30, (Enc.cells (x23 : Ck))), (30, (Enc.cellsL (x22.1 : List Ck)))], [], [], 0, false⟩) (cloneC_some x22.1 g28 hc33 1 _ rfl) rfl rfl ⟨rfl, rfl⟩ (by dsimp only [aput, List.set]) ?_
  exact aN_of n9 hS0 hps
  refine w_o (a := v144) ?_
  exact aN_of n11 hS0 hps
 have n4 : N 12 3 G1 := by
  refine aN_2 hops hS0 hps 2 3 ?_ ?_
  refine w_mv ?_
  exact aN_of n9 hS0 hps
  refine w_o (a := v144) ?_
  exact aN_of n10 hS0 hps
 have n3 : N 13 8 G0 := by
  refine aN_3 hops hS0 hps 0 2 4 ?_ ?_ ?_
  refine w_mv ?_
  exact aN_of n6 hS0 hps
  refine w_mv ?_
  exact aN_of n7 hS0 hps
  refine w_o (a := v145) (h := op_q (q_lit (α := Ck) (l := [x23]) (cs := Enc.cells (x23 : Ck) ++ []) rfl (by rw [Enc.cons, Enc.nil]))) ?_
  exact aN_of n8 hS0 hps
 have n2 : N 13 4 G0 := by
  refine aN_2 hops hS0 hps 0 3 ?_ ?_
  refine w_mv ?_
  exact aN_of n5 hS0 hps
  refine w_o (a := v144) ?_
  exact aN_of n7 hS0 hps
 have n1 : N 13 1 G0 := by
  refine aN_3 hops hS0 hps 1 2 3 ?_ ?_ ?_
  refine w_snd (r := v142) (σ' := ⟨[(30, (Enc.cells (x23 : Ck))), (30, (Enc.cellsL (x22.1 : List Ck)))], [], [], 0, false⟩) (cloneC_some x22.1 g28 hc33 1 _ rfl) rfl rfl ⟨rfl, rfl⟩ (by dsimp only [aput, List.set]) ?_
  exact aN_of n4 hS0 hps
  refine w_mv ?_
  exact aN_of n5 hS0 hps
  refine w_o (a := v144) ?_
  exact aN_of n6 hS0 hps
 have n0 : N 14 0 G0 := by
  refine aN_3 hops hS0 hps 0 2 3 ?_ ?_ ?_
  refine w_mv ?_
  exact aN_of n1 hS0 hps
  refine w_mv ?_
  exact aN_of n2 hS0 hps
  refine w_o (a := v144) ?_
  exact aN_of n3 hS0 hps
 exact aN_start n0 hps
 obtain ⟨g30, h⟩ := chk_e h
 obtain ⟨g31, h⟩ := chk_e h
 obtain ⟨x30, hx30, h⟩ := letE_e h
 obtain ⟨x31, hx31, h⟩ := bindE_e h
 refine w_seqAny (id := 16) [.top, .u how, .u at_, .i n, .top, .top, .top, .top, .top, .list (List.length (x1 : List Ev)) (Enc.cellsL (x1 : List Ev)) .none, .top, .top, .top, .top, .top, .top, .top, .top, .top, .list (List.length (x22.1 : List Ck)) (Enc.cellsL (x22.1 : List Ck)) .none, .i x22.2, .i (Int.tmod at_ ((List.length x22.1 : Int) + 1)), .ptr 0 0, .list (List.length (x29.1 : List Ev)) (Enc.cellsL (x29.1 : List Ev)) .none, .i x29.2.1, .i x29.2.2, .b x31.1, .i x31.2, .top, .top, .top, .top, .top, .top, .top, .top, .top, .top, .top, .top, .top, .top, .top, .top, .top, .top, .top, .top, .top, .top, .top, .top, .top, .top, .top, .top, .top, .top, .top, .top, .top, .top, .top, .top, .top, .top, .top, .top, .top, .top, .top, .top, .top, .top, .top, .top, .top, .top, .top, .top, .top, .top, .top, .top, .top, .top, .top, .top, .top, .top, .top, .top, .top, .top, .top, .top, .top, .top, .top, .top, .top, .top, .top, .top, .top, .top, .top, .top, .top, .top, .top, .top, .top, .tup [.list (List.length (x22.1 : List Ck)) (Enc.cellsL (x22.1 : List Ck)) .none, .i x22.2], .list (List.length (x1 : List Ev)) (Enc.cellsL (x1 : List Ev)) .none, .tup [.list (List.length (x22.1 : List Ck)) (Enc.cellsL (x22.1 : List Ck)) .none, .i x22.2], .list (List.length (x22.1 : List Ck)) (Enc.cellsL (x22.1 : List Ck)) .none, .i x22.2, .u at_, .i at_, .list (List.length (x22.1 : List Ck)) (Enc.cellsL (x22.1 : List Ck)) .none, .i (List.length x22.1 : Int), .i ((List.length x22.1 : Int) + 1), .i (Int.tmod at_ ((List.length x22.1 : Int) + 1)), .i x22.2, .b (x22.2 != 0), .agg (Enc.cells ((Ck.mk 0 []) : Ck)), .u how, .u (max how 4), .agg (Enc.cells ((Ck.mk (max how 4) []) : Ck)), .u how, .list (List.length (([(u8of how)] : List UInt8) : List UInt8)) (Enc.cellsL (([(u8of how)] : List UInt8) : List UInt8)) .full, .agg (Enc.cells ((Ck.mk 2 ([(u8of how)] : List UInt8)) : Ck)), .list (List.length (([0] : List UInt8) : List UInt8)) (Enc.cellsL (([0] : List UInt8) : List UInt8)) .full, .agg (Enc.cells ((Ck.mk 3 ([0] : List UInt8)) : Ck)), .list (List.length ([(Ck.mk 0 []), (Ck.mk (max how 4) []), (Ck.mk 2 ([(u8of how)] : List UInt8)), (Ck.mk 3 ([0] : List UInt8))] : List Ck)) (Enc.cellsL ([(Ck.mk 0 []), (Ck.mk (max how 4) []), (Ck.mk 2 ([(u8of how)] : List UInt8)), (Ck.mk 3 ([0] : List UInt8))] : List Ck)) .full, .u how, .u (Int.tmod how 4), .iptr (Enc.cells x23 ++ Enc.cellsL (List.drop (Int.toNat (Int.tmod how 4) + 1) [(Ck.mk 0 []), (Ck.mk (max how 4) []), (Ck.mk 2 ([(u8of how)] : List UInt8)), (Ck.mk 3 ([0] : List UInt8))])), .agg (Enc.cells (x23 : Ck)), .tup [.list (List.length (x29.1 : List Ev)) (Enc.cellsL (x29.1 : List Ev)) .none, .i x29.2.1, .i x29.2.2], .list (List.length (x22.1 : List Ck)) (Enc.cellsL (x22.1 : List Ck)) .none, .bsl 1 0 (List.length x22.1) 2 false, .i (Int.tmod at_ ((List.length x22.1 : Int) + 1)), .agg (Enc.cells (x23 : Ck)), .list (List.length ([x23] : List Ck)) (Enc.cellsL ([x23] : List Ck)) .full, .bsl 2 0 (List.length x28) 2 false, .tup [.list (List.length (x29.1 : List Ev)) (Enc.cellsL (x29.1 : List Ev)) .none, .i x29.2.1, .i x29.2.2], .list (List.length (x29.1 : List Ev)) (Enc.cellsL (x29.1 : List Ev)) .none, .i x29.2.1, .i x29.2.2, .tup [.b x31.1, .i x31.2], .list (List.length (x22.1 : List Ck)) (Enc.cellsL (x22.1 : List Ck)) .none, .bsl 3 0 (List.length x22.1) 2 false, .i (Int.tmod at_ ((List.length x22.1 : Int) + 1)), .agg (Enc.cells (x23 : Ck)), .list (List.length ([x23] : List Ck)) (Enc.cellsL ([x23] : List Ck)) .full, .bsl 4 0 (List.length x30) 2 false, .tup [.b x31.1, .i x31.2], .b x31.1, .i x31.2, .top, .top, .top, .top, .top, .top, .top, .top, .top, .top, .top, .top, .top, .top, .top, .top, .top, .top, .top, .top, .top, .top, .top, .top, .top, .top, .top] ⟨[(30, (Enc.cells (x23 : Ck))), (30, (Enc.cellsL (([] : List Ck) : List Ck))), (30, (Enc.cellsL (([] : List Ck) : List Ck))), (30, (Enc.cellsL (([] : List Ck) : List Ck))), (30, (Enc.cellsL (([] : List Ck) : List Ck)))], [], [], 0, false⟩ ?_ ?_
 refine aany_intro (fun ops hops FIN hFIN S0 hS0 => ?_)
 let v155 : AV := .agg (Enc.cells (x23 : Ck))
 let v153 : AV := .bsl 3 0 (List.length x22.1) 2 false
 let v156 : AV := .list (List.length ([x23] : List Ck)) (Enc.cellsL ([x23] : List Ck)) .full
 let v157 : AV := .bsl 4 0 (List.length x30) 2 false
 let v158 : AV := .tup [.b x31.1, .i x31.2]
 let G0 : St := ⟨[(30, (Enc.cells (x23 : Ck))), (30, (Enc.cellsL (([] : List Ck) : List Ck))), (30, (Enc.cellsL (([] : List Ck) : List Ck)))], [], [], 0, false⟩
 let G1 : St := ⟨[(30, (Enc.cells (x23 : Ck))), (30, (Enc.cellsL (([] : List Ck) : List Ck))), (30, (Enc.cellsL (([] : List Ck) : List Ck))), (30, (Enc.cellsL (x22.1 : List Ck)))], [], [], 0, false⟩
 let G2 : St := ⟨[(30, (Enc.cells (x23 : Ck))), (30, (Enc.cellsL (([] : List Ck) : List Ck))), (30, (Enc.cellsL (([] : List Ck) : List Ck))), (30, (Enc.cellsL (([] : List Ck) : List Ck))), (30, (Enc.cellsL (x30 : List Ck)))], [], [], 0, false⟩
 let G3 : St := ⟨[(30, (Enc.cells (x23 : Ck))), (30, (Enc.cellsL (([] : List Ck) : List Ck))), (30, (Enc.cellsL (([] : List Ck) : List Ck))), (30, (Enc.cellsL (([] : List Ck) : List Ck))), (30, (Enc.cellsL (([] : List Ck) : List Ck)))], [], [], 0, false⟩
 obtain ⟨ps, hps⟩ : ∃ ps : List (Option (Nat × AV)), ps = [some (152, .list (List.length (x22.1 : List Ck)) (Enc.cellsL (x22.1 : List Ck)) .none), some (153, v153), some (154, .i (Int.tmod at_ ((List.length x22.1 : Int) + 1))), some (155, v155), some (156, v156), some (157, v157), some (158, v158), some (151, .tup [.b x31.1, .i x31.2]), some (159, .b x31.1), some (160, .i x31.2), some (26, .b x31.1), some (27, .i x31.2)] := ⟨_, rfl⟩
 let N : Nat → Nat → St → Prop := fun k m σ => aN (ITP Tryz.prog) Tryz.prog none ops FIN S0 ps 12 k m σ
 have n26 : N 0 4095 G3 := by
  exact aN_0 hops hS0 hps (hFIN _ _ (Wk.refl _ _ _))
 have n25 : N 1 2047 G3 := by
  refine aN_1 hops hS0 hps 11 ?_
  refine w_mv ?_
  exact aN_of n26 hS0 hps
 have n24 : N 2 1535 G3 := by
  refine aN_1 hops hS0 hps 9 ?_
  refine w_ex ?_
  exact aN_of n25 hS0 hps
 have n23 : N 2 1023 G3 := by
  refine aN_1 hops hS0 hps 10 ?_
  refine w_mv ?_
  exact aN_of n25 hS0 hps
 have n22 : N 3 767 G3 := by
  refine aN_1 hops hS0 hps 8 ?_
  refine w_ex ?_
  exact aN_of n23 hS0 hps
 have n21 : N 3 511 G3 := by
  refine aN_2 hops hS0 hps 9 10 ?_ ?_
  refine w_ex ?_
  exact aN_of n23 hS0 hps
  refine w_mv ?_
  exact aN_of n24 hS0 hps
 have n20 : N 4 255 G3 := by
  refine aN_2 hops hS0 hps 8 9 ?_ ?_
  refine w_ex ?_
  exact aN_of n21 hS0 hps
  refine w_ex ?_
  exact aN_of n22 hS0 hps
 have n19 : N 5 127 G3 := by
  refine aN_1 hops hS0 hps 7 ?_
  refine w_mv ?_
  exact aN_of n20 hS0 hps
 have n18 : N 6 63 G2 := by
  refine aN_1 hops hS0 hps 6 ?_
  refine w_snd (r := v158) (σ' := ⟨[(30, (Enc.cells (x23 : Ck))), (30, (Enc.cellsL (([] : List Ck) : List Ck))), (30, (Enc.cellsL (([] : List Ck) : List Ck))), (30, (Enc.cellsL (([] : List Ck) : List Ck))), (30, (Enc.cellsL (([] : List Ck) : List Ck)))], [], [], 0, false⟩) (snd_frz (α := Ck) (t := 30) (l := x30) (itp_mono _) (alike_sh fuel x30 [] x31 hx31) (stripL_cons rfl rfl) (by kernel_rfl) rfl) rfl rfl ⟨rfl, rfl⟩ (by dsimp only [aput, List.set]) ?_
  exact aN_of n19 hS0 hps
 have n17 : N 7 31 G1 := by
  refine aN_1 hops hS0 hps 5 ?_
  refine w_snd (r := v157) (σ' := ⟨[(30, (Enc.cells (x23 : Ck))), (30, (Enc.cellsL (([] : List Ck) : List Ck))), (30, (Enc.cellsL (([] : List Ck) : List Ck))), (30, (Enc.cellsL (([] : List Ck) : List Ck))), (30, (Enc.cellsL (x30 : List Ck)))], [], [], 0, false⟩) (insC_snd x22.1 [x23] (Int.tmod at_ ((List.length x22.1 : Int) + 1)) _ _ 3 4 x30 hx30 g31 rfl rfl) rfl rfl ⟨rfl, rfl⟩ (by dsimp only [aput, List.set]) ?_
  exact aN_of n18 hS0 hps
 have n16 : N 8 29 G0 := by
  refine aN_1 hops hS0 hps 1 ?_
  refine w_snd (r := v153) (σ' := ⟨[(30, (Enc.cells (x23 : Ck))), (30, (Enc.cellsL (([] : List Ck) : List Ck))), (30, (Enc.cellsL (([] : List Ck) : List Ck))), (30, (Enc.cellsL (x22.1 : List Ck)))], [], [], 0, false⟩) (cloneC_some x22.1 g30 hc33 3 _ rfl) rfl rfl ⟨rfl, rfl⟩ (by dsimp only [aput, List.set]) ?_
  exact aN_of n17 hS0 hps
 have n15 : N 8 27 G1 := by
  refine aN_1 hops hS0 hps 2 ?_
  refine w_mv ?_
  exact aN_of n17 hS0 hps
 have n14 : N 8 15 G1 := by
  refine aN_1 hops hS0 hps 4 ?_
  refine w_o (a := v156) (h := op_q (q_lit (α := Ck) (l := [x23]) (cs := Enc.cells (x23 : Ck) ++ []) rfl (by rw [Enc.cons, Enc.nil]))) ?_
  exact aN_of n17 hS0 hps
 have n13 : N 9 28 G0 := by
  refine aN_1 hops hS0 hps 0 ?_
  refine w_mv ?_
  exact aN_of n16 hS0 hps
 have n12 : N 9 25 G0 := by
  refine aN_2 hops hS0 hps 1 2 ?_ ?_
  refine w_snd (r := v153) (σ' := ⟨[(30, (Enc.cells (x23 : Ck))), (30, (Enc.cellsL (([] : List Ck) : List Ck))), (30, (Enc.cellsL (([] : List Ck) : List Ck))), (30, (Enc.cellsL (x22.1 : List Ck)))], [], [], 0, false⟩) (cloneC_some x22.1 g30 hc33 3 _ rfl) rfl rfl ⟨rfl, rfl⟩ (by dsimp only [aput, List.set]) ?_
  exact aN_of n15 hS0 hps
  refine w_mv ?_
  exact aN_of n16 hS0 hps
 have n11 : N 9 13 G0 := by
  refine aN_2 hops hS0 hps 1 4 ?_ ?_
  refine w_snd (r := v153) (σ' := ⟨[(30, (Enc.cells (x23 : Ck))), (30, (Enc.cellsL (([] : List Ck) : List Ck))), (30, (Enc.cellsL (([] : List Ck) : List Ck))), (30, (Enc.cellsL (x22.1 : List Ck)))], [], [], 0, false⟩) (cloneC_some x22.1 g30 hc33 3 _ rfl) rfl rfl ⟨rfl, rfl⟩ (by dsimp only [aput, List.set]) ?_
  exact aN_of n14 hS0 hps
  refine w_o (a := v156) (h := op_q (q_lit (α := Ck) (l := [x23]) (cs := Enc.cells (x23 : Ck) ++ []) rfl (by rw [Enc.cons, Enc.nil]))) ?_
  exact aN_of n16 hS0 hps
 have n10 : N 9 11 G1 := by
  refine aN_2 hops hS0 hps 2 4 ?_ ?_
  refine w_mv ?_
  exact aN_of n14 hS0 hps
  refine w_o (a := v156) (h := op_q (q_lit (α := Ck) (l := [x23]) (cs := Enc.cells (x23 : Ck) ++ []) rfl (by rw [Enc.cons, Enc.nil]))) ?_
  exact aN_of n15 hS0 hps
 have n9 : N 9 7 G1 := by
  refine aN_1 hops hS0 hps 3 ?_
  refine w_o (a := v155) ?_
  exact aN_of n14 hS0 hps
 have n8 : N 10 24 G0 := by
  refine aN_2 hops hS0 hps 0 2 ?_ ?_
  refine w_mv ?_
  exact aN_of n12 hS0 hps
  refine w_mv ?_
  exact aN_of n13 hS0 hps
 have n7 : N 10 12 G0 := by
  refine aN_2 hops hS0 hps 0 4 ?_ ?_
  refine w_mv ?_
  exact aN_of n11 hS0 hps
  refine w_o (a := v156) (h := op_q (q_lit (α := Ck) (l := [x23]) (cs := Enc.cells (x23 : Ck) ++ []) rfl (by rw [Enc.cons, Enc.nil]))) ?_
  exact aN_of n13 hS0 hps
 have n6 : N 10 9 G0 := by
  refine aN_3 hops hS0 hps 1 2 4 ?_ ?_ ?_
  refine w_snd (r := v153) (σ' := ⟨[(30, (Enc.cells (x23 : Ck))), (30, (Enc.cellsL (([] : List Ck) : List Ck))), (30, (Enc.cellsL (([] : List Ck) : List Ck))), (30, (Enc.cellsL (x22.1 : List Ck)))], [], [], 0, false⟩) (cloneC_some x22.1 g30 hc33 3 _ rfl) rfl rfl ⟨rfl, rfl⟩ (by dsimp only [aput, List.set]) ?_
  exact aN_of n10 hS0 hps
  refine w_mv ?_
  exact aN_of n11 hS0 hps
  refine w_o (a := v156) (h := op_q (q_lit (α := Ck) (l := [x23]) (cs := Enc.cells (x23 : Ck) ++ []) rfl (by rw [Enc.cons, Enc.nil]))) ?_
  exact aN_of n12 hS0 hps
 have n5 : N 10 5 G0 := by
  refine aN_2 hops hS0 hps 1 3 ?_ ?_
  refine w_snd (r := v153) (σ' := ⟨[(30, (Enc.cells (x23 : Ck))), (30, (Enc.cellsL (([] : List Ck) : List Ck))), (30, (Enc.cellsL (([] : List Ck) : List Ck))), (30, (Enc.cellsL (x22.1 : List Ck)))], [], [], 0, false⟩) (cloneC_some x22.1 g30 hc33 3 _ rfl) rfl rfl ⟨rfl, rfl⟩ (by dsimp only [aput, List.set]) ?_
  exact aN_of n9 hS0 hps
  refine w_o (a := v155) ?_
  exact aN_of n11 hS0 hps
 have n4 : N 10 3 G1 := by
  refine aN_2 hops hS0 hps 2 3 ?_ ?_
  refine w_mv ?_
  exact aN_of n9 hS0 hps
  refine w_o (a := v155) ?_
  exact aN_of n10 hS0 hps
 have n3 : N 11 8 G0 := by
  refine aN_3 hops hS0 hps 0 2 4 ?_ ?_ ?_
  refine w_mv ?_
  exact aN_of n6 hS0 hps
  refine w_mv ?_
  exact aN_of n7 hS0 hps
  refine w_o (a := v156) (h := op_q (q_lit (α := Ck) (l := [x23]) (cs := Enc.cells (x23 : Ck) ++ []) rfl (by rw [Enc.cons, Enc.nil]))) ?_
  exact aN_of n8 hS0 hps
 have n2 : N 11 4 G0 := by
  refine aN_2 hops hS0 hps 0 3 ?_ ?_
  refine w_mv ?_
  exact aN_of n5 hS0 hps
  refine w_o (a := v155) ?_
  exact aN_of n7 hS0 hps
 have n1 : N 11 1 G0 := by
  refine aN_3 hops hS0 hps 1 2 3 ?_ ?_ ?_
  refine w_snd (r := v153) (σ' := ⟨[(30, (Enc.cells (x23 : Ck))), (30, (Enc.cellsL (([] : List Ck) : List Ck))), (30, (Enc.cellsL (([] : List Ck) : List Ck))), (30, (Enc.cellsL (x22.1 : List Ck)))], [], [], 0, false⟩) (cloneC_some x22.1 g30 hc33 3 _ rfl) rfl rfl ⟨rfl, rfl⟩ (by dsimp only [aput, List.set]) ?_
  exact aN_of n4 hS0 hps
  refine w_mv ?_
  exact aN_of n5 hS0 hps
  refine w_o (a := v155) ?_
  exact aN_of n6 hS0 hps
 have n0 : N 12 0 G0 := by
  refine aN_3 hops hS0 hps 0 2 3 ?_ ?_ ?_
  refine w_mv ?_
  exact aN_of n1 hS0 hps
  refine w_mv ?_
  exact aN_of n2 hS0 hps
  refine w_o (a := v155) ?_
  exact aN_of n3 hS0 hps
 exact aN_start n0 hps
 refine w_seq (w_region ?_)
 refine w_mv ?_
 refine w_mv ?_
 refine w_o (a := .i (min n (-1))) (h := op_q (q_min rfl rfl rfl rfl rfl)) ?_
 refine w_o (a := .list (List.length (([1, (min n (-1))] : List Int) : List Int)) (Enc.cellsL (([1, (min n (-1))] : List Int) : List Int)) .full) (h := op_q (q_lit (α := Int) (l := [1, (min n (-1))]) (cs := Enc.cells (1 : Int) ++ (Enc.cells ((min n (-1)) : Int) ++ [])) rfl (by rw [Enc.cons, Enc.cons, Enc.nil]))) ?_
 obtain ⟨x32, hx32, h⟩ := bindE_e h
 refine w_callc (args' := [.list (List.length (x1 : List Ev)) (Enc.cellsL (x1 : List Ev)) .none, .list (List.length (([1, (min n (-1))] : List Int) : List Int)) (Enc.cellsL (([1, (min n (-1))] : List Int) : List Int)) .none]) (r := .tup [.list (List.length (x32.1 : List Ck)) (Enc.cellsL (x32.1 : List Ck)) .none, .i x32.2]) (cut_sh fuel x1 ([1, (min n (-1))] : List Int) x32 hx32) rfl rfl (stripL_cons (strip_l (Enc.cloL _)) (stripL_cons (strip_l (Enc.cloL _)) rfl)) (okTrimL_cons (okTrim_l (Enc.cloL _)) (okTrimL_cons (okTrim_l (Enc.cloL _)) rfl)) (by dsimp only [aput, List.set]) ?_
 refine w_mv ?_
 refine w_ex ?_
 refine w_ex ?_
 refine w_mv ?_
 refine w_mv ?_
 refine w_seq (w_region ?_)
 refine w_mv ?_
 refine w_mv ?_
 refine w_o (a := .b (x29.2.1 == (Int.tmod at_ ((List.length x22.1 : Int) + 1)))) ?_
 refine bif_e h (fun hc38 h => ?_) (fun hc38 h => ?_)
 refine w_o (a := .b true) (h := op_q (q_bool rfl hc38)) ?_
 refine w_met rfl rfl ?_
 refine w_mv ?_
 refine w_met rfl rfl ?_
 refine w_o (a := .b (x29.2.2 == 320)) ?_
 refine w_o (a := .b (x29.2.2 == 320)) ?_
 refine bif_e h (fun hc39 h => ?_) (fun hc39 h => ?_)
 refine w_o (a := .b true) (h := op_q (q_bool rfl hc39)) ?_
 refine w_met rfl rfl ?_
 refine w_mv ?_
 refine w_met rfl rfl ?_
 refine w_mv ?_
 refine w_met rfl rfl ?_
 refine w_o (a := .b (x31.2 == x29.2.2)) ?_
 refine w_o (a := .b (x31.2 == x29.2.2)) ?_
 refine bif_e h (fun hc40 h => ?_) (fun hc40 h => ?_)
 refine w_o (a := .b true) (h := op_q (q_bool rfl hc40)) ?_
 refine w_met rfl rfl ?_
 refine w_mv ?_
 refine w_met rfl rfl ?_
 refine w_o (a := .b (x32.2 == 2)) ?_
 refine w_o (a := .b (x32.2 == 2)) ?_
 refine bif_e h (fun hc41 h => ?_) (fun hc41 h => ?_)
 refine w_o (a := .b true) (h := op_q (q_bool rfl hc41)) ?_
 refine w_met rfl rfl ?_
 obtain ⟨x33, hx33, h⟩ := bindE_e h
 refine w_callc (args' := []) (r := .b x33) (awake_sh fuel x33 hx33) rfl rfl rfl rfl (by dsimp only [aput, List.set]) ?_
 refine w_o (a := .b x33) ?_
 refine w_mv ?_
 exact end_b h
 refine w_o (a := .b false) (h := op_q (q_bool rfl hc41)) ?_
 refine w_po ?_
 refine w_o (a := .b false) ?_
 refine w_mv ?_
 exact end_b h
 refine w_o (a := .b false) (h := op_q (q_bool rfl hc40)) ?_
 refine w_po ?_
 refine w_po ?_
 refine w_o (a := .b false) ?_
 refine w_mv ?_
 refine w_po ?_
 refine w_o (a := .b false) ?_
 refine w_mv ?_
 exact end_b h
 refine w_o (a := .b false) (h := op_q (q_bool rfl hc39)) ?_
 refine w_po ?_
 refine w_po ?_
 refine w_po ?_
 refine w_o (a := .b false) ?_
 refine w_mv ?_
 refine w_po ?_
 refine w_po ?_
 refine w_o (a := .b false) ?_
 refine w_mv ?_
 refine w_po ?_
 refine w_o (a := .b false) ?_
 refine w_mv ?_
 exact end_b h
 refine w_o (a := .b false) (h := op_q (q_bool rfl hc38)) ?_
 refine w_po ?_
 refine w_po ?_
 refine w_o (a := .b false) ?_
 refine w_mv ?_
 refine w_po ?_
 refine w_po ?_
 refine w_po ?_
 refine w_o (a := .b false) ?_
 refine w_mv ?_
 refine w_po ?_
 refine w_po ?_
 refine w_o (a := .b false) ?_
 refine w_mv ?_
 refine w_po ?_
 refine w_o (a := .b false) ?_
 refine w_mv ?_
 exact end_b h
end Go.Ab

