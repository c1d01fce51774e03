/-
  schedule: Read.
-/
import Derived.Test.YtblibgbakbhlkaaGreatDoorZvSt
import Derived.Test.YtblibgbakbhlkaaGreatDoorZvPz
import Derived.Test.YtblibgbakbhlkaaGreatDoorZvW3
import Derived.Test.YtblibgbakbhlkaaGreatDoorZdAs
import Derived.Test.YtblibgbakbhlkaaGreatDoorZdQp
set_option linter.unusedSimpArgs false
set_option linter.unusedVariables false
namespace Go.Ab
open Go Go.RowKit Go.Fwd Go.Proofs
def F_mul64 (x : Int) (y : Int) : Option (Int × Int) :=
  (some ((IntKind.u64.wrap ((IntKind.u64.wrap ((IntKind.u64.wrap ((shrI .u64 x 32) * (shrI .u64 y 32))) + (shrI .u64 (IntKind.u64.wrap ((IntKind.u64.wrap ((shrI .u64 x 32) * (andI .u64 y 4294967295))) + (shrI .u64 (IntKind.u64.wrap ((andI .u64 x 4294967295) * (andI .u64 y 4294967295))) 32))) 32))) + (shrI .u64 (IntKind.u64.wrap ((andI .u64 (IntKind.u64.wrap ((IntKind.u64.wrap ((shrI .u64 x 32) * (andI .u64 y 4294967295))) + (shrI .u64 (IntKind.u64.wrap ((andI .u64 x 4294967295) * (andI .u64 y 4294967295))) 32))) 4294967295) + (IntKind.u64.wrap ((andI .u64 x 4294967295) * (shrI .u64 y 32))))) 32))), (IntKind.u64.wrap (x * y))))
theorem ent74 : Ent Tryz.prog 74 := enters_of Tryz.func74 (by kernel_rfl) rfl
set_option maxRecDepth 100000 in
set_option maxHeartbeats 4000000 in
theorem mul64_sh (x : Int) (y : Int) (r : (Int × Int)) (h : F_mul64 x y = some r) : Pure (ITP Tryz.prog) Tryz.prog 74 [.raw (.int .u64 x), .raw (.int .u64 y)] (.tup [.raw (.int .u64 r.1), .raw (.int .u64 r.2)]) := by
 obtain ⟨d, hd⟩ : ∃ d, Tryz.f74.body = some d := ⟨_, rfl⟩
 refine pure_of mix Tryz.func74 hd ent74 ?_
 cases hd
 unfold F_mul64 at h
 refine w_start (by dsimp only [abeginS, Tryz.f74, List.length_cons, List.length_nil, Nat.zero_add, Nat.reduceAdd, Nat.reduceSub, List.replicate, List.cons_append, List.nil_append]) (by dsimp only [St.empty]) ?_
 refine w_seq (w_region ?_)
 refine w_o (a := .raw (.int .u64 0)) ?_
 refine w_o (a := .raw (.int .u64 0)) ?_
 refine w_seq (w_region ?_)
 refine w_mv ?_
 refine w_o (a := .raw (.int .u64 (andI .u64 x 4294967295))) ?_
 refine w_mv ?_
 refine w_seq (w_region ?_)
 refine w_mv ?_
 refine w_o (a := .raw (.int .u64 (shrI .u64 x 32))) (h := op_q (q_shr (by decide) rfl rfl rfl)) ?_
 refine w_mv ?_
 refine w_seq (w_region ?_)
 refine w_mv ?_
 refine w_o (a := .raw (.int .u64 (andI .u64 y 4294967295))) ?_
 refine w_mv ?_
 refine w_seq (w_region ?_)
 refine w_mv ?_
 refine w_o (a := .raw (.int .u64 (shrI .u64 y 32))) (h := op_q (q_shr (by decide) rfl rfl rfl)) ?_
 refine w_mv ?_
 refine w_seq (w_region ?_)
 refine w_mv ?_
 refine w_mv ?_
 refine w_o (a := .raw (.int .u64 (IntKind.u64.wrap ((andI .u64 x 4294967295) * (andI .u64 y 4294967295))))) ?_
 refine w_mv ?_
 refine w_seq (w_region ?_)
 refine w_mv ?_
 refine w_mv ?_
 refine w_o (a := .raw (.int .u64 (IntKind.u64.wrap ((shrI .u64 x 32) * (andI .u64 y 4294967295))))) ?_
 refine w_mv ?_
 refine w_o (a := .raw (.int .u64 (shrI .u64 (IntKind.u64.wrap ((andI .u64 x 4294967295) * (andI .u64 y 4294967295))) 32))) (h := op_q (q_shr (by decide) rfl rfl rfl)) ?_
 refine w_o (a := .raw (.int .u64 (IntKind.u64.wrap ((IntKind.u64.wrap ((shrI .u64 x 32) * (andI .u64 y 4294967295))) + (shrI .u64 (IntKind.u64.wrap ((andI .u64 x 4294967295) * (andI .u64 y 4294967295))) 32))))) ?_
 refine w_mv ?_
 refine w_seq (w_region ?_)
 refine w_mv ?_
 refine w_o (a := .raw (.int .u64 (andI .u64 (IntKind.u64.wrap ((IntKind.u64.wrap ((shrI .u64 x 32) * (andI .u64 y 4294967295))) + (shrI .u64 (IntKind.u64.wrap ((andI .u64 x 4294967295) * (andI .u64 y 4294967295))) 32))) 4294967295))) ?_
 refine w_mv ?_
 refine w_seq (w_region ?_)
 refine w_mv ?_
 refine w_o (a := .raw (.int .u64 (shrI .u64 (IntKind.u64.wrap ((IntKind.u64.wrap ((shrI .u64 x 32) * (andI .u64 y 4294967295))) + (shrI .u64 (IntKind.u64.wrap ((andI .u64 x 4294967295) * (andI .u64 y 4294967295))) 32))) 32))) (h := op_q (q_shr (by decide) rfl rfl rfl)) ?_
 refine w_mv ?_
 refine w_seq (w_region ?_)
 refine w_mv ?_
 refine w_mv ?_
 refine w_mv ?_
 refine w_o (a := .raw (.int .u64 (IntKind.u64.wrap ((andI .u64 x 4294967295) * (shrI .u64 y 32))))) ?_
 refine w_o (a := .raw (.int .u64 (IntKind.u64.wrap ((andI .u64 (IntKind.u64.wrap ((IntKind.u64.wrap ((shrI .u64 x 32) * (andI .u64 y 4294967295))) + (shrI .u64 (IntKind.u64.wrap ((andI .u64 x 4294967295) * (andI .u64 y 4294967295))) 32))) 4294967295) + (IntKind.u64.wrap ((andI .u64 x 4294967295) * (shrI .u64 y 32))))))) ?_
 refine w_mv ?_
 refine w_seq (w_region ?_)
 refine w_mv ?_
 refine w_mv ?_
 refine w_o (a := .raw (.int .u64 (IntKind.u64.wrap ((shrI .u64 x 32) * (shrI .u64 y 32))))) ?_
 refine w_mv ?_
 refine w_o (a := .raw (.int .u64 (IntKind.u64.wrap ((IntKind.u64.wrap ((shrI .u64 x 32) * (shrI .u64 y 32))) + (shrI .u64 (IntKind.u64.wrap ((IntKind.u64.wrap ((shrI .u64 x 32) * (andI .u64 y 4294967295))) + (shrI .u64 (IntKind.u64.wrap ((andI .u64 x 4294967295) * (andI .u64 y 4294967295))) 32))) 32))))) ?_
 refine w_mv ?_
 refine w_o (a := .raw (.int .u64 (shrI .u64 (IntKind.u64.wrap ((andI .u64 (IntKind.u64.wrap ((IntKind.u64.wrap ((shrI .u64 x 32) * (andI .u64 y 4294967295))) + (shrI .u64 (IntKind.u64.wrap ((andI .u64 x 4294967295) * (andI .u64 y 4294967295))) 32))) 4294967295) + (IntKind.u64.wrap ((andI .u64 x 4294967295) * (shrI .u64 y 32))))) 32))) (h := op_q (q_shr (by decide) rfl rfl rfl)) ?_
 refine w_o (a := .raw (.int .u64 (IntKind.u64.wrap ((IntKind.u64.wrap ((IntKind.u64.wrap ((shrI .u64 x 32) * (shrI .u64 y 32))) + (shrI .u64 (IntKind.u64.wrap ((IntKind.u64.wrap ((shrI .u64 x 32) * (andI .u64 y 4294967295))) + (shrI .u64 (IntKind.u64.wrap ((andI .u64 x 4294967295) * (andI .u64 y 4294967295))) 32))) 32))) + (shrI .u64 (IntKind.u64.wrap ((andI .u64 (IntKind.u64.wrap ((IntKind.u64.wrap ((shrI .u64 x 32) * (andI .u64 y 4294967295))) + (shrI .u64 (IntKind.u64.wrap ((andI .u64 x 4294967295) * (andI .u64 y 4294967295))) 32))) 4294967295) + (IntKind.u64.wrap ((andI .u64 x 4294967295) * (shrI .u64 y 32))))) 32))))) ?_
 refine w_mv ?_
 refine w_seq (w_region ?_)
 refine w_mv ?_
 refine w_mv ?_
 refine w_o (a := .raw (.int .u64 (IntKind.u64.wrap (x * y)))) ?_
 refine w_mv ?_
 exact end_pureF (fun (r : (Int × Int)) => (.tup [.raw (.int .u64 r.1), .raw (.int .u64 r.2)] : AV)) h (a := .tup [.raw (.int .u64 (IntKind.u64.wrap ((IntKind.u64.wrap ((IntKind.u64.wrap ((shrI .u64 x 32) * (shrI .u64 y 32))) + (shrI .u64 (IntKind.u64.wrap ((IntKind.u64.wrap ((shrI .u64 x 32) * (andI .u64 y 4294967295))) + (shrI .u64 (IntKind.u64.wrap ((andI .u64 x 4294967295) * (andI .u64 y 4294967295))) 32))) 32))) + (shrI .u64 (IntKind.u64.wrap ((andI .u64 (IntKind.u64.wrap ((IntKind.u64.wrap ((shrI .u64 x 32) * (andI .u64 y 4294967295))) + (shrI .u64 (IntKind.u64.wrap ((andI .u64 x 4294967295) * (andI .u64 y 4294967295))) 32))) 4294967295) + (IntKind.u64.wrap ((andI .u64 x 4294967295) * (shrI .u64 y 32))))) 32)))), .raw (.int .u64 (IntKind.u64.wrap (x * y)))]) rfl (show okTrimL _ _ = true from (by kernel_rfl)) (show AV.tup (stripL _) = _ from congrArg AV.tup (stripL_cons rfl (stripL_cons rfl rfl)))
def F_bmul (x : Int) (y : Int) : Option (Int × Int) :=
  (bindE (F_mul64 x y) (fun x1 => (some (x1.1, x1.2))))
theorem ent45 : Ent Tryz.prog 45 := enters_of Tryz.func45 (by kernel_rfl) rfl
set_option maxRecDepth 100000 in
set_option maxHeartbeats 4000000 in
theorem bmul_sh (x : Int) (y : Int) (r : (Int × Int)) (h : F_bmul x y = some r) : Pure (ITP Tryz.prog) Tryz.prog 45 [.raw (.int .u64 x), .raw (.int .u64 y)] (.tup [.raw (.int .u64 r.1), .raw (.int .u64 r.2)]) := by
 obtain ⟨d, hd⟩ : ∃ d, Tryz.f45.body = some d := ⟨_, rfl⟩
 refine pure_of mix Tryz.func45 hd ent45 ?_
 cases hd
 unfold F_bmul at h
 refine w_start (by dsimp only [abeginS, Tryz.f45, List.length_cons, List.length_nil, Nat.zero_add, Nat.reduceAdd, Nat.reduceSub, List.replicate, List.cons_append, List.nil_append]) (by dsimp only [St.empty]) ?_
 refine w_seq (w_region ?_)
 refine w_o (a := .raw (.int .u64 0)) ?_
 refine w_o (a := .raw (.int .u64 0)) ?_
 refine w_seq ?_
 refine w_false rfl ?_
 refine w_seq (w_region ?_)
 refine w_mv ?_
 refine w_mv ?_
 obtain ⟨x1, hx1, h⟩ := bindE_e h
 refine w_callc (args' := [.raw (.int .u64 x), .raw (.int .u64 y)]) (r := .tup [.raw (.int .u64 x1.1), .raw (.int .u64 x1.2)]) (mul64_sh x y x1 hx1) rfl rfl (stripL_cons rfl (stripL_cons rfl rfl)) (by kernel_rfl) (by dsimp only [aput, List.set]) ?_
 refine w_mv ?_
 refine w_ex ?_
 refine w_ex ?_
 refine w_mv ?_
 refine w_mv ?_
 refine w_seq (w_region ?_)
 refine w_mv ?_
 refine w_mv ?_
 refine w_mv ?_
 refine w_mv ?_
 exact end_pureF (fun (r : (Int × Int)) => (.tup [.raw (.int .u64 r.1), .raw (.int .u64 r.2)] : AV)) h (a := .tup [.raw (.int .u64 x1.1), .raw (.int .u64 x1.2)]) rfl (show okTrimL _ _ = true from (by kernel_rfl)) (show AV.tup (stripL _) = _ from congrArg AV.tup (stripL_cons rfl (stripL_cons rfl rfl)))
def F_repeat_ (fuel : Nat) (l : (List Ev)) (n : Int) : Option (List Ev) :=
  (bif (decide (n < 0)) then none else (bindE (F_bmul (IntKind.u64.wrap (List.length l : Int)) (IntKind.u64.wrap n)) (fun x1 => (bif (decide (x1.1 > 0)) then none else (bif (decide (x1.2 > 9223372036854775807)) then none else (chk (-9223372036854775808 ≤ x1.2 ∧ x1.2 < 9223372036854775808) (chk (0 ≤ x1.2 ∧ ((2 : Nat) : Int) * x1.2 ≤ 281474976710656) (chk (0 + (Int.toNat x1.2) ≤ List.length (List.replicate (Int.toNat x1.2) (Ev.mk 0 0)) ∧ 0 < List.length (List.replicate (Int.toNat x1.2) (Ev.mk 0 0))) (cutE (τ := (List Ev)) (loopE (β := Int × (List Ev)) (fun s1 => (chk (List.length s1.2 = (Int.toNat x1.2)) (bif (decide (s1.1 < (((Int.toNat x1.2) : Nat) : Int))) then (chk (0 ≤ s1.1 ∧ s1.1 < (((Int.toNat x1.2) : Nat) : Int)) (chk (0 < s1.1 ∧ s1.1 ≤ (((Int.toNat x1.2) : Nat) : Int)) (chk ((Int.toNat s1.1) + ((Int.toNat x1.2) - Int.toNat s1.1) ≤ List.length s1.2 ∧ 0 < List.length s1.2 ∧ (Int.toNat s1.1) ≤ List.length s1.2) (chk (-9223372036854775808 ≤ (s1.1 + (((Nat.min (Int.toNat s1.1) ((Int.toNat x1.2) - Int.toNat s1.1)) : Nat) : Int)) ∧ (s1.1 + (((Nat.min (Int.toNat s1.1) ((Int.toNat x1.2) - Int.toNat s1.1)) : Nat) : Int)) < 9223372036854775808) (some (Sum.inl ((s1.1 + (((Nat.min (Int.toNat s1.1) ((Int.toNat x1.2) - Int.toNat s1.1)) : Nat) : Int)), (cpy s1.2 (Int.toNat s1.1) (List.take (Nat.min (Int.toNat s1.1) ((Int.toNat x1.2) - Int.toNat s1.1)) (List.take (Int.toNat s1.1) s1.2)))))))))) else (some (Sum.inr (Sum.inl (s1.2))))))) fuel ((((Nat.min (List.length l) (Int.toNat x1.2)) : Nat) : Int), (cpy (List.replicate (Int.toNat x1.2) (Ev.mk 0 0)) 0 (List.take (Nat.min (List.length l) (Int.toNat x1.2)) l)))) (fun j1 => (some j1)))))))))))
theorem ent10 : Ent Tryz.prog 10 := enters_of Tryz.func10 (by kernel_rfl) rfl
set_option maxRecDepth 100000 in
set_option maxHeartbeats 16000000 in
theorem repeat__sh (fuel : Nat) (l : (List Ev)) (n : Int) (r : (List Ev)) (h : F_repeat_ fuel l n = some r) : Pure (ITP Tryz.prog) Tryz.prog 10 [.list (List.length (l : List Ev)) (Enc.cellsL (l : List Ev)) .none, .raw (.int .i64 n)] (.list (List.length (r : List Ev)) (Enc.cellsL (r : List Ev)) .none) := by
 obtain ⟨d, hd⟩ : ∃ d, Tryz.f10.body = some d := ⟨_, rfl⟩
 refine pure_of mix Tryz.func10 hd ent10 ?_
 cases hd
 unfold F_repeat_ at h
 refine w_start (by dsimp only [abeginS, Tryz.f10, List.length_cons, List.length_nil, Nat.zero_add, Nat.reduceAdd, Nat.reduceSub, List.replicate, List.cons_append, List.nil_append]) (by dsimp only [St.empty]) ?_
 refine w_seq (w_region ?_)
 refine w_o (a := .list 0 [] .full) ?_
 refine w_seq ?_
 refine w_seq (w_region ?_)
 refine w_mv ?_
 refine w_o (a := .b (decide (n < 0))) ?_
 refine bif_e h (fun hc1 h => ?_) (fun hc1 h => ?_)
 refine w_condT hc1 rfl ?_
 refine w_region (k0 := 0) (id := 2) ?_
 cases h
 refine w_condF hc1 rfl ?_
 refine w_seq (w_region ?_)
 refine w_mv ?_
 refine w_o (a := .i (List.length l : Int)) ?_
 refine w_o (a := .raw (.int .u64 (IntKind.u64.wrap (List.length l : Int)))) ?_
 refine w_mv ?_
 refine w_o (a := .raw (.int .u64 (IntKind.u64.wrap n))) ?_
 obtain ⟨x1, hx1, h⟩ := bindE_e h
 refine w_callc (args' := [.raw (.int .u64 (IntKind.u64.wrap (List.length l : Int))), .raw (.int .u64 (IntKind.u64.wrap n))]) (r := .tup [.raw (.int .u64 x1.1), .raw (.int .u64 x1.2)]) (bmul_sh (IntKind.u64.wrap (List.length l : Int)) (IntKind.u64.wrap n) x1 hx1) rfl rfl (stripL_cons rfl (stripL_cons rfl rfl)) (by kernel_rfl) (by dsimp only [aput, List.set]) ?_
 refine w_mv ?_
 refine w_ex ?_
 refine w_ex ?_
 refine w_mv ?_
 refine w_mv ?_
 refine w_seq ?_
 refine w_seq (w_region ?_)
 refine w_mv ?_
 refine w_o (a := .b (decide (x1.1 > 0))) ?_
 refine bif_e h (fun hc2 h => ?_) (fun hc2 h => ?_)
 refine w_o (a := .b true) (h := op_q (q_bool rfl hc2)) ?_
 refine w_po ?_
 refine w_po ?_
 refine w_o (a := .b true) ?_
 refine w_true rfl ?_
 refine w_region (k0 := 0) (id := 5) ?_
 cases h
 refine w_o (a := .b false) (h := op_q (q_bool rfl hc2)) ?_
 refine w_met rfl rfl ?_
 refine w_mv ?_
 refine w_met rfl rfl ?_
 refine w_o (a := .b (decide (x1.2 > 9223372036854775807))) ?_
 refine w_o (a := .b (decide (x1.2 > 9223372036854775807))) ?_
 refine bif_e h (fun hc3 h => ?_) (fun hc3 h => ?_)
 refine w_condT hc3 rfl ?_
 refine w_region (k0 := 0) (id := 5) ?_
 cases h
 refine w_condF hc3 rfl ?_
 refine w_seq (w_region ?_)
 refine w_mv ?_
 obtain ⟨g1, h⟩ := chk_e h
 refine w_o (a := .i x1.2) (h := op_q (q_conv64 g1 rfl rfl rfl)) ?_
 obtain ⟨g2, h⟩ := chk_e h
 refine w_opB (a := .bsl 0 0 (Int.toNat x1.2) 2 true) (σ'' := ⟨[(27, (Enc.cellsL ((List.replicate (Int.toNat x1.2) (Ev.mk 0 0)) : List Ev)))], [], [], 0, false⟩) rfl rfl rfl (opB_makeM (α := Ev) (by' := 2) (Ev.mk 0 0) g2 rfl rfl rfl rfl rfl rfl rfl rfl rfl ⟨rfl, by decide⟩) (by dsimp only [aput, List.set]) rfl ?_
 refine w_mv ?_
 refine w_seq (w_region ?_)
 refine w_mv ?_
 refine w_mv ?_
 obtain ⟨g3, h⟩ := chk_e h
 refine w_opB (a := .i (((Nat.min (List.length l) (Int.toNat x1.2)) : Nat) : Int)) (σ'' := ⟨[(27, (Enc.cellsL ((cpy (List.replicate (Int.toNat x1.2) (Ev.mk 0 0)) 0 (List.take (Nat.min (List.length l) (Int.toNat x1.2)) l)) : List Ev)))], [], [], 0, false⟩) rfl rfl rfl (opB_copy0 (α := Ev) (l := (List.replicate (Int.toNat x1.2) (Ev.mk 0 0))) (r := l) (o1 := 0) g3 (Nat.zero_mul _).symm rfl rfl rfl rfl rfl rfl rfl rfl rfl (cp_list (r := l)) rfl) (by dsimp only [aput, List.set]) rfl ?_
 refine w_mv ?_
 refine w_cutF h [0, 1, 2, 3, 4, 5, 6, 7, 8, 9, 10, 11, 12, 13, 14, 15, 16, 17, 18, 19, 20, 21, 22, 23, 24, 25, 26, 27, 28, 29, 30, 31, 32, 33, 34, 35, 36, 37, 38, 39, 40, 41, 42, 43, 44, 45, 46, 47] (fun j1 => [(7, .list (List.length (j1 : List Ev)) (Enc.cellsL (j1 : List Ev)) .none)]) (fun j1 => ⟨[], [], [], 0, false⟩) ?_ ?_
 intro or1 h hr1
 refine w_block ?_
 refine w_loopF h [0, 1, 2, 3, 4, 5, 6, 8, 9, 10, 11, 12, 13, 14, 15, 16, 17, 18, 19, 20, 21, 22, 23, 24, 25, 26, 27, 28, 29, 30, 31, 32, 33, 34, 35, 36, 37, 38, 39, 40, 41, 42, 43, 44, 45, 46, 47] (fun s1 => [(8, .i s1.1)]) (fun s1 => ⟨[(27, (Enc.cellsL (s1.2 : List Ev)))], [], [], 0, false⟩) ?_ ?_
 exact wm_of (bl 48 384) (by kernel_rfl) (by kernel_rfl)
 intro s1 p1 h
 refine w_start (by dsimp only [setAll, topAll, List.foldl, List.set]) rfl ?_
 obtain ⟨g4, h⟩ := chk_e h
 refine w_seq ?_
 refine w_seq (w_region ?_)
 refine w_mv ?_
 refine w_mv ?_
 refine w_o (a := .i (((Int.toNat x1.2) : Nat) : Int)) ?_
 refine w_o (a := .b (decide (s1.1 < (((Int.toNat x1.2) : Nat) : Int)))) ?_
 refine bif_e h (fun hc4 h => ?_) (fun hc4 h => ?_)
 refine w_condT hc4 rfl ?_
 refine w_block ?_
 obtain ⟨g5, h⟩ := chk_e h
 obtain ⟨g6, h⟩ := chk_e h
 obtain ⟨g7, h⟩ := chk_e h
 obtain ⟨g8, h⟩ := chk_e h
 refine w_regAny (id := 9) [.top, .top, .top, .top, .top, .top, .top, .bsl 0 0 (Int.toNat x1.2) 2 true, .i (s1.1 + (((Nat.min (Int.toNat s1.1) ((Int.toNat x1.2) - Int.toNat s1.1)) : Nat) : Int)), .top, .top, .top, .top, .top, .top, .top, .top, .top, .top, .top, .top, .top, .top, .top, .top, .top, .top, .top, .top, .top, .top, .top, .top, .top, .i s1.1, .bsl 0 0 (Int.toNat x1.2) 2 true, .i (((Int.toNat x1.2) : Nat) : Int), .b (decide (s1.1 < (((Int.toNat x1.2) : Nat) : Int))), .i s1.1, .bsl 0 0 (Int.toNat x1.2) 2 true, .i s1.1, .bsl 0 (Int.toNat s1.1 * 2) ((Int.toNat x1.2) - Int.toNat s1.1) 2 true, .bsl 0 0 (Int.toNat x1.2) 2 true, .i s1.1, .bsl 0 0 (Int.toNat s1.1) 2 (true && (Int.toNat s1.1 == (Int.toNat x1.2))), .i (((Nat.min (Int.toNat s1.1) ((Int.toNat x1.2) - Int.toNat s1.1)) : Nat) : Int), .i (s1.1 + (((Nat.min (Int.toNat s1.1) ((Int.toNat x1.2) - Int.toNat s1.1)) : Nat) : Int)), .top] ⟨[(27, (Enc.cellsL ((cpy s1.2 (Int.toNat s1.1) (List.take (Nat.min (Int.toNat s1.1) ((Int.toNat x1.2) - Int.toNat s1.1)) (List.take (Int.toNat s1.1) s1.2))) : List Ev)))], [], [], 0, false⟩ ?_ ?_
 refine aany_intro (fun ops hops FIN hFIN S0 hS0 => ?_)
 let v41 : AV := .bsl 0 (Int.toNat s1.1 * 2) ((Int.toNat x1.2) - Int.toNat s1.1) 2 true
 let v44 : AV := .bsl 0 0 (Int.toNat s1.1) 2 (true && (Int.toNat s1.1 == (Int.toNat x1.2)))
 let v45 : AV := .i (((Nat.min (Int.toNat s1.1) ((Int.toNat x1.2) - Int.toNat s1.1)) : Nat) : Int)
 let v46 : AV := .i (s1.1 + (((Nat.min (Int.toNat s1.1) ((Int.toNat x1.2) - Int.toNat s1.1)) : Nat) : Int))
 let G0 : St := ⟨[(27, (Enc.cellsL (s1.2 : List Ev)))], [], [], 0, false⟩
 let G1 : St := ⟨[(27, (Enc.cellsL ((cpy s1.2 (Int.toNat s1.1) (List.take (Nat.min (Int.toNat s1.1) ((Int.toNat x1.2) - Int.toNat s1.1)) (List.take (Int.toNat s1.1) s1.2))) : List Ev)))], [], [], 0, false⟩
 obtain ⟨ps, hps⟩ : ∃ ps : List (Option (Nat × AV)), ps = [some (38, .i s1.1), some (39, .bsl 0 0 (Int.toNat x1.2) 2 true), some (40, .i s1.1), some (41, v41), some (42, .bsl 0 0 (Int.toNat x1.2) 2 true), some (43, .i s1.1), some (44, v44), some (45, v45), some (46, v46), some (8, .i (s1.1 + (((Nat.min (Int.toNat s1.1) ((Int.toNat x1.2) - Int.toNat s1.1)) : Nat) : Int)))] := ⟨_, rfl⟩
 let N : Nat → Nat → St → Prop := fun k m σ => aN (ITP Tryz.prog) Tryz.prog none ops FIN S0 ps 10 k m σ
 have n53 : N 0 1023 G1 := by
  exact aN_0 hops hS0 hps (hFIN _ _ ⟨rfl, rfl⟩)
 have n52 : N 1 511 G1 := by
  refine aN_1 hops hS0 hps 9 ?_
  refine w_mv ?_
  exact aN_of n53 hS0 hps
 have n51 : N 2 255 G1 := by
  refine aN_1 hops hS0 hps 8 ?_
  refine w_o (a := v46) (h := op_q (q_add rfl rfl rfl rfl g8.1 g8.2)) ?_
  exact aN_of n52 hS0 hps
 have n50 : N 3 254 G1 := by
  refine aN_1 hops hS0 hps 0 ?_
  refine w_mv ?_
  exact aN_of n51 hS0 hps
 have n49 : N 3 127 G0 := by
  refine aN_1 hops hS0 hps 7 ?_
  refine w_opB (a := v45) (σ'' := G1) rfl rfl rfl (opB_copy0 (α := Ev) (l := s1.2) (r := (List.take (Int.toNat s1.1) s1.2)) (o1 := (Int.toNat s1.1)) ⟨g7.1, g7.2.1⟩ rfl rfl rfl rfl rfl rfl rfl rfl rfl rfl (cp_box0 (l := s1.2) rfl g7.2.2) (List.length_take_of_le g7.2.2)) (by dsimp only [aput, List.set]) rfl ?_
  exact aN_of n51 hS0 hps
 have n48 : N 4 126 G0 := by
  refine aN_2 hops hS0 hps 0 7 ?_ ?_
  refine w_mv ?_
  exact aN_of n49 hS0 hps
  refine w_opB (a := v45) (σ'' := G1) rfl rfl rfl (opB_copy0 (α := Ev) (l := s1.2) (r := (List.take (Int.toNat s1.1) s1.2)) (o1 := (Int.toNat s1.1)) ⟨g7.1, g7.2.1⟩ rfl rfl rfl rfl rfl rfl rfl rfl rfl rfl (cp_box0 (l := s1.2) rfl g7.2.2) (List.length_take_of_le g7.2.2)) (by dsimp only [aput, List.set]) rfl ?_
  exact aN_of n50 hS0 hps
 have n47 : N 4 119 G0 := by
  refine aN_1 hops hS0 hps 3 ?_
  refine w_o (a := v41) (h := op_q (q_bslL (α := Ev) g5 rfl rfl rfl rfl rfl)) ?_
  exact aN_of n49 hS0 hps
 have n46 : N 4 63 G0 := by
  refine aN_1 hops hS0 hps 6 ?_
  refine w_o (a := v44) (h := op_q (q_bslH (α := Ev) g6 rfl rfl rfl rfl rfl)) ?_
  exact aN_of n49 hS0 hps
 have n45 : N 5 118 G0 := by
  refine aN_2 hops hS0 hps 0 3 ?_ ?_
  refine w_mv ?_
  exact aN_of n47 hS0 hps
  refine w_o (a := v41) (h := op_q (q_bslL (α := Ev) g5 rfl rfl rfl rfl rfl)) ?_
  exact aN_of n48 hS0 hps
 have n44 : N 5 62 G0 := by
  refine aN_2 hops hS0 hps 0 6 ?_ ?_
  refine w_mv ?_
  exact aN_of n46 hS0 hps
  refine w_o (a := v44) (h := op_q (q_bslH (α := Ev) g6 rfl rfl rfl rfl rfl)) ?_
  exact aN_of n48 hS0 hps
 have n43 : N 5 117 G0 := by
  refine aN_1 hops hS0 hps 1 ?_
  refine w_mv ?_
  exact aN_of n47 hS0 hps
 have n42 : N 5 115 G0 := by
  refine aN_1 hops hS0 hps 2 ?_
  refine w_mv ?_
  exact aN_of n47 hS0 hps
 have n41 : N 5 55 G0 := by
  refine aN_2 hops hS0 hps 3 6 ?_ ?_
  refine w_o (a := v41) (h := op_q (q_bslL (α := Ev) g5 rfl rfl rfl rfl rfl)) ?_
  exact aN_of n46 hS0 hps
  refine w_o (a := v44) (h := op_q (q_bslH (α := Ev) g6 rfl rfl rfl rfl rfl)) ?_
  exact aN_of n47 hS0 hps
 have n40 : N 5 47 G0 := by
  refine aN_1 hops hS0 hps 4 ?_
  refine w_mv ?_
  exact aN_of n46 hS0 hps
 have n39 : N 5 31 G0 := by
  refine aN_1 hops hS0 hps 5 ?_
  refine w_mv ?_
  exact aN_of n46 hS0 hps
 have n38 : N 6 116 G0 := by
  refine aN_2 hops hS0 hps 0 1 ?_ ?_
  refine w_mv ?_
  exact aN_of n43 hS0 hps
  refine w_mv ?_
  exact aN_of n45 hS0 hps
 have n37 : N 6 114 G0 := by
  refine aN_2 hops hS0 hps 0 2 ?_ ?_
  refine w_mv ?_
  exact aN_of n42 hS0 hps
  refine w_mv ?_
  exact aN_of n45 hS0 hps
 have n36 : N 6 54 G0 := by
  refine aN_3 hops hS0 hps 0 3 6 ?_ ?_ ?_
  refine w_mv ?_
  exact aN_of n41 hS0 hps
  refine w_o (a := v41) (h := op_q (q_bslL (α := Ev) g5 rfl rfl rfl rfl rfl)) ?_
  exact aN_of n44 hS0 hps
  refine w_o (a := v44) (h := op_q (q_bslH (α := Ev) g6 rfl rfl rfl rfl rfl)) ?_
  exact aN_of n45 hS0 hps
 have n35 : N 6 46 G0 := by
  refine aN_2 hops hS0 hps 0 4 ?_ ?_
  refine w_mv ?_
  exact aN_of n40 hS0 hps
  refine w_mv ?_
  exact aN_of n44 hS0 hps
 have n34 : N 6 30 G0 := by
  refine aN_2 hops hS0 hps 0 5 ?_ ?_
  refine w_mv ?_
  exact aN_of n39 hS0 hps
  refine w_mv ?_
  exact aN_of n44 hS0 hps
 have n33 : N 6 113 G0 := by
  refine aN_2 hops hS0 hps 1 2 ?_ ?_
  refine w_mv ?_
  exact aN_of n42 hS0 hps
  refine w_mv ?_
  exact aN_of n43 hS0 hps
 have n32 : N 6 53 G0 := by
  refine aN_2 hops hS0 hps 1 6 ?_ ?_
  refine w_mv ?_
  exact aN_of n41 hS0 hps
  refine w_o (a := v44) (h := op_q (q_bslH (α := Ev) g6 rfl rfl rfl rfl rfl)) ?_
  exact aN_of n43 hS0 hps
 have n31 : N 6 51 G0 := by
  refine aN_2 hops hS0 hps 2 6 ?_ ?_
  refine w_mv ?_
  exact aN_of n41 hS0 hps
  refine w_o (a := v44) (h := op_q (q_bslH (α := Ev) g6 rfl rfl rfl rfl rfl)) ?_
  exact aN_of n42 hS0 hps
 have n30 : N 6 39 G0 := by
  refine aN_2 hops hS0 hps 3 4 ?_ ?_
  refine w_o (a := v41) (h := op_q (q_bslL (α := Ev) g5 rfl rfl rfl rfl rfl)) ?_
  exact aN_of n40 hS0 hps
  refine w_mv ?_
  exact aN_of n41 hS0 hps
 have n29 : N 6 23 G0 := by
  refine aN_2 hops hS0 hps 3 5 ?_ ?_
  refine w_o (a := v41) (h := op_q (q_bslL (α := Ev) g5 rfl rfl rfl rfl rfl)) ?_
  exact aN_of n39 hS0 hps
  refine w_mv ?_
  exact aN_of n41 hS0 hps
 have n28 : N 6 15 G0 := by
  refine aN_2 hops hS0 hps 4 5 ?_ ?_
  refine w_mv ?_
  exact aN_of n39 hS0 hps
  refine w_mv ?_
  exact aN_of n40 hS0 hps
 have n27 : N 7 112 G0 := by
  refine aN_3 hops hS0 hps 0 1 2 ?_ ?_ ?_
  refine w_mv ?_
  exact aN_of n33 hS0 hps
  refine w_mv ?_
  exact aN_of n37 hS0 hps
  refine w_mv ?_
  exact aN_of n38 hS0 hps
 have n26 : N 7 52 G0 := by
  refine aN_3 hops hS0 hps 0 1 6 ?_ ?_ ?_
  refine w_mv ?_
  exact aN_of n32 hS0 hps
  refine w_mv ?_
  exact aN_of n36 hS0 hps
  refine w_o (a := v44) (h := op_q (q_bslH (α := Ev) g6 rfl rfl rfl rfl rfl)) ?_
  exact aN_of n38 hS0 hps
 have n25 : N 7 50 G0 := by
  refine aN_3 hops hS0 hps 0 2 6 ?_ ?_ ?_
  refine w_mv ?_
  exact aN_of n31 hS0 hps
  refine w_mv ?_
  exact aN_of n36 hS0 hps
  refine w_o (a := v44) (h := op_q (q_bslH (α := Ev) g6 rfl rfl rfl rfl rfl)) ?_
  exact aN_of n37 hS0 hps
 have n24 : N 7 38 G0 := by
  refine aN_3 hops hS0 hps 0 3 4 ?_ ?_ ?_
  refine w_mv ?_
  exact aN_of n30 hS0 hps
  refine w_o (a := v41) (h := op_q (q_bslL (α := Ev) g5 rfl rfl rfl rfl rfl)) ?_
  exact aN_of n35 hS0 hps
  refine w_mv ?_
  exact aN_of n36 hS0 hps
 have n23 : N 7 22 G0 := by
  refine aN_3 hops hS0 hps 0 3 5 ?_ ?_ ?_
  refine w_mv ?_
  exact aN_of n29 hS0 hps
  refine w_o (a := v41) (h := op_q (q_bslL (α := Ev) g5 rfl rfl rfl rfl rfl)) ?_
  exact aN_of n34 hS0 hps
  refine w_mv ?_
  exact aN_of n36 hS0 hps
 have n22 : N 7 14 G0 := by
  refine aN_3 hops hS0 hps 0 4 5 ?_ ?_ ?_
  refine w_mv ?_
  exact aN_of n28 hS0 hps
  refine w_mv ?_
  exact aN_of n34 hS0 hps
  refine w_mv ?_
  exact aN_of n35 hS0 hps
 have n21 : N 7 49 G0 := by
  refine aN_3 hops hS0 hps 1 2 6 ?_ ?_ ?_
  refine w_mv ?_
  exact aN_of n31 hS0 hps
  refine w_mv ?_
  exact aN_of n32 hS0 hps
  refine w_o (a := v44) (h := op_q (q_bslH (α := Ev) g6 rfl rfl rfl rfl rfl)) ?_
  exact aN_of n33 hS0 hps
 have n20 : N 7 37 G0 := by
  refine aN_2 hops hS0 hps 1 4 ?_ ?_
  refine w_mv ?_
  exact aN_of n30 hS0 hps
  refine w_mv ?_
  exact aN_of n32 hS0 hps
 have n19 : N 7 21 G0 := by
  refine aN_2 hops hS0 hps 1 5 ?_ ?_
  refine w_mv ?_
  exact aN_of n29 hS0 hps
  refine w_mv ?_
  exact aN_of n32 hS0 hps
 have n18 : N 7 35 G0 := by
  refine aN_2 hops hS0 hps 2 4 ?_ ?_
  refine w_mv ?_
  exact aN_of n30 hS0 hps
  refine w_mv ?_
  exact aN_of n31 hS0 hps
 have n17 : N 7 19 G0 := by
  refine aN_2 hops hS0 hps 2 5 ?_ ?_
  refine w_mv ?_
  exact aN_of n29 hS0 hps
  refine w_mv ?_
  exact aN_of n31 hS0 hps
 have n16 : N 7 7 G0 := by
  refine aN_3 hops hS0 hps 3 4 5 ?_ ?_ ?_
  refine w_o (a := v41) (h := op_q (q_bslL (α := Ev) g5 rfl rfl rfl rfl rfl)) ?_
  exact aN_of n28 hS0 hps
  refine w_mv ?_
  exact aN_of n29 hS0 hps
  refine w_mv ?_
  exact aN_of n30 hS0 hps
 have n15 : N 8 48 G0 := by
  refine aN_n hops hS0 hps [0, 1, 2, 6] (all_cons (aopAt_l hops rfl ?_) (all_cons (aopAt_l hops rfl ?_) (all_cons (aopAt_l hops rfl ?_) (all_cons (aopAt_l hops rfl ?_) all_nil))))
  refine w_mv ?_
  exact aN_of n21 hS0 hps
  refine w_mv ?_
  exact aN_of n25 hS0 hps
  refine w_mv ?_
  exact aN_of n26 hS0 hps
  refine w_o (a := v44) (h := op_q (q_bslH (α := Ev) g6 rfl rfl rfl rfl rfl)) ?_
  exact aN_of n27 hS0 hps
 have n14 : N 8 36 G0 := by
  refine aN_3 hops hS0 hps 0 1 4 ?_ ?_ ?_
  refine w_mv ?_
  exact aN_of n20 hS0 hps
  refine w_mv ?_
  exact aN_of n24 hS0 hps
  refine w_mv ?_
  exact aN_of n26 hS0 hps
 have n13 : N 8 20 G0 := by
  refine aN_3 hops hS0 hps 0 1 5 ?_ ?_ ?_
  refine w_mv ?_
  exact aN_of n19 hS0 hps
  refine w_mv ?_
  exact aN_of n23 hS0 hps
  refine w_mv ?_
  exact aN_of n26 hS0 hps
 have n12 : N 8 34 G0 := by
  refine aN_3 hops hS0 hps 0 2 4 ?_ ?_ ?_
  refine w_mv ?_
  exact aN_of n18 hS0 hps
  refine w_mv ?_
  exact aN_of n24 hS0 hps
  refine w_mv ?_
  exact aN_of n25 hS0 hps
 have n11 : N 8 18 G0 := by
  refine aN_3 hops hS0 hps 0 2 5 ?_ ?_ ?_
  refine w_mv ?_
  exact aN_of n17 hS0 hps
  refine w_mv ?_
  exact aN_of n23 hS0 hps
  refine w_mv ?_
  exact aN_of n25 hS0 hps
 have n10 : N 8 6 G0 := by
  refine aN_n hops hS0 hps [0, 3, 4, 5] (all_cons (aopAt_l hops rfl ?_) (all_cons (aopAt_l hops rfl ?_) (all_cons (aopAt_l hops rfl ?_) (all_cons (aopAt_l hops rfl ?_) all_nil))))
  refine w_mv ?_
  exact aN_of n16 hS0 hps
  refine w_o (a := v41) (h := op_q (q_bslL (α := Ev) g5 rfl rfl rfl rfl rfl)) ?_
  exact aN_of n22 hS0 hps
  refine w_mv ?_
  exact aN_of n23 hS0 hps
  refine w_mv ?_
  exact aN_of n24 hS0 hps
 have n9 : N 8 33 G0 := by
  refine aN_3 hops hS0 hps 1 2 4 ?_ ?_ ?_
  refine w_mv ?_
  exact aN_of n18 hS0 hps
  refine w_mv ?_
  exact aN_of n20 hS0 hps
  refine w_mv ?_
  exact aN_of n21 hS0 hps
 have n8 : N 8 17 G0 := by
  refine aN_3 hops hS0 hps 1 2 5 ?_ ?_ ?_
  refine w_mv ?_
  exact aN_of n17 hS0 hps
  refine w_mv ?_
  exact aN_of n19 hS0 hps
  refine w_mv ?_
  exact aN_of n21 hS0 hps
 have n7 : N 8 5 G0 := by
  refine aN_3 hops hS0 hps 1 4 5 ?_ ?_ ?_
  refine w_mv ?_
  exact aN_of n16 hS0 hps
  refine w_mv ?_
  exact aN_of n19 hS0 hps
  refine w_mv ?_
  exact aN_of n20 hS0 hps
 have n6 : N 8 3 G0 := by
  refine aN_3 hops hS0 hps 2 4 5 ?_ ?_ ?_
  refine w_mv ?_
  exact aN_of n16 hS0 hps
  refine w_mv ?_
  exact aN_of n17 hS0 hps
  refine w_mv ?_
  exact aN_of n18 hS0 hps
 have n5 : N 9 32 G0 := by
  refine aN_n hops hS0 hps [0, 1, 2, 4] (all_cons (aopAt_l hops rfl ?_) (all_cons (aopAt_l hops rfl ?_) (all_cons (aopAt_l hops rfl ?_) (all_cons (aopAt_l hops rfl ?_) all_nil))))
  refine w_mv ?_
  exact aN_of n9 hS0 hps
  refine w_mv ?_
  exact aN_of n12 hS0 hps
  refine w_mv ?_
  exact aN_of n14 hS0 hps
  refine w_mv ?_
  exact aN_of n15 hS0 hps
 have n4 : N 9 16 G0 := by
  refine aN_n hops hS0 hps [0, 1, 2, 5] (all_cons (aopAt_l hops rfl ?_) (all_cons (aopAt_l hops rfl ?_) (all_cons (aopAt_l hops rfl ?_) (all_cons (aopAt_l hops rfl ?_) all_nil))))
  refine w_mv ?_
  exact aN_of n8 hS0 hps
  refine w_mv ?_
  exact aN_of n11 hS0 hps
  refine w_mv ?_
  exact aN_of n13 hS0 hps
  refine w_mv ?_
  exact aN_of n15 hS0 hps
 have n3 : N 9 4 G0 := by
  refine aN_n hops hS0 hps [0, 1, 4, 5] (all_cons (aopAt_l hops rfl ?_) (all_cons (aopAt_l hops rfl ?_) (all_cons (aopAt_l hops rfl ?_) (all_cons (aopAt_l hops rfl ?_) all_nil))))
  refine w_mv ?_
  exact aN_of n7 hS0 hps
  refine w_mv ?_
  exact aN_of n10 hS0 hps
  refine w_mv ?_
  exact aN_of n13 hS0 hps
  refine w_mv ?_
  exact aN_of n14 hS0 hps
 have n2 : N 9 2 G0 := by
  refine aN_n hops hS0 hps [0, 2, 4, 5] (all_cons (aopAt_l hops rfl ?_) (all_cons (aopAt_l hops rfl ?_) (all_cons (aopAt_l hops rfl ?_) (all_cons (aopAt_l hops rfl ?_) all_nil))))
  refine w_mv ?_
  exact aN_of n6 hS0 hps
  refine w_mv ?_
  exact aN_of n10 hS0 hps
  refine w_mv ?_
  exact aN_of n11 hS0 hps
  refine w_mv ?_
  exact aN_of n12 hS0 hps
 have n1 : N 9 1 G0 := by
  refine aN_n hops hS0 hps [1, 2, 4, 5] (all_cons (aopAt_l hops rfl ?_) (all_cons (aopAt_l hops rfl ?_) (all_cons (aopAt_l hops rfl ?_) (all_cons (aopAt_l hops rfl ?_) all_nil))))
  refine w_mv ?_
  exact aN_of n6 hS0 hps
  refine w_mv ?_
  exact aN_of n7 hS0 hps
  refine w_mv ?_
  exact aN_of n8 hS0 hps
  refine w_mv ?_
  exact aN_of n9 hS0 hps
 have n0 : N 10 0 G0 := by
  refine aN_n hops hS0 hps [0, 1, 2, 4, 5] (all_cons (aopAt_l hops rfl ?_) (all_cons (aopAt_l hops rfl ?_) (all_cons (aopAt_l hops rfl ?_) (all_cons (aopAt_l hops rfl ?_) (all_cons (aopAt_l hops rfl ?_) all_nil)))))
  refine w_mv ?_
  exact aN_of n1 hS0 hps
  refine w_mv ?_
  exact aN_of n2 hS0 hps
  refine w_mv ?_
  exact aN_of n3 hS0 hps
  refine w_mv ?_
  exact aN_of n4 hS0 hps
  refine w_mv ?_
  exact aN_of n5 hS0 hps
 exact aN_start n0 hps
 refine loop_next (p := p1) ((s1.1 + (((Nat.min (Int.toNat s1.1) ((Int.toNat x1.2) - Int.toNat s1.1)) : Nat) : Int)), (cpy s1.2 (Int.toNat s1.1) (List.take (Nat.min (Int.toNat s1.1) ((Int.toNat x1.2) - Int.toNat s1.1)) (List.take (Int.toNat s1.1) s1.2)))) h ?_
 exact wm_of (bl 48 384) (by kernel_rfl) (by kernel_rfl)
 refine w_condF hc4 rfl ?_
 refine loop_exit h (fun h => ?_)
 refine cut_done (o := or1) (s1.2) h ?_
 exact wm_keep (bl 48 128) 0 [] [] 1 (Nat.le_refl _) rfl (by dsimp only [setAll, topAll, List.foldl, List.set]; exact (fgK_f (fgK_f (fgK_f (fgK_f (fgK_f (fgK_f (fgK_f (fgK_t (kz_bsl (α := Ev) (t := 27) (l := s1.2) g4 rfl rfl) (fgK_f (fgK_f (fgK_f (fgK_f (fgK_f (fgK_f (fgK_f (fgK_f (fgK_f (fgK_f (fgK_f (fgK_f (fgK_f (fgK_f (fgK_f (fgK_f (fgK_f (fgK_f (fgK_f (fgK_f (fgK_f (fgK_f (fgK_f (fgK_f (fgK_f (fgK_f (fgK_f (fgK_f (fgK_f (fgK_f (fgK_f (fgK_f (fgK_f (fgK_f (fgK_f (fgK_f (fgK_f (fgK_f (fgK_f (fgK_f fgK_nil))))))))))))))))))))))))))))))))))))))))))))))))) (keep_of keep_nil rfl)
 intro j1 h
 refine w_start (by dsimp only [setAll, topAll, List.foldl, List.set]) rfl ?_
 refine w_seq (w_region ?_)
 refine w_mv ?_
 refine w_mv ?_
 exact end_pureF (fun (r : (List Ev)) => (.list (List.length (r : List Ev)) (Enc.cellsL (r : List Ev)) .none : AV)) h (a := .list (List.length (j1 : List Ev)) (Enc.cellsL (j1 : List Ev)) .none) rfl (okTrim_l (Enc.cloL _)) (strip_l (Enc.cloL _))
def F_part (fuel : Nat) (s : (List UInt8)) : Option ((List Ev) × Int) :=
  (cutE (τ := Unit) (letE (Lib.hasPrefix s ([34] : List UInt8)) (fun x1 => (bif x1 then (bindE (F_unquote fuel s) (fun x2 => (bif (x2.2.2 != 0) then (some (Sum.inr (([] : (List Ev)), 0))) else (bif (decide (x2.2.1 > (List.length s : Int))) then (some (Sum.inr (([] : (List Ev)), 0))) else (bindE (F_quote fuel x2.1) (fun x3 => (chk (0 ≤ 0 ∧ 0 ≤ x2.2.1 ∧ x2.2.1 ≤ (List.length s : Int)) (letE (sub s 0 x2.2.1) (fun x4 => (bif (!(x3 == x4)) then (some (Sum.inr (([] : (List Ev)), 0))) else (cutE (τ := (List Ev)) (loopE (β := (List Ev) × Int) (fun s1 => (bif (decide (s1.2 < (List.length x2.1 : Int))) then (chk (0 ≤ s1.2 ∧ s1.2 < (List.length x2.1 : Int)) (letE (ix x2.1 s1.2) (fun x5 => (chk ((List.length s1.1 + List.length [(Ev.mk 1 (((x5).toNat : Nat) : Int))]) * 2 ≤ 140737488355328) (chk (-9223372036854775808 ≤ (s1.2 + 1) ∧ (s1.2 + 1) < 9223372036854775808) (some (Sum.inl ((s1.1 ++ [(Ev.mk 1 (((x5).toNat : Nat) : Int))]), (s1.2 + 1))))))))) else (some (Sum.inr (Sum.inl (s1.1)))))) fuel (([] : (List Ev)), 0)) (fun j2 => (some (Sum.inr (j2, x2.2.1))))))))))))))) else (some (Sum.inl ()))))) (fun j1 => (chk (List.length s < 4294967281) (letE (Lib.cut s ([32] : List UInt8)) (fun x6 => (bif (x6.1 == ([101, 111, 102] : List UInt8)) then (some ([(Ev.mk 3 0)], (List.length x6.1 : Int))) else (letE (Lib.trimPrefix x6.1 ([116] : List UInt8), Lib.hasPrefix x6.1 ([116] : List UInt8)) (fun x7 => (bif (atoiOk x7.1) then (chk (List.length x7.1 ≤ 281474976710656) (letE (atoiP x7.1) (fun x8 => (bif (!x7.2) then (some (([] : (List Ev)), 0)) else (bif (decide (x8 < 1)) then (some (([] : (List Ev)), 0)) else (bif (decide (x8 > 4096)) then (some (([] : (List Ev)), 0)) else (chk (-9223372036854775808 ≤ x8 ∧ x8 < 9223372036854775808) (letE (Lib.itoa x8) (fun x9 => (bif (!(x9 == x7.1)) then (some (([] : (List Ev)), 0)) else (bindE (F_repeat_ fuel [(Ev.mk 2 0)] x8) (fun x10 => (some (x10, (List.length x6.1 : Int))))))))))))))) else (chk (List.length x7.1 ≤ 281474976710656) (letE (atoiP x7.1) (fun x11 => (bif (!x7.2) then (some (([] : (List Ev)), 0)) else (some (([] : (List Ev)), 0)))))))))))))))
theorem ent63 : Ent Tryz.prog 63 := enters_of Tryz.func63 (by kernel_rfl) rfl
set_option maxRecDepth 100000 in
set_option maxHeartbeats 4000000 in
theorem part_sh (fuel : Nat) (s : (List UInt8)) (r : ((List Ev) × Int)) (h : F_part fuel s = some r) : Pure (ITP Tryz.prog) Tryz.prog 63 [.raw (.string (bs s))] (.tup [.list (List.length (r.1 : List Ev)) (Enc.cellsL (r.1 : List Ev)) .none, .raw (.int .i64 r.2)]) := by
 obtain ⟨d, hd⟩ : ∃ d, Tryz.f63.body = some d := ⟨_, rfl⟩
 refine pure_of mix Tryz.func63 hd ent63 ?_
 cases hd
 unfold F_part at h
 refine w_start (by dsimp only [abeginS, Tryz.f63, List.length_cons, List.length_nil, Nat.zero_add, Nat.reduceAdd, Nat.reduceSub, List.replicate, List.cons_append, List.nil_append]) (by dsimp only [St.empty]) ?_
 refine w_seq (w_region ?_)
 refine w_o (a := .list 0 [] .full) ?_
 refine w_o (a := .i 0) ?_
 refine w_seq (w_region ?_)
 refine w_o (a := .list 0 [] .full) ?_
 refine w_cutF h [1, 2, 3, 4, 5, 6, 7, 8, 9, 10, 11, 12, 13, 14, 15, 16, 17, 18, 19, 20, 21, 22, 23, 24, 25, 26, 27, 28, 29, 30, 31, 32, 33, 34, 35, 36, 37, 38, 39, 40, 41, 42, 43, 44, 45, 46, 47, 48, 49, 50, 51, 52, 53, 54, 55, 56, 57, 58, 59, 60, 61, 62, 63, 64, 65, 66, 67, 68, 69, 70, 71, 72, 73, 74, 75, 76, 77, 78, 79, 80, 81, 82, 83, 84, 85, 86, 87, 88, 89, 90, 91, 92, 93, 94, 95, 96, 97, 98, 99, 100, 101, 102] (fun j1 => []) (fun j1 => ⟨[], [], [], 0, false⟩) ?_ ?_
 intro or1 h hr1
 refine w_seq (w_region ?_)
 refine w_mv ?_
 obtain ⟨x1, hx1, h⟩ := letE_e h
 refine w_callc (args' := [.s s, .s ([34] : List UInt8)]) (r := .b x1) (by rw [← hx1]; exact (hasp_pure s ([34] : List UInt8))) rfl rfl (stripL_cons rfl (stripL_cons rfl rfl)) (by kernel_rfl) (by dsimp only [aput, List.set]) ?_
 refine bif_e h (fun hc1 h => ?_) (fun hc1 h => ?_)
 refine w_condT hc1 rfl ?_
 refine w_seq (w_region ?_)
 refine w_mv ?_
 obtain ⟨x2, hx2, h⟩ := bindE_e h
 refine w_callc (args' := [.s s]) (r := .tup [.s x2.1, .i x2.2.1, .i x2.2.2]) (unquote_sh fuel s x2 hx2) rfl rfl (stripL_cons rfl rfl) (by kernel_rfl) (by dsimp only [aput, List.set]) ?_
 refine w_mv ?_
 refine w_ex ?_
 refine w_ex ?_
 refine w_ex ?_
 refine w_mv ?_
 refine w_mv ?_
 refine w_mv ?_
 refine w_seq ?_
 refine w_seq ?_
 refine w_draw (k0 := 0) (id := 4) 14 (by kernel_rfl) (by kernel_rfl) ?_
 refine h_mv ?_
 refine h_o (a := .b (x2.2.2 != 0)) ?_
 refine bif_e h (fun hc2 h => ?_) (fun hc2 h => ?_)
 refine h_o (a := .b true) (h := q_bool rfl hc2) ?_
 refine h_po ?_
 refine h_po ?_
 refine h_po ?_
 refine h_po ?_
 refine h_o (a := .b true) ?_
 refine h_mv ?_
 refine h_po ?_
 refine h_po ?_
 refine h_po ?_
 refine h_po ?_
 refine h_po ?_
 refine h_end ?_
 refine w_po ?_
 refine w_o (a := .b true) ?_
 refine w_true rfl ?_
 refine w_seq (w_region ?_)
 refine w_o (a := .list 0 [] .full) ?_
 refine w_o (a := .i 0) ?_
 replace h := cut_inr h hr1
 exact end_pureF (fun (r : ((List Ev) × Int)) => (.tup [.list (List.length (r.1 : List Ev)) (Enc.cellsL (r.1 : List Ev)) .none, .i r.2] : AV)) h (a := .tup [.list 0 [] .full, .i 0]) rfl (show okTrimL _ _ = true from (by kernel_rfl)) (show AV.tup (stripL _) = _ from congrArg AV.tup (stripL_cons rfl (stripL_cons rfl rfl)))
 refine h_o (a := .b false) (h := q_bool rfl hc2) ?_
 refine h_met rfl rfl ?_
 refine h_mv ?_
 refine h_met rfl rfl ?_
 refine h_mv ?_
 refine h_met rfl rfl ?_
 refine h_o (a := .i (List.length s : Int)) (h := q_lenS rfl rfl rfl) ?_
 refine h_met rfl rfl ?_
 refine h_o (a := .b (decide (x2.2.1 > (List.length s : Int)))) ?_
 refine h_o (a := .b (decide (x2.2.1 > (List.length s : Int)))) ?_
 refine bif_e h (fun hc3 h => ?_) (fun hc3 h => ?_)
 refine h_o (a := .b true) (h := q_bool rfl hc3) ?_
 refine h_po ?_
 refine h_po ?_
 refine h_po ?_
 refine h_po ?_
 refine h_po ?_
 refine h_end ?_
 refine w_po ?_
 refine w_o (a := .b true) ?_
 refine w_true rfl ?_
 refine w_seq (w_region ?_)
 refine w_o (a := .list 0 [] .full) ?_
 refine w_o (a := .i 0) ?_
 replace h := cut_inr h hr1
 exact end_pureF (fun (r : ((List Ev) × Int)) => (.tup [.list (List.length (r.1 : List Ev)) (Enc.cellsL (r.1 : List Ev)) .none, .i r.2] : AV)) h (a := .tup [.list 0 [] .full, .i 0]) rfl (show okTrimL _ _ = true from (by kernel_rfl)) (show AV.tup (stripL _) = _ from congrArg AV.tup (stripL_cons rfl (stripL_cons rfl rfl)))
 refine h_o (a := .b false) (h := q_bool rfl hc3) ?_
 refine h_met rfl rfl ?_
 refine h_mv ?_
 refine h_met rfl rfl ?_
 obtain ⟨x3, hx3, h⟩ := bindE_e h
 refine h_call (args' := [.s x2.1]) (r := .s x3) (quote_sh fuel x2.1 x3 hx3) rfl rfl rfl (stripL_cons rfl rfl) (by kernel_rfl) (by dsimp only [aput, List.set]) ?_
 refine h_met rfl rfl ?_
 refine h_mv ?_
 refine h_met rfl rfl ?_
 refine h_mv ?_
 refine h_met rfl rfl ?_
 obtain ⟨g1, h⟩ := chk_e h
 obtain ⟨x4, hx4, h⟩ := letE_e h
 refine h_o (a := .s x4) (h := by rw [← hx4]; exact (q_ssl_H (l := s) g1 rfl rfl rfl rfl)) ?_
 refine h_end ?_
 refine w_met rfl rfl ?_
 refine w_o (a := .b (!(x3 == x4))) (h := op_q (q_strne rfl rfl rfl)) ?_
 refine w_o (a := .b (!(x3 == x4))) ?_
 refine bif_e h (fun hc4 h => ?_) (fun hc4 h => ?_)
 refine w_condT hc4 rfl ?_
 refine w_seq (w_region ?_)
 refine w_o (a := .list 0 [] .full) ?_
 refine w_o (a := .i 0) ?_
 replace h := cut_inr h hr1
 exact end_pureF (fun (r : ((List Ev) × Int)) => (.tup [.list (List.length (r.1 : List Ev)) (Enc.cellsL (r.1 : List Ev)) .none, .i r.2] : AV)) h (a := .tup [.list 0 [] .full, .i 0]) rfl (show okTrimL _ _ = true from (by kernel_rfl)) (show AV.tup (stripL _) = _ from congrArg AV.tup (stripL_cons rfl (stripL_cons rfl rfl)))
 refine w_condF hc4 rfl ?_
 refine w_cutF h [0, 1, 2, 3, 4, 5, 7, 8, 9, 10, 11, 12, 13, 14, 15, 16, 17, 18, 19, 20, 21, 22, 23, 24, 25, 26, 27, 28, 29, 30, 31, 32, 33, 34, 35, 36, 37, 38, 39, 40, 41, 42, 43, 44, 45, 46, 47, 48, 49, 50, 51, 52, 53, 54, 55, 56, 57, 58, 59, 60, 61, 62, 63, 64, 65, 66, 67, 68, 69, 70, 71, 72, 73, 74, 75, 76, 77, 78, 79, 80, 81, 82, 83, 84, 85, 86, 87, 88, 89, 90, 91, 92, 93, 94, 95, 96, 97, 98, 99, 100, 101, 102] (fun j2 => [(4, (ownAV (List.length (j2 : List Ev)) (Enc.cellsL (j2 : List Ev))))]) (fun j2 => (ownSt [] 27 (List.length (j2 : List Ev)) 2)) ?_ ?_
 intro or2 h hr2
 refine w_seq (w_region ?_)
 refine w_mv ?_
 refine w_o (a := .i (List.length x2.1 : Int)) (h := op_q (q_lenS rfl rfl rfl)) ?_
 refine w_o (a := .i 0) ?_
 refine w_block ?_
 refine w_loopF h [0, 1, 2, 3, 4, 7, 8, 9, 10, 11, 12, 13, 14, 15, 16, 17, 18, 19, 20, 21, 22, 23, 24, 25, 26, 27, 28, 29, 30, 31, 32, 33, 34, 35, 36, 37, 38, 39, 40, 42, 43, 44, 45, 46, 47, 48, 49, 50, 51, 52, 53, 54, 55, 56, 57, 58, 59, 60, 61, 62, 63, 64, 65, 66, 67, 68, 69, 70, 71, 72, 73, 74, 75, 76, 77, 78, 79, 80, 81, 82, 83, 84, 85, 86, 87, 88, 89, 90, 91, 92, 93, 94, 95, 96, 97, 98, 99, 100, 101, 102] (fun s1 => [(4, (ownAV (List.length (s1.1 : List Ev)) (Enc.cellsL (s1.1 : List Ev)))), (42, .i s1.2)]) (fun s1 => (ownSt [] 27 (List.length (s1.1 : List Ev)) 2)) ?_ ?_
 exact wm_of (bl 103 6597069766768) (by kernel_rfl) (by kernel_rfl)
 intro s1 p1 h
 refine w_start (by dsimp only [setAll, topAll, List.foldl, List.set]) rfl ?_
 refine w_seq (w_region ?_)
 refine w_o (a := .b (decide (s1.2 < (List.length x2.1 : Int)))) ?_
 refine w_seq ?_
 refine bif_e h (fun hc5 h => ?_) (fun hc5 h => ?_)
 refine w_condT hc5 rfl ?_
 refine w_seq ?_
 refine w_block ?_
 refine w_seq (w_region ?_)
 refine w_mv ?_
 refine w_mv ?_
 refine w_region (k0 := 0) (id := 9) ?_
 refine w_mv ?_
 refine w_mv ?_
 refine w_mv ?_
 obtain ⟨g2, h⟩ := chk_e h
 obtain ⟨x5, hx5, h⟩ := letE_e h
 refine w_o (a := .u (((x5).toNat : Nat) : Int)) (h := op_q (by rw [← hx5]; exact (q_sidx (l := x2.1) (n := s1.2) g2 rfl rfl rfl rfl))) ?_
 refine w_o (a := .agg (Enc.cells ((Ev.mk 1 (((x5).toNat : Nat) : Int)) : Ev))) ?_
 refine w_o (a := .list (List.length ([(Ev.mk 1 (((x5).toNat : Nat) : Int))] : List Ev)) (Enc.cellsL ([(Ev.mk 1 (((x5).toNat : Nat) : Int))] : List Ev)) .full) (h := op_q (q_lit (α := Ev) (l := [(Ev.mk 1 (((x5).toNat : Nat) : Int))]) (cs := Enc.cells ((Ev.mk 1 (((x5).toNat : Nat) : Int)) : Ev) ++ []) rfl (by rw [Enc.cons, Enc.nil]))) ?_
 obtain ⟨g3, h⟩ := chk_e h
 refine w_opm (a := (ownAV (List.length ((s1.1 ++ [(Ev.mk 1 (((x5).toNat : Nat) : Int))]) : List Ev)) (Enc.cellsL ((s1.1 ++ [(Ev.mk 1 (((x5).toNat : Nat) : Int))]) : List Ev)))) (σ'' := (ownSt [] 27 (List.length ((s1.1 ++ [(Ev.mk 1 (((x5).toNat : Nat) : Int))]) : List Ev)) 2)) rfl rfl rfl (op_append rfl rfl rfl rfl (append_ownE (α := Ev) (bs := []) (a := s1.1) (b := [(Ev.mk 1 (((x5).toNat : Nat) : Int))]) g3 rfl rfl rfl rfl rfl ⟨rfl, by decide⟩)) (by dsimp only [aput, List.set]) rfl ?_
 refine w_mv ?_
 refine w_region (k0 := 0) (id := 10) ?_
 obtain ⟨g4, h⟩ := chk_e h
 refine w_o (a := .i (s1.2 + 1)) (h := op_q (q_add rfl rfl rfl rfl g4.1 g4.2)) ?_
 refine w_mv ?_
 refine loop_next (p := p1) ((s1.1 ++ [(Ev.mk 1 (((x5).toNat : Nat) : Int))]), (s1.2 + 1)) h ?_
 exact wm_of (bl 103 6597069766768) (by kernel_rfl) (by kernel_rfl)
 refine w_condF hc5 rfl ?_
 refine loop_exit h (fun h => ?_)
 refine cut_done (o := or2) (s1.1) h ?_
 exact wm_of (bl 103 80) (by kernel_rfl) (by kernel_rfl)
 intro j2 h
 refine w_start (by dsimp only [setAll, topAll, List.foldl, List.set]) rfl ?_
 refine w_seq (w_region ?_)
 refine w_mv ?_
 refine w_mv ?_
 refine w_mv ?_
 refine w_mv ?_
 replace h := cut_inr h hr1
 exact end_pureF (fun (r : ((List Ev) × Int)) => (.tup [.list (List.length (r.1 : List Ev)) (Enc.cellsL (r.1 : List Ev)) .none, .i r.2] : AV)) h (a := .tup [(ownAV (List.length (j2 : List Ev)) (Enc.cellsL (j2 : List Ev))), .i x2.2.1]) rfl (show okTrimL _ _ = true from (okTrimL_cons (okTrim_own (Enc.cloL _)) (by kernel_rfl))) (show AV.tup (stripL _) = _ from congrArg AV.tup (stripL_cons (strip_o (Enc.cloL _) Enc.z) (stripL_cons rfl rfl)))
 refine w_condF hc1 rfl ?_
 refine cut_done (o := or1) () h ?_
 exact wm_of (bl 103 1) (by kernel_rfl) (by kernel_rfl)
 intro j1 h
 refine w_start (by dsimp only [setAll, topAll, List.foldl, List.set]) rfl ?_
 refine w_seq (w_region ?_)
 refine w_mv ?_
 obtain ⟨g5, h⟩ := chk_e h
 obtain ⟨x6, hx6, h⟩ := letE_e h
 refine w_callc (args' := [.s s, .s ([32] : List UInt8)]) (r := .tup [.s x6.1, .s x6.2.1, .b x6.2.2]) (by rw [← hx6]; exact (cut_pure s ([32] : List UInt8) g5)) rfl rfl (stripL_cons rfl (stripL_cons rfl rfl)) (by kernel_rfl) (by dsimp only [aput, List.set]) ?_
 refine w_mv ?_
 refine w_ex ?_
 refine w_ex ?_
 refine w_ex ?_
 refine w_mv ?_
 refine w_mv ?_
 refine w_mv ?_
 refine w_seq ?_
 refine w_seq (w_region ?_)
 refine w_mv ?_
 refine w_o (a := .b (x6.1 == ([101, 111, 102] : List UInt8))) (h := op_q (q_streq rfl rfl rfl)) ?_
 refine bif_e h (fun hc6 h => ?_) (fun hc6 h => ?_)
 refine w_condT hc6 rfl ?_
 refine w_seq (w_region ?_)
 refine w_o (a := .agg (Enc.cells ((Ev.mk 3 0) : Ev))) ?_
 refine w_o (a := .list (List.length ([(Ev.mk 3 0)] : List Ev)) (Enc.cellsL ([(Ev.mk 3 0)] : List Ev)) .full) (h := op_q (q_lit (α := Ev) (l := [(Ev.mk 3 0)]) (cs := Enc.cells ((Ev.mk 3 0) : Ev) ++ []) rfl (by rw [Enc.cons, Enc.nil]))) ?_
 refine w_mv ?_
 refine w_o (a := .i (List.length x6.1 : Int)) (h := op_q (q_lenS rfl rfl rfl)) ?_
 refine w_mv ?_
 refine w_mv ?_
 exact end_pureF (fun (r : ((List Ev) × Int)) => (.tup [.list (List.length (r.1 : List Ev)) (Enc.cellsL (r.1 : List Ev)) .none, .i r.2] : AV)) h (a := .tup [.list (List.length ([(Ev.mk 3 0)] : List Ev)) (Enc.cellsL ([(Ev.mk 3 0)] : List Ev)) .full, .i (List.length x6.1 : Int)]) rfl (show okTrimL _ _ = true from (okTrimL_cons (okTrim_l (Enc.cloL _)) (by kernel_rfl))) (show AV.tup (stripL _) = _ from congrArg AV.tup (stripL_cons (strip_l (Enc.cloL _)) (stripL_cons rfl rfl)))
 refine w_condF hc6 rfl ?_
 refine w_seq (w_region ?_)
 refine w_mv ?_
 obtain ⟨x7, hx7, h⟩ := letE_e h
 refine w_callc (args' := [.s x6.1, .s ([116] : List UInt8)]) (r := .tup [.s x7.1, .b x7.2]) (by rw [← hx7]; exact (cutp_pure x6.1 ([116] : List UInt8))) rfl rfl (stripL_cons rfl (stripL_cons rfl rfl)) (by kernel_rfl) (by dsimp only [aput, List.set]) ?_
 refine w_mv ?_
 refine w_ex ?_
 refine w_ex ?_
 refine w_mv ?_
 refine w_mv ?_
 refine w_seq (w_region ?_)
 refine w_mv ?_
 refine bif_e h (fun hc7 h => ?_) (fun hc7 h => ?_)
 obtain ⟨g6, h⟩ := chk_e h
 obtain ⟨x8, hx8, h⟩ := letE_e h
 refine w_callc (args' := [.s x7.1]) (r := .tup [.i x8, .raw .nilIface]) (by rw [← hx8]; exact (atoi_okP x7.1 g6 hc7)) rfl rfl (stripL_cons rfl rfl) (by kernel_rfl) (by dsimp only [aput, List.set]) ?_
 refine w_mv ?_
 refine w_ex ?_
 refine w_ex ?_
 refine w_mv ?_
 refine w_mv ?_
 refine w_seq ?_
 refine w_seq (w_region ?_)
 refine w_mv ?_
 refine w_o (a := .b (!x7.2)) ?_
 refine bif_e h (fun hc8 h => ?_) (fun hc8 h => ?_)
 refine w_o (a := .b true) (h := op_q (q_bool rfl hc8)) ?_
 refine w_po ?_
 refine w_po ?_
 refine w_o (a := .b true) ?_
 refine w_mv ?_
 refine w_po ?_
 refine w_po ?_
 refine w_o (a := .b true) ?_
 refine w_mv ?_
 refine w_po ?_
 refine w_po ?_
 refine w_o (a := .b true) ?_
 refine w_mv ?_
 refine w_po ?_
 refine w_po ?_
 refine w_po ?_
 refine w_po ?_
 refine w_o (a := .b true) ?_
 refine w_true rfl ?_
 refine w_seq (w_region ?_)
 refine w_o (a := .list 0 [] .full) ?_
 refine w_o (a := .i 0) ?_
 exact end_pureF (fun (r : ((List Ev) × Int)) => (.tup [.list (List.length (r.1 : List Ev)) (Enc.cellsL (r.1 : List Ev)) .none, .i r.2] : AV)) h (a := .tup [.list 0 [] .full, .i 0]) rfl (show okTrimL _ _ = true from (by kernel_rfl)) (show AV.tup (stripL _) = _ from congrArg AV.tup (stripL_cons rfl (stripL_cons rfl rfl)))
 refine w_o (a := .b false) (h := op_q (q_bool rfl hc8)) ?_
 refine w_met rfl rfl ?_
 refine w_mv ?_
 refine w_met rfl rfl ?_
 refine w_o (a := .b false) ?_
 refine w_o (a := .b false) ?_
 refine w_mv ?_
 refine w_met rfl rfl ?_
 refine w_mv ?_
 refine w_met rfl rfl ?_
 refine w_o (a := .b (decide (x8 < 1))) ?_
 refine w_o (a := .b (decide (x8 < 1))) ?_
 refine bif_e h (fun hc9 h => ?_) (fun hc9 h => ?_)
 refine w_o (a := .b true) (h := op_q (q_bool rfl hc9)) ?_
 refine w_po ?_
 refine w_po ?_
 refine w_o (a := .b true) ?_
 refine w_mv ?_
 refine w_po ?_
 refine w_po ?_
 refine w_po ?_
 refine w_po ?_
 refine w_o (a := .b true) ?_
 refine w_true rfl ?_
 refine w_seq (w_region ?_)
 refine w_o (a := .list 0 [] .full) ?_
 refine w_o (a := .i 0) ?_
 exact end_pureF (fun (r : ((List Ev) × Int)) => (.tup [.list (List.length (r.1 : List Ev)) (Enc.cellsL (r.1 : List Ev)) .none, .i r.2] : AV)) h (a := .tup [.list 0 [] .full, .i 0]) rfl (show okTrimL _ _ = true from (by kernel_rfl)) (show AV.tup (stripL _) = _ from congrArg AV.tup (stripL_cons rfl (stripL_cons rfl rfl)))
 refine w_o (a := .b false) (h := op_q (q_bool rfl hc9)) ?_
 refine w_met rfl rfl ?_
 refine w_mv ?_
 refine w_met rfl rfl ?_
 refine w_o (a := .b (decide (x8 > 4096))) ?_
 refine w_o (a := .b (decide (x8 > 4096))) ?_
 refine bif_e h (fun hc10 h => ?_) (fun hc10 h => ?_)
 refine w_o (a := .b true) (h := op_q (q_bool rfl hc10)) ?_
 refine w_po ?_
 refine w_po ?_
 refine w_po ?_
 refine w_po ?_
 refine w_o (a := .b true) ?_
 refine w_true rfl ?_
 refine w_seq (w_region ?_)
 refine w_o (a := .list 0 [] .full) ?_
 refine w_o (a := .i 0) ?_
 exact end_pureF (fun (r : ((List Ev) × Int)) => (.tup [.list (List.length (r.1 : List Ev)) (Enc.cellsL (r.1 : List Ev)) .none, .i r.2] : AV)) h (a := .tup [.list 0 [] .full, .i 0]) rfl (show okTrimL _ _ = true from (by kernel_rfl)) (show AV.tup (stripL _) = _ from congrArg AV.tup (stripL_cons rfl (stripL_cons rfl rfl)))
 refine w_o (a := .b false) (h := op_q (q_bool rfl hc10)) ?_
 refine w_met rfl rfl ?_
 refine w_mv ?_
 refine w_met rfl rfl ?_
 obtain ⟨g7, h⟩ := chk_e h
 obtain ⟨x9, hx9, h⟩ := letE_e h
 refine w_callc (args' := [.i x8]) (r := .s x9) (by rw [← hx9]; exact (itoa_pure x8 g7)) rfl rfl (stripL_cons rfl rfl) (by kernel_rfl) (by dsimp only [aput, List.set]) ?_
 refine w_met rfl rfl ?_
 refine w_mv ?_
 refine w_met rfl rfl ?_
 refine w_o (a := .b (!(x9 == x7.1))) (h := op_q (q_strne rfl rfl rfl)) ?_
 refine w_o (a := .b (!(x9 == x7.1))) ?_
 refine bif_e h (fun hc11 h => ?_) (fun hc11 h => ?_)
 refine w_condT hc11 rfl ?_
 refine w_seq (w_region ?_)
 refine w_o (a := .list 0 [] .full) ?_
 refine w_o (a := .i 0) ?_
 exact end_pureF (fun (r : ((List Ev) × Int)) => (.tup [.list (List.length (r.1 : List Ev)) (Enc.cellsL (r.1 : List Ev)) .none, .i r.2] : AV)) h (a := .tup [.list 0 [] .full, .i 0]) rfl (show okTrimL _ _ = true from (by kernel_rfl)) (show AV.tup (stripL _) = _ from congrArg AV.tup (stripL_cons rfl (stripL_cons rfl rfl)))
 refine w_condF hc11 rfl ?_
 refine w_seq (w_region ?_)
 refine w_o (a := .agg (Enc.cells ((Ev.mk 2 0) : Ev))) ?_
 refine w_o (a := .list (List.length ([(Ev.mk 2 0)] : List Ev)) (Enc.cellsL ([(Ev.mk 2 0)] : List Ev)) .full) (h := op_q (q_lit (α := Ev) (l := [(Ev.mk 2 0)]) (cs := Enc.cells ((Ev.mk 2 0) : Ev) ++ []) rfl (by rw [Enc.cons, Enc.nil]))) ?_
 refine w_mv ?_
 obtain ⟨x10, hx10, h⟩ := bindE_e h
 refine w_callc (args' := [.list (List.length ([(Ev.mk 2 0)] : List Ev)) (Enc.cellsL ([(Ev.mk 2 0)] : List Ev)) .none, .i x8]) (r := .list (List.length (x10 : List Ev)) (Enc.cellsL (x10 : List Ev)) .none) (repeat__sh fuel [(Ev.mk 2 0)] x8 x10 hx10) rfl rfl (stripL_cons (strip_l (Enc.cloL _)) (stripL_cons rfl rfl)) (okTrimL_cons (okTrim_l (Enc.cloL _)) (by kernel_rfl)) (by dsimp only [aput, List.set]) ?_
 refine w_mv ?_
 refine w_o (a := .i (List.length x6.1 : Int)) (h := op_q (q_lenS rfl rfl rfl)) ?_
 refine w_mv ?_
 refine w_mv ?_
 exact end_pureF (fun (r : ((List Ev) × Int)) => (.tup [.list (List.length (r.1 : List Ev)) (Enc.cellsL (r.1 : List Ev)) .none, .i r.2] : AV)) h (a := .tup [.list (List.length (x10 : List Ev)) (Enc.cellsL (x10 : List Ev)) .none, .i (List.length x6.1 : Int)]) rfl (show okTrimL _ _ = true from (okTrimL_cons (okTrim_l (Enc.cloL _)) (by kernel_rfl))) (show AV.tup (stripL _) = _ from congrArg AV.tup (stripL_cons (strip_l (Enc.cloL _)) (stripL_cons rfl rfl)))
 obtain ⟨g8, h⟩ := chk_e h
 obtain ⟨x11, hx11, h⟩ := letE_e h
 refine w_callc (args' := [.s x7.1]) (r := .tup [.i x11, .iter errRows]) (by rw [← hx11]; exact (atoi_errP x7.1 g8 hc7)) rfl rfl (stripL_cons rfl rfl) (by kernel_rfl) (by dsimp only [aput, List.set]) ?_
 refine w_mv ?_
 refine w_ex ?_
 refine w_ex ?_
 refine w_mv ?_
 refine w_mv ?_
 refine w_seq ?_
 refine w_seq (w_region ?_)
 refine w_mv ?_
 refine w_o (a := .b (!x7.2)) ?_
 refine bif_e h (fun hc12 h => ?_) (fun hc12 h => ?_)
 refine w_o (a := .b true) (h := op_q (q_bool rfl hc12)) ?_
 refine w_po ?_
 refine w_po ?_
 refine w_o (a := .b true) ?_
 refine w_mv ?_
 refine w_po ?_
 refine w_po ?_
 refine w_o (a := .b true) ?_
 refine w_mv ?_
 refine w_po ?_
 refine w_po ?_
 refine w_o (a := .b true) ?_
 refine w_mv ?_
 refine w_po ?_
 refine w_po ?_
 refine w_po ?_
 refine w_po ?_
 refine w_o (a := .b true) ?_
 refine w_true rfl ?_
 refine w_seq (w_region ?_)
 refine w_o (a := .list 0 [] .full) ?_
 refine w_o (a := .i 0) ?_
 exact end_pureF (fun (r : ((List Ev) × Int)) => (.tup [.list (List.length (r.1 : List Ev)) (Enc.cellsL (r.1 : List Ev)) .none, .i r.2] : AV)) h (a := .tup [.list 0 [] .full, .i 0]) rfl (show okTrimL _ _ = true from (by kernel_rfl)) (show AV.tup (stripL _) = _ from congrArg AV.tup (stripL_cons rfl (stripL_cons rfl rfl)))
 refine w_o (a := .b false) (h := op_q (q_bool rfl hc12)) ?_
 refine w_met rfl rfl ?_
 refine w_mv ?_
 refine w_met rfl rfl ?_
 refine w_ifn true rfl rfl rfl rfl (.inr ⟨rfl, rfl⟩) rfl rfl (by dsimp only [aput, List.set]) ?_
 refine w_o (a := .b true) ?_
 refine w_mv ?_
 refine w_po ?_
 refine w_po ?_
 refine w_o (a := .b true) ?_
 refine w_mv ?_
 refine w_po ?_
 refine w_po ?_
 refine w_o (a := .b true) ?_
 refine w_mv ?_
 refine w_po ?_
 refine w_po ?_
 refine w_po ?_
 refine w_po ?_
 refine w_o (a := .b true) ?_
 refine w_true rfl ?_
 refine w_seq (w_region ?_)
 refine w_o (a := .list 0 [] .full) ?_
 refine w_o (a := .i 0) ?_
 exact end_pureF (fun (r : ((List Ev) × Int)) => (.tup [.list (List.length (r.1 : List Ev)) (Enc.cellsL (r.1 : List Ev)) .none, .i r.2] : AV)) h (a := .tup [.list 0 [] .full, .i 0]) rfl (show okTrimL _ _ = true from (by kernel_rfl)) (show AV.tup (stripL _) = _ from congrArg AV.tup (stripL_cons rfl (stripL_cons rfl rfl)))
def F_read (fuel : Nat) (s : (List UInt8)) : Option ((List Ev) × Int × Int) :=
  (bif (decide ((List.length s : Int) > 32768)) then (some (([] : (List Ev)), (-1), 3)) else (bif (s == ([] : List UInt8)) then (some (([] : (List Ev)), (-1), 0)) else (cutE (τ := (List Ev) × Int × Int) (loopE (β := (List UInt8) × (List Ev) × Bool × Int × Int × Int) (fun s1 => (bindE (F_part fuel s1.1) (fun x1 => (cutE (τ := Unit) (bif ((List.length x1.1 : Int) == 0) then (some (Sum.inr (Sum.inr (Sum.inl (s1.2.1, s1.2.2.2.2.1, 321))))) else (chk (0 ≤ (0 : Int) ∧ (0 : Int) < (List.length x1.1 : Int)) (letE (ix x1.1 (0 : Int)) (fun x2 => (bif (x2.k == s1.2.2.2.1) then (some (Sum.inr (Sum.inr (Sum.inl (s1.2.1, s1.2.2.2.2.1, 321))))) else (chk (0 ≤ (0 : Int) ∧ (0 : Int) < (List.length x1.1 : Int)) (letE (ix x1.1 (0 : Int)) (fun x3 => (bindE (F_right x3 s1.2.2.1) (fun x4 => (bif (!x4) then (some (Sum.inr (Sum.inr (Sum.inl (s1.2.1, s1.2.2.2.2.1, 321))))) else (bif (decide (x1.2 < (List.length s1.1 : Int))) then (chk (0 ≤ x1.2 ∧ x1.2 < (List.length s1.1 : Int)) (letE (ix s1.1 x1.2) (fun x5 => (bif ((((x5).toNat : Nat) : Int) != 32) then (some (Sum.inr (Sum.inr (Sum.inl (s1.2.1, s1.2.2.2.2.1, 321))))) else (some (Sum.inl ())))))) else (some (Sum.inl ())))))))))))))) (fun j2 => (chk ((List.length s1.2.1 + List.length x1.1) * 2 ≤ 140737488355328) (bif (decide ((List.length (s1.2.1 ++ x1.1) : Int) > 4096)) then (some (Sum.inr (Sum.inl ((s1.2.1 ++ x1.1), (-1), 5)))) else (bif (x1.2 == (List.length s1.1 : Int)) then (some (Sum.inr (Sum.inl ((s1.2.1 ++ x1.1), s1.2.2.2.2.1, s1.2.2.2.2.2)))) else (chk (0 ≤ (0 : Int) ∧ (0 : Int) < (List.length x1.1 : Int)) (letE (ix x1.1 (0 : Int)) (fun x6 => (bif s1.2.2.1 then (chk (-9223372036854775808 ≤ (x1.2 + 1) ∧ (x1.2 + 1) < 9223372036854775808) (chk (0 ≤ (x1.2 + 1) ∧ (x1.2 + 1) ≤ (List.length s1.1 : Int) ∧ (List.length s1.1 : Int) ≤ (List.length s1.1 : Int)) (letE (sub s1.1 (x1.2 + 1) (List.length s1.1 : Int)) (fun x7 => (chk (-9223372036854775808 ≤ (s1.2.2.2.2.1 + 1) ∧ (s1.2.2.2.2.1 + 1) < 9223372036854775808) (some (Sum.inl (x7, (s1.2.1 ++ x1.1), true, x6.k, (s1.2.2.2.2.1 + 1), s1.2.2.2.2.2)))))))) else (chk (0 ≤ (0 : Int) ∧ (0 : Int) < (List.length x1.1 : Int)) (letE (ix x1.1 (0 : Int)) (fun x8 => (chk (-9223372036854775808 ≤ (x1.2 + 1) ∧ (x1.2 + 1) < 9223372036854775808) (chk (0 ≤ (x1.2 + 1) ∧ (x1.2 + 1) ≤ (List.length s1.1 : Int) ∧ (List.length s1.1 : Int) ≤ (List.length s1.1 : Int)) (letE (sub s1.1 (x1.2 + 1) (List.length s1.1 : Int)) (fun x9 => (chk (-9223372036854775808 ≤ (s1.2.2.2.2.1 + 1) ∧ (s1.2.2.2.2.1 + 1) < 9223372036854775808) (some (Sum.inl (x9, (s1.2.1 ++ x1.1), (x8.k == 3), x6.k, (s1.2.2.2.2.1 + 1), s1.2.2.2.2.2))))))))))))))))))))))) fuel (s, ([] : (List Ev)), false, 0, 0, 0)) (fun j1 => (bif (j1.2.2 != 0) then (some (([] : (List Ev)), j1.2.1, j1.2.2)) else (some (j1.1, (-1), 0)))))))
theorem ent23 : Ent Tryz.prog 23 := enters_of Tryz.func23 (by kernel_rfl) rfl
set_option maxRecDepth 100000 in
set_option maxHeartbeats 4000000 in
theorem read_sh (fuel : Nat) (s : (List UInt8)) (r : ((List Ev) × Int × Int)) (h : F_read fuel s = some r) : Pure (ITP Tryz.prog) Tryz.prog 23 [.raw (.string (bs s))] (.tup [.list (List.length (r.1 : List Ev)) (Enc.cellsL (r.1 : List Ev)) .none, .raw (.int .i64 r.2.1), .raw (.int .i64 r.2.2)]) := by
 obtain ⟨d, hd⟩ : ∃ d, Tryz.f23.body = some d := ⟨_, rfl⟩
 refine pure_of mix Tryz.func23 hd ent23 ?_
 cases hd
 unfold F_read at h
 refine w_start (by dsimp only [abeginS, Tryz.f23, List.length_cons, List.length_nil, Nat.zero_add, Nat.reduceAdd, Nat.reduceSub, List.replicate, List.cons_append, List.nil_append]) (by dsimp only [St.empty]) ?_
 refine w_seq (w_region ?_)
 refine w_o (a := .list 0 [] .full) ?_
 refine w_o (a := .i 0) ?_
 refine w_o (a := .i 0) ?_
 refine w_scope ?_
 refine w_seq ?_
 refine w_seq (w_region ?_)
 refine w_mv ?_
 refine w_o (a := .i (List.length s : Int)) (h := op_q (q_lenS rfl rfl rfl)) ?_
 refine w_o (a := .b (decide ((List.length s : Int) > 32768))) ?_
 refine bif_e h (fun hc1 h => ?_) (fun hc1 h => ?_)
 refine w_condT hc1 rfl ?_
 refine w_seq (w_region ?_)
 refine w_o (a := .list 0 [] .full) ?_
 refine w_o (a := .i (-1)) ?_
 refine w_o (a := .i 3) ?_
 exact end_pureF (fun (r : ((List Ev) × Int × Int)) => (.tup [.list (List.length (r.1 : List Ev)) (Enc.cellsL (r.1 : List Ev)) .none, .i r.2.1, .i r.2.2] : AV)) h (a := .tup [.list 0 [] .full, .i (-1), .i 3]) rfl (show okTrimL _ _ = true from (by kernel_rfl)) (show AV.tup (stripL _) = _ from congrArg AV.tup (stripL_cons rfl (stripL_cons rfl (stripL_cons rfl rfl))))
 refine w_condF hc1 rfl ?_
 refine w_seq ?_
 refine w_seq (w_region ?_)
 refine w_mv ?_
 refine w_o (a := .b (s == ([] : List UInt8))) (h := op_q (q_streq rfl rfl rfl)) ?_
 refine bif_e h (fun hc2 h => ?_) (fun hc2 h => ?_)
 refine w_condT hc2 rfl ?_
 refine w_seq (w_region ?_)
 refine w_o (a := .list 0 [] .full) ?_
 refine w_o (a := .i (-1)) ?_
 refine w_o (a := .i 0) ?_
 exact end_pureF (fun (r : ((List Ev) × Int × Int)) => (.tup [.list (List.length (r.1 : List Ev)) (Enc.cellsL (r.1 : List Ev)) .none, .i r.2.1, .i r.2.2] : AV)) h (a := .tup [.list 0 [] .full, .i (-1), .i 0]) rfl (show okTrimL _ _ = true from (by kernel_rfl)) (show AV.tup (stripL _) = _ from congrArg AV.tup (stripL_cons rfl (stripL_cons rfl (stripL_cons rfl rfl))))
 refine w_condF hc2 rfl ?_
 refine w_seq (w_region ?_)
 refine w_o (a := .list 0 [] .full) ?_
 refine w_seq (w_region ?_)
 refine w_o (a := .b false) ?_
 refine w_o (a := .u 0) ?_
 refine w_seq (w_region ?_)
 refine w_o (a := .i 0) ?_
 refine w_o (a := .i 0) ?_
 refine w_seq ?_
 refine w_label ?_
 refine w_cutF h [0, 1, 2, 3, 4, 5, 6, 7, 8, 9, 10, 11, 12, 13, 14, 15, 16, 17, 18, 19, 20, 21, 22, 23, 24, 25, 26, 27, 28, 29, 30, 31, 32, 33, 34, 35, 36, 37, 38, 39, 40, 41, 42, 43, 44, 45, 46, 47, 48, 49, 50, 51, 52, 53, 54, 55, 56, 57, 58, 59, 60, 61, 62, 63, 64, 65, 66, 67, 68, 69, 70, 71, 72, 73, 74, 75, 76, 77, 78, 79, 80, 81, 82, 83, 84, 85] (fun j1 => [(5, (ownAV (List.length (j1.1 : List Ev)) (Enc.cellsL (j1.1 : List Ev)))), (8, .i j1.2.1), (9, .i j1.2.2)]) (fun j1 => (ownSt [] 27 (List.length (j1.1 : List Ev)) 2)) ?_ ?_
 intro or1 h hr1
 refine w_block ?_
 refine w_loopF h [0, 1, 2, 3, 4, 5, 6, 7, 8, 9, 10, 11, 12, 13, 14, 15, 16, 17, 18, 19, 20, 21, 22, 23, 24, 25, 26, 27, 28, 29, 30, 31, 32, 33, 34, 35, 36, 37, 38, 39, 40, 41, 42, 43, 44, 45, 46, 47, 48, 49, 50, 51, 52, 53, 54, 55, 56, 57, 58, 59, 60, 61, 62, 63, 64, 65, 66, 67, 68, 69, 70, 71, 72, 73, 74, 75, 76, 77, 78, 79, 80, 81, 82, 83, 84, 85] (fun s1 => [(0, .s s1.1), (5, (ownAV (List.length (s1.2.1 : List Ev)) (Enc.cellsL (s1.2.1 : List Ev)))), (6, .b s1.2.2.1), (7, .u s1.2.2.2.1), (8, .i s1.2.2.2.2.1), (9, .i s1.2.2.2.2.2)]) (fun s1 => (ownSt [] 27 (List.length (s1.2.1 : List Ev)) 2)) ?_ ?_
 exact wm_of (bl 86 993) (by kernel_rfl) (by kernel_rfl)
 intro s1 p1 h
 refine w_start (by dsimp only [setAll, topAll, List.foldl, List.set]) rfl ?_
 refine w_block ?_
 refine w_seq (w_region ?_)
 refine w_mv ?_
 obtain ⟨x1, hx1, h⟩ := bindE_e h
 refine w_callc (args' := [.s s1.1]) (r := .tup [.list (List.length (x1.1 : List Ev)) (Enc.cellsL (x1.1 : List Ev)) .none, .i x1.2]) (part_sh fuel s1.1 x1 hx1) rfl rfl (stripL_cons rfl rfl) (by kernel_rfl) (by dsimp only [aput, List.set]) ?_
 refine w_mv ?_
 refine w_ex ?_
 refine w_ex ?_
 refine w_mv ?_
 refine w_mv ?_
 refine w_cutF h [7, 9, 17, 18, 19, 20, 21, 22, 23, 24, 25, 26, 27, 28, 29, 30, 31, 32, 33, 34, 35, 36, 37, 38, 39, 40, 41, 42, 43, 44, 45, 46, 47, 48, 49, 50, 51, 52] (fun j2 => [(9, .i s1.2.2.2.2.2)]) (fun j2 => (ownSt [] 27 (List.length (s1.2.1 : List Ev)) 2)) ?_ ?_
 intro or2 h hr2
 refine w_seq (w_region ?_)
 refine w_mv ?_
 refine w_o (a := .i (List.length x1.1 : Int)) ?_
 refine w_o (a := .b ((List.length x1.1 : Int) == 0)) ?_
 refine bif_e h (fun hc3 h => ?_) (fun hc3 h => ?_)
 refine w_o (a := .b true) (h := op_q (q_bool rfl hc3)) ?_
 refine w_po ?_
 refine w_po ?_
 refine w_po ?_
 refine w_po ?_
 refine w_po ?_
 refine w_po ?_
 refine w_o (a := .b true) ?_
 refine w_mv ?_
 refine w_po ?_
 refine w_po ?_
 refine w_po ?_
 refine w_po ?_
 refine w_po ?_
 refine w_po ?_
 refine w_o (a := .b true) ?_
 refine w_mv ?_
 refine w_po ?_
 refine w_po ?_
 refine w_po ?_
 refine w_po ?_
 refine w_po ?_
 refine w_po ?_
 refine w_po ?_
 refine w_po ?_
 refine w_po ?_
 refine w_po ?_
 refine w_o (a := .b true) ?_
 refine w_true rfl ?_
 refine w_seq (w_region ?_)
 refine w_o (a := .i 321) ?_
 replace h := cut_inr h hr2
 refine loop_exit h (fun h => ?_)
 refine cut_done (o := or1) (s1.2.1, s1.2.2.2.2.1, 321) h ?_
 exact wm_of (bl 86 800) (by kernel_rfl) (by kernel_rfl)
 refine w_o (a := .b false) (h := op_q (q_bool rfl hc3)) ?_
 refine w_met rfl rfl ?_
 refine w_mv ?_
 refine w_met rfl rfl ?_
 obtain ⟨g1, h⟩ := chk_e h
 obtain ⟨x2, hx2, h⟩ := letE_e h
 refine w_o (a := .iptr (Enc.cells x2 ++ Enc.cellsL (List.drop (Int.toNat (0 : Int) + 1) x1.1))) (h := op_q (by rw [← hx2]; exact (q_idx (α := Ev) (l := x1.1) g1 rfl rfl rfl rfl rfl))) ?_
 refine w_met rfl rfl ?_
 refine w_o (a := .iptr (List.drop 0 (Enc.cells x2 ++ Enc.cellsL (List.drop (Int.toNat (0 : Int) + 1) x1.1)))) ?_
 refine w_met rfl rfl ?_
 refine w_o (a := .u x2.k) ?_
 refine w_met rfl rfl ?_
 refine w_mv ?_
 refine w_met rfl rfl ?_
 refine w_o (a := .b (x2.k == s1.2.2.2.1)) ?_
 refine w_o (a := .b (x2.k == s1.2.2.2.1)) ?_
 refine bif_e h (fun hc4 h => ?_) (fun hc4 h => ?_)
 refine w_o (a := .b true) (h := op_q (q_bool rfl hc4)) ?_
 refine w_po ?_
 refine w_po ?_
 refine w_po ?_
 refine w_po ?_
 refine w_po ?_
 refine w_po ?_
 refine w_o (a := .b true) ?_
 refine w_mv ?_
 refine w_po ?_
 refine w_po ?_
 refine w_po ?_
 refine w_po ?_
 refine w_po ?_
 refine w_po ?_
 refine w_po ?_
 refine w_po ?_
 refine w_po ?_
 refine w_po ?_
 refine w_o (a := .b true) ?_
 refine w_true rfl ?_
 refine w_seq (w_region ?_)
 refine w_o (a := .i 321) ?_
 replace h := cut_inr h hr2
 refine loop_exit h (fun h => ?_)
 refine cut_done (o := or1) (s1.2.1, s1.2.2.2.2.1, 321) h ?_
 exact wm_of (bl 86 800) (by kernel_rfl) (by kernel_rfl)
 refine w_o (a := .b false) (h := op_q (q_bool rfl hc4)) ?_
 refine w_met rfl rfl ?_
 refine w_mv ?_
 refine w_met rfl rfl ?_
 obtain ⟨g2, h⟩ := chk_e h
 obtain ⟨x3, hx3, h⟩ := letE_e h
 refine w_o (a := .iptr (Enc.cells x3 ++ Enc.cellsL (List.drop (Int.toNat (0 : Int) + 1) x1.1))) (h := op_q (by rw [← hx3]; exact (q_idx (α := Ev) (l := x1.1) g2 rfl rfl rfl rfl rfl))) ?_
 refine w_met rfl rfl ?_
 refine w_o (a := .agg (Enc.cells (x3 : Ev))) ?_
 refine w_met rfl rfl ?_
 refine w_mv ?_
 refine w_met rfl rfl ?_
 obtain ⟨x4, hx4, h⟩ := bindE_e h
 refine w_callc (args' := [.agg (Enc.cells (x3 : Ev)), .b s1.2.2.1]) (r := .b x4) (right_sh x3 s1.2.2.1 x4 hx4) rfl rfl (stripL_cons (strip_c (clo_agg (Enc.clo _))) (stripL_cons rfl rfl)) (okTrimL_cons (okTrim_clo _ _ (clo_agg (Enc.clo _))) (by kernel_rfl)) (by dsimp only [aput, List.set]) ?_
 refine w_met rfl rfl ?_
 refine w_o (a := .b (!x4)) ?_
 refine w_o (a := .b (!x4)) ?_
 refine bif_e h (fun hc5 h => ?_) (fun hc5 h => ?_)
 refine w_o (a := .b true) (h := op_q (q_bool rfl hc5)) ?_
 refine w_po ?_
 refine w_po ?_
 refine w_po ?_
 refine w_po ?_
 refine w_po ?_
 refine w_po ?_
 refine w_po ?_
 refine w_po ?_
 refine w_po ?_
 refine w_po ?_
 refine w_o (a := .b true) ?_
 refine w_true rfl ?_
 refine w_seq (w_region ?_)
 refine w_o (a := .i 321) ?_
 replace h := cut_inr h hr2
 refine loop_exit h (fun h => ?_)
 refine cut_done (o := or1) (s1.2.1, s1.2.2.2.2.1, 321) h ?_
 exact wm_of (bl 86 800) (by kernel_rfl) (by kernel_rfl)
 refine w_o (a := .b false) (h := op_q (q_bool rfl hc5)) ?_
 refine w_met rfl rfl ?_
 refine w_mv ?_
 refine w_met rfl rfl ?_
 refine w_mv ?_
 refine w_met rfl rfl ?_
 refine w_o (a := .i (List.length s1.1 : Int)) (h := op_q (q_lenS rfl rfl rfl)) ?_
 refine w_met rfl rfl ?_
 refine w_o (a := .b (decide (x1.2 < (List.length s1.1 : Int)))) ?_
 refine w_met rfl rfl ?_
 refine bif_e h (fun hc6 h => ?_) (fun hc6 h => ?_)
 refine w_o (a := .b true) (h := op_q (q_bool rfl hc6)) ?_
 refine w_met rfl rfl ?_
 refine w_mv ?_
 refine w_met rfl rfl ?_
 refine w_mv ?_
 refine w_met rfl rfl ?_
 obtain ⟨g3, h⟩ := chk_e h
 obtain ⟨x5, hx5, h⟩ := letE_e h
 refine w_o (a := .u (((x5).toNat : Nat) : Int)) (h := op_q (by rw [← hx5]; exact (q_sidx (l := s1.1) (n := x1.2) g3 rfl rfl rfl rfl))) ?_
 refine w_met rfl rfl ?_
 refine w_o (a := .b ((((x5).toNat : Nat) : Int) != 32)) ?_
 refine w_met rfl rfl ?_
 refine w_o (a := .b ((((x5).toNat : Nat) : Int) != 32)) ?_
 refine w_o (a := .b ((((x5).toNat : Nat) : Int) != 32)) ?_
 refine bif_e h (fun hc7 h => ?_) (fun hc7 h => ?_)
 refine w_condT hc7 rfl ?_
 refine w_seq (w_region ?_)
 refine w_o (a := .i 321) ?_
 replace h := cut_inr h hr2
 refine loop_exit h (fun h => ?_)
 refine cut_done (o := or1) (s1.2.1, s1.2.2.2.2.1, 321) h ?_
 exact wm_of (bl 86 800) (by kernel_rfl) (by kernel_rfl)
 refine w_condF hc7 rfl ?_
 refine cut_done (o := or2) () h ?_
 exact wm_of (bl 86 77371252446329067926585215) (by kernel_rfl) (by kernel_rfl)
 refine w_o (a := .b false) (h := op_q (q_bool rfl hc6)) ?_
 refine w_po ?_
 refine w_po ?_
 refine w_po ?_
 refine w_po ?_
 refine w_met rfl rfl ?_
 refine w_o (a := .b false) ?_
 refine w_o (a := .b false) ?_
 refine w_false rfl ?_
 refine cut_done (o := or2) () h ?_
 exact wm_of (bl 86 77371252446329067926585215) (by kernel_rfl) (by kernel_rfl)
 intro j2 h
 refine w_start (by dsimp only [setAll, topAll, List.foldl, List.set]) rfl ?_
 refine w_seq ?_
 refine w_seq (w_region ?_)
 refine w_mv ?_
 refine w_mv ?_
 obtain ⟨g4, h⟩ := chk_e h
 refine w_opm (a := (ownAV (List.length ((s1.2.1 ++ x1.1) : List Ev)) (Enc.cellsL ((s1.2.1 ++ x1.1) : List Ev)))) (σ'' := (ownSt [] 27 (List.length ((s1.2.1 ++ x1.1) : List Ev)) 2)) rfl rfl rfl (op_append rfl rfl rfl rfl (append_ownE (α := Ev) (bs := []) (a := s1.2.1) (b := x1.1) g4 rfl rfl rfl rfl rfl ⟨rfl, by decide⟩)) (by dsimp only [aput, List.set]) rfl ?_
 refine w_mv ?_
 refine w_seq (w_region ?_)
 refine w_mv ?_
 refine w_o (a := .i (List.length (s1.2.1 ++ x1.1) : Int)) (h := op_q (q_lenO (α := Ev) (l := (s1.2.1 ++ x1.1)) rfl rfl rfl rfl rfl rfl)) ?_
 refine w_o (a := .b (decide ((List.length (s1.2.1 ++ x1.1) : Int) > 4096))) ?_
 refine bif_e h (fun hc8 h => ?_) (fun hc8 h => ?_)
 refine w_condT hc8 rfl ?_
 refine w_seq (w_region ?_)
 refine w_o (a := .i (-1)) ?_
 refine w_o (a := .i 5) ?_
 refine loop_exit h (fun h => ?_)
 refine cut_done (o := or1) ((s1.2.1 ++ x1.1), (-1), 5) h ?_
 exact wm_of (bl 86 800) (by kernel_rfl) (by kernel_rfl)
 refine w_condF hc8 rfl ?_
 refine w_seq ?_
 refine w_seq (w_region ?_)
 refine w_mv ?_
 refine w_mv ?_
 refine w_o (a := .i (List.length s1.1 : Int)) (h := op_q (q_lenS rfl rfl rfl)) ?_
 refine w_o (a := .b (x1.2 == (List.length s1.1 : Int))) ?_
 refine bif_e h (fun hc9 h => ?_) (fun hc9 h => ?_)
 refine w_condT hc9 rfl ?_
 refine loop_exit h (fun h => ?_)
 refine cut_done (o := or1) ((s1.2.1 ++ x1.1), s1.2.2.2.2.1, s1.2.2.2.2.2) h ?_
 exact wm_of (bl 86 800) (by kernel_rfl) (by kernel_rfl)
 refine w_condF hc9 rfl ?_
 refine w_seq ?_
 refine w_draw (k0 := 0) (id := 15) 13 (by kernel_rfl) (by kernel_rfl) ?_
 refine h_mv ?_
 obtain ⟨g5, h⟩ := chk_e h
 obtain ⟨x6, hx6, h⟩ := letE_e h
 refine h_o (a := .iptr (Enc.cells x6 ++ Enc.cellsL (List.drop (Int.toNat (0 : Int) + 1) x1.1))) (h := by rw [← hx6]; exact (q_idx (α := Ev) (l := x1.1) g5 rfl rfl rfl rfl rfl)) ?_
 refine h_o (a := .iptr (List.drop 0 (Enc.cells x6 ++ Enc.cellsL (List.drop (Int.toNat (0 : Int) + 1) x1.1)))) ?_
 refine h_o (a := .u x6.k) ?_
 refine h_mv ?_
 refine bif_e h (fun hc10 h => ?_) (fun hc10 h => ?_)
 refine h_o (a := .b true) (h := q_bool rfl hc10) ?_
 refine h_po ?_
 refine h_po ?_
 refine h_po ?_
 refine h_po ?_
 refine h_po ?_
 refine h_o (a := .b true) ?_
 refine h_mv ?_
 refine h_end ?_
 refine w_mv ?_
 refine w_seq (w_region ?_)
 refine w_mv ?_
 refine w_mv ?_
 obtain ⟨g6, h⟩ := chk_e h
 refine w_o (a := .i (x1.2 + 1)) (h := op_q (q_add rfl rfl rfl rfl g6.1 g6.2)) ?_
 obtain ⟨g7, h⟩ := chk_e h
 obtain ⟨x7, hx7, h⟩ := letE_e h
 refine w_o (a := .s x7) (h := op_q (by rw [← hx7]; exact (q_sslL_ (l := s1.1) g7 rfl rfl rfl rfl))) ?_
 refine w_mv ?_
 refine w_region (k0 := 0) (id := 17) ?_
 refine w_mv ?_
 obtain ⟨g8, h⟩ := chk_e h
 refine w_o (a := .i (s1.2.2.2.2.1 + 1)) (h := op_q (q_add rfl rfl rfl rfl g8.1 g8.2)) ?_
 refine w_mv ?_
 refine loop_next (p := p1) (x7, (s1.2.1 ++ x1.1), true, x6.k, (s1.2.2.2.2.1 + 1), s1.2.2.2.2.2) h ?_
 exact wm_of (bl 86 993) (by kernel_rfl) (by kernel_rfl)
 refine h_o (a := .b false) (h := q_bool rfl hc10) ?_
 refine h_met rfl rfl ?_
 refine h_mv ?_
 refine h_met rfl rfl ?_
 obtain ⟨g9, h⟩ := chk_e h
 obtain ⟨x8, hx8, h⟩ := letE_e h
 refine h_o (a := .iptr (Enc.cells x8 ++ Enc.cellsL (List.drop (Int.toNat (0 : Int) + 1) x1.1))) (h := by rw [← hx8]; exact (q_idx (α := Ev) (l := x1.1) g9 rfl rfl rfl rfl rfl)) ?_
 refine h_met rfl rfl ?_
 refine h_o (a := .iptr (List.drop 0 (Enc.cells x8 ++ Enc.cellsL (List.drop (Int.toNat (0 : Int) + 1) x1.1)))) ?_
 refine h_met rfl rfl ?_
 refine h_o (a := .u x8.k) ?_
 refine h_met rfl rfl ?_
 refine h_o (a := .b (x8.k == 3)) ?_
 refine h_o (a := .b (x8.k == 3)) ?_
 refine h_mv ?_
 refine h_end ?_
 refine w_mv ?_
 refine w_seq (w_region ?_)
 refine w_mv ?_
 refine w_mv ?_
 obtain ⟨g10, h⟩ := chk_e h
 refine w_o (a := .i (x1.2 + 1)) (h := op_q (q_add rfl rfl rfl rfl g10.1 g10.2)) ?_
 obtain ⟨g11, h⟩ := chk_e h
 obtain ⟨x9, hx9, h⟩ := letE_e h
 refine w_o (a := .s x9) (h := op_q (by rw [← hx9]; exact (q_sslL_ (l := s1.1) g11 rfl rfl rfl rfl))) ?_
 refine w_mv ?_
 refine w_region (k0 := 0) (id := 17) ?_
 refine w_mv ?_
 obtain ⟨g12, h⟩ := chk_e h
 refine w_o (a := .i (s1.2.2.2.2.1 + 1)) (h := op_q (q_add rfl rfl rfl rfl g12.1 g12.2)) ?_
 refine w_mv ?_
 refine loop_next (p := p1) (x9, (s1.2.1 ++ x1.1), (x8.k == 3), x6.k, (s1.2.2.2.2.1 + 1), s1.2.2.2.2.2) h ?_
 exact wm_of (bl 86 993) (by kernel_rfl) (by kernel_rfl)
 intro j1 h
 refine w_start (by dsimp only [setAll, topAll, List.foldl, List.set]) rfl ?_
 refine w_seq ?_
 refine w_seq (w_region ?_)
 refine w_mv ?_
 refine w_o (a := .b (j1.2.2 != 0)) ?_
 refine bif_e h (fun hc11 h => ?_) (fun hc11 h => ?_)
 refine w_condT hc11 rfl ?_
 refine w_seq (w_region ?_)
 refine w_mv ?_
 refine w_mv ?_
 refine w_o (a := .list 0 [] .full) ?_
 refine w_mv ?_
 refine w_mv ?_
 exact end_pureF (fun (r : ((List Ev) × Int × Int)) => (.tup [.list (List.length (r.1 : List Ev)) (Enc.cellsL (r.1 : List Ev)) .none, .i r.2.1, .i r.2.2] : AV)) h (a := .tup [.list 0 [] .full, .i j1.2.1, .i j1.2.2]) rfl (show okTrimL _ _ = true from (by kernel_rfl)) (show AV.tup (stripL _) = _ from congrArg AV.tup (stripL_cons rfl (stripL_cons rfl (stripL_cons rfl rfl))))
 refine w_condF hc11 rfl ?_
 refine w_seq (w_region ?_)
 refine w_mv ?_
 refine w_mv ?_
 refine w_o (a := .i (-1)) ?_
 refine w_o (a := .i 0) ?_
 exact end_pureF (fun (r : ((List Ev) × Int × Int)) => (.tup [.list (List.length (r.1 : List Ev)) (Enc.cellsL (r.1 : List Ev)) .none, .i r.2.1, .i r.2.2] : AV)) h (a := .tup [(ownAV (List.length (j1.1 : List Ev)) (Enc.cellsL (j1.1 : List Ev))), .i (-1), .i 0]) rfl (show okTrimL _ _ = true from (okTrimL_cons (okTrim_own (Enc.cloL _)) (by kernel_rfl))) (show AV.tup (stripL _) = _ from congrArg AV.tup (stripL_cons (strip_o (Enc.cloL _) Enc.z) (stripL_cons rfl (stripL_cons rfl rfl))))
end Go.Ab

