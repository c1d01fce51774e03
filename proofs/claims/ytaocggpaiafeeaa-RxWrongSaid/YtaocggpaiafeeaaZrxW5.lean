/-
  RxWrong, walked.
-/
import Derived.Test.YtaocggpaiafeeaaZrxEn
set_option linter.unusedSimpArgs false
set_option linter.unusedVariables false
namespace Go.Ab
open Go Go.RowKit Go.Fwd Go.Proofs

def F_rxwrong (fuel : Nat) (k : (List Sm)) (l : (List Sm)) (way : Int) : Option Bool :=
  (chk (k.length < 2 ^ 63) (letE (madeT k) (fun x1 => (chk (l.length < 2 ^ 63) (letE (madeT l) (fun x2 => (letE (clsT [97]) (fun x3 => (chk (0 ≤ (IntKind.u8.wrap (7 + (Int.tmod way 200)))) (letE (Tr.mk 3 0#256 0 0 [x3]) (fun x4 => (letE (Tr.mk 4 0#256 0 0 [x2]) (fun x5 => (letE (Tr.mk 3 0#256 0 0 [x3, (Tr.mk 1 (0#256) 0 0 [])]) (fun x6 => (letE (Tr.mk 3 0#256 0 0 [x3, x3]) (fun x7 => (letE (Tr.mk 3 0#256 0 0 [x3, x7]) (fun x8 => (letE (Tr.mk 4 0#256 0 0 [x3, x3]) (fun x9 => (letE (Tr.mk 4 0#256 0 0 [x3, x9]) (fun x10 => (letE (Tr.mk 5 0#256 1 1 [x3]) (fun x11 => (letE (Tr.mk 5 0#256 2 1 [x3]) (fun x12 => (letE (Tr.mk 5 0#256 0 1 [(Tr.mk 1 (0#256) 0 0 [])]) (fun x13 => (chk (0 ≤ (Int.tmod way 12) ∧ (Int.tmod way 12) < (List.length [(Tr.mk 0 (0#256) 0 0 []), (Tr.mk (Int.toNat (IntKind.u8.wrap (7 + (Int.tmod way 200)))) (0#256) 0 0 []), x4, x5, x6, x8, x10, x11, x12, x13, (Tr.mk 2 (0#256) 0 0 []), (Tr.mk 6 (0#256) 0 0 [x3, x3])] : Int)) (letE (ix [(Tr.mk 0 (0#256) 0 0 []), (Tr.mk (Int.toNat (IntKind.u8.wrap (7 + (Int.tmod way 200)))) (0#256) 0 0 []), x4, x5, x6, x8, x10, x11, x12, x13, (Tr.mk 2 (0#256) 0 0 []), (Tr.mk 6 (0#256) 0 0 [x3, x3])] (Int.tmod way 12)) (fun x14 => (letE (Tr.mk 6 0#256 0 0 [x1]) (fun x15 => (letE (Tr.mk 6 0#256 0 0 [x14]) (fun x16 => (letE (Tr.mk 6 0#256 0 0 [x2]) (fun x17 => (letE (Tr.mk 3 0#256 0 0 [x15, x16, x17]) (fun x18 => (chk ((pre x18).length < 2 ^ 61) (letE (cleanT x18) (fun x19 => (bif x19 then (some false) else (chk ((pre (Rgx.mk false false x18).t).length < 2 ^ 61) (letE (checkE (Rgx.mk false false x18).t) (fun x20 => (bif (x20 != 80) then (some false) else (chk ((pre x14).length < 2 ^ 61) (letE (cleanT x14) (fun x21 => (bif x21 then (some false) else (cutE (τ := Unit) (chk ((preL [x1, x18]).length ≤ 2 ^ 40) (letE (seqT [x1, x18]) (fun x22 => (chk ((preL [x18, x2]).length ≤ 2 ^ 40) (letE (orT [x18, x2]) (fun x23 => (chk ((pre x18).length < 2 ^ 61) (letE (timesT x18 0 (-1)) (fun x24 => (chk ((pre x18).length < 2 ^ 61) (letE (captureT x18) (fun x25 => (chk ((pre x14).length < 2 ^ 61) (letE (captureT x14) (fun x26 => (chk ((preL [x14]).length ≤ 2 ^ 40) (letE (seqT [x14]) (fun x27 => (loopE (β := Int) (fun s1 => (bif (decide (s1 < (List.length [x22, x23, x24, x25, x26, x27] : Int))) then (chk (0 ≤ s1 ∧ s1 < (List.length [x22, x23, x24, x25, x26, x27] : Int)) (letE (ix [x22, x23, x24, x25, x26, x27] s1) (fun x28 => (bif (((x28.k : Nat) : Int) != 0) then (some (Sum.inr (Sum.inr false))) else (bif ((List.length x28.l : Int) != 0) then (some (Sum.inr (Sum.inr false))) else (chk (-9223372036854775808 ≤ (s1 + 1) ∧ (s1 + 1) < 9223372036854775808) (some (Sum.inl ((s1 + 1)))))))))) else (some (Sum.inr (Sum.inl ()))))) fuel (0)))))))))))))))))))) (fun j1 => (letE (ofT (0#256)) (fun x29 => (bif (((x29.k : Nat) : Int) == 0) then (chk ((pre x18).length < 2 ^ 61 ∧ (pre x18).length < 2 ^ 61) (letE (sameB x18 x18) (fun x30 => (some x30)))) else (some false))))))))))))))))))))))))))))))))))))))))))))))))))))))))))
theorem ent5 : Ent Try.prog 5 := enters_of Try.func5 (by kernel_rfl) rfl
set_option maxRecDepth 100000 in
set_option maxHeartbeats 4000000 in
theorem rxwrong_sh (fuel : Nat) (k : (List Sm)) (l : (List Sm)) (way : Int) (r : Bool) (h : F_rxwrong fuel k l way = some r) : Pure (ITP Try.prog) Try.prog 5 [.list (List.length (k : List Sm)) (Enc.cellsL (k : List Sm)) .none, .list (List.length (l : List Sm)) (Enc.cellsL (l : List Sm)) .none, .raw (.int .u8 way)] (.raw (.bool r)) := by
  obtain ⟨d, hd⟩ : ∃ d, Try.f5.body = some d := ⟨_, rfl⟩
  refine pure_of mix Try.func5 hd ent5 ?_
  cases hd
  unfold F_rxwrong at h
  refine w_start (by dsimp only [abeginS, Try.f5, List.length_cons, List.length_nil, Nat.zero_add, Nat.reduceAdd, Nat.reduceSub, List.replicate, List.cons_append, List.nil_append]) (by dsimp only [St.empty]) ?_
  refine w_seq (w_region ?_)
  refine w_op (a := .raw (.bool false)) rfl rfl rfl rfl (by dsimp only [aput, List.set]) ?_
  refine w_seq ?_
  refine w_seq (w_region ?_)
  refine w_callc (args' := []) (r := .raw (.bool true)) k_awake rfl rfl rfl rfl (by dsimp only [aput, List.set]) ?_
  refine w_op (a := .raw (.bool false)) rfl rfl rfl rfl (by dsimp only [aput, List.set]) ?_
  refine w_false rfl ?_
  refine w_seq (w_region ?_)
  refine w_op (a := .list (List.length (k : List Sm)) (Enc.cellsL (k : List Sm)) .none) rfl rfl rfl rfl (by dsimp only [aput, List.set]) ?_
  obtain ⟨g1, h⟩ := chk_e h
  obtain ⟨x1, hx1, h⟩ := letE_e h
  refine w_callc (args' := [.list (List.length (k : List Sm)) (Enc.cellsL (k : List Sm)) .none]) (r := .agg (Enc.cells (x1 : Tr))) (by rw [← hx1]; exact (k_made k g1)) rfl rfl (stripL_cons (strip_l (Enc.cloL _)) rfl) (okTrimL_cons (okTrim_l (Enc.cloL _)) rfl) (by dsimp only [aput, List.set]) ?_
  refine w_op (a := .list (List.length (l : List Sm)) (Enc.cellsL (l : List Sm)) .none) rfl rfl rfl rfl (by dsimp only [aput, List.set]) ?_
  obtain ⟨g2, h⟩ := chk_e h
  obtain ⟨x2, hx2, h⟩ := letE_e h
  refine w_callc (args' := [.list (List.length (l : List Sm)) (Enc.cellsL (l : List Sm)) .none]) (r := .agg (Enc.cells (x2 : Tr))) (by rw [← hx2]; exact (k_made l g2)) rfl rfl (stripL_cons (strip_l (Enc.cloL _)) rfl) (okTrimL_cons (okTrim_l (Enc.cloL _)) rfl) (by dsimp only [aput, List.set]) ?_
  refine w_opm (a := .ptr 0 0) (σ'' := ⟨[(29, [.raw (.int .u8 0), .raw (.int .u64 0), .raw (.int .u64 0), .raw (.int .u64 0), .raw (.int .u64 0), .raw (.int .i64 0), .raw (.int .i64 0), .list 0 [] .full])], [], [], 0, false⟩) rfl rfl rfl rfl (by dsimp only [aput, List.set]) rfl ?_
  refine w_opm (a := .ptr 1 0) (σ'' := ⟨[(29, [.raw (.int .u8 0), .raw (.int .u64 0), .raw (.int .u64 0), .raw (.int .u64 0), .raw (.int .u64 0), .raw (.int .i64 0), .raw (.int .i64 0), .list 0 [] .full]), (29, [.raw (.int .u8 0), .raw (.int .u64 0), .raw (.int .u64 0), .raw (.int .u64 0), .raw (.int .u64 0), .raw (.int .i64 0), .raw (.int .i64 0), .list 0 [] .full])], [], [], 0, false⟩) rfl rfl rfl rfl (by dsimp only [aput, List.set]) rfl ?_
  refine w_opm (σ'' := ⟨[(29, (Enc.cells (x1 : Tr))), (29, [.raw (.int .u8 0), .raw (.int .u64 0), .raw (.int .u64 0), .raw (.int .u64 0), .raw (.int .u64 0), .raw (.int .i64 0), .raw (.int .i64 0), .list 0 [] .full])], [], [], 0, false⟩) rfl rfl rfl (op_storeW (n := 8) rfl rfl rfl rfl rfl rfl rfl rfl (by decide)) (by dsimp only [aput, List.set]) rfl ?_
  refine w_opm (σ'' := ⟨[(29, (Enc.cells (x1 : Tr))), (29, (Enc.cells (x2 : Tr)))], [], [], 0, false⟩) rfl rfl rfl (op_storeW (n := 8) rfl rfl rfl rfl rfl rfl rfl rfl (by decide)) (by dsimp only [aput, List.set]) rfl ?_
  refine w_seq (w_region ?_)
  obtain ⟨x3, hx3, h⟩ := letE_e h
  refine w_callc (args' := [.raw (.string (bs ([97] : List UInt8)))]) (r := .agg (Enc.cells (x3 : Tr))) (by rw [← hx3]; exact (by rw [← enc_eq]; exact class_97)) rfl rfl (stripL_cons rfl rfl) (okTrimL_cons rfl rfl) (by dsimp only [aput, List.set]) ?_
  refine w_opm (a := .ptr 2 0) (σ'' := ⟨[(29, (Enc.cells (x1 : Tr))), (29, (Enc.cells (x2 : Tr))), (29, [.raw (.int .u8 0), .raw (.int .u64 0), .raw (.int .u64 0), .raw (.int .u64 0), .raw (.int .u64 0), .raw (.int .i64 0), .raw (.int .i64 0), .list 0 [] .full])], [], [], 0, false⟩) rfl rfl rfl rfl (by dsimp only [aput, List.set]) rfl ?_
  refine w_opm (σ'' := ⟨[(29, (Enc.cells (x1 : Tr))), (29, (Enc.cells (x2 : Tr))), (29, (Enc.cells (x3 : Tr)))], [], [], 0, false⟩) rfl rfl rfl (op_storeW (n := 8) rfl rfl rfl rfl rfl rfl rfl rfl (by decide)) (by dsimp only [aput, List.set]) rfl ?_
  refine w_seq (w_region ?_)
  refine w_qs (.agg (Enc.cells ((Tr.mk 1 (0#256) 0 0 []) : Tr))) (a0 := (nodeR (Tr.mk 1 (0#256) 0 0 []) .full)) rfl rfl rfl (by kernel_rfl) (strip_nodeR _ _) (by dsimp only [aput, List.set]) ?_
  refine w_opm (a := .ptr 3 0) (σ'' := ⟨[(29, (Enc.cells (x1 : Tr))), (29, (Enc.cells (x2 : Tr))), (29, (Enc.cells (x3 : Tr))), (29, [.raw (.int .u8 0), .raw (.int .u64 0), .raw (.int .u64 0), .raw (.int .u64 0), .raw (.int .u64 0), .raw (.int .i64 0), .raw (.int .i64 0), .list 0 [] .full])], [], [], 0, false⟩) rfl rfl rfl rfl (by dsimp only [aput, List.set]) rfl ?_
  refine w_opm (σ'' := ⟨[(29, (Enc.cells (x1 : Tr))), (29, (Enc.cells (x2 : Tr))), (29, (Enc.cells (x3 : Tr))), (29, (Enc.cells ((Tr.mk 1 (0#256) 0 0 []) : Tr)))], [], [], 0, false⟩) rfl rfl rfl (op_storeW (n := 8) rfl rfl rfl rfl rfl rfl rfl rfl (by decide)) (by dsimp only [aput, List.set]) rfl ?_
  refine w_seq ?_
  refine w_drawB (id := 6) 46 (by kernel_rfl) (by kernel_rfl) ?_
  refine hB_opS (a := .agg (Enc.cells ((Tr.mk 0 (0#256) 0 0 []) : Tr))) (a0 := (nodeR (Tr.mk 0 (0#256) 0 0 []) .full)) rfl rfl rfl rfl (by kernel_rfl) (strip_nodeR _ _) (by dsimp only [aput, List.set]) ?_
  refine hB_op (a := .raw (.int .u8 way)) rfl rfl rfl rfl rfl (by dsimp only [aput, List.set]) ?_
  refine hB_op (a := .raw (.int .u8 (Int.tmod way 200))) rfl rfl rfl rfl rfl (by dsimp only [aput, List.set]) ?_
  refine hB_op (a := .raw (.int .u8 (IntKind.u8.wrap (7 + (Int.tmod way 200))))) rfl rfl rfl rfl rfl (by dsimp only [aput, List.set]) ?_
  obtain ⟨g3, h⟩ := chk_e h
  refine hB_opS (a := .agg (Enc.cells ((Tr.mk (Int.toNat (IntKind.u8.wrap (7 + (Int.tmod way 200)))) (0#256) 0 0 []) : Tr))) rfl rfl rfl rfl rfl (by rw [cells_kind g3]; simp only [strip, stripL, Enc.stripL] <;> rfl) (by dsimp only [aput, List.set]) ?_
  refine hB_op (a := .agg (Enc.cells (x3 : Tr))) rfl rfl rfl rfl rfl (by dsimp only [aput, List.set]) ?_
  refine hB_op (a := .list (List.length ([x3] : List Tr)) (Enc.cellsL ([x3] : List Tr)) .full) rfl rfl rfl rfl (q_lit (α := Tr) (l := [x3]) (cs := Enc.cells (x3 : Tr) ++ []) rfl (by rw [Enc.cons, Enc.nil])) (by dsimp only [aput, List.set]) ?_
  obtain ⟨x4, hx4, h⟩ := letE_e h
  refine hB_call (args' := [.list (List.length ([x3] : List Tr)) (Enc.cellsL ([x3] : List Tr)) .none]) (r := .agg (Enc.cells (x4 : Tr))) (by rw [← hx4]; exact (k_cat [x3])) rfl rfl rfl rfl (stripL_cons (strip_l (Enc.cloL _)) rfl) (okTrimL_cons (okTrim_l (Enc.cloL _)) rfl) (by dsimp only [aput, List.set]) ?_
  refine hB_op (a := .agg (Enc.cells (x2 : Tr))) rfl rfl rfl rfl rfl (by dsimp only [aput, List.set]) ?_
  refine hB_op (a := .list (List.length ([x2] : List Tr)) (Enc.cellsL ([x2] : List Tr)) .full) rfl rfl rfl rfl (q_lit (α := Tr) (l := [x2]) (cs := Enc.cells (x2 : Tr) ++ []) rfl (by rw [Enc.cons, Enc.nil])) (by dsimp only [aput, List.set]) ?_
  obtain ⟨x5, hx5, h⟩ := letE_e h
  refine hB_call (args' := [.list (List.length ([x2] : List Tr)) (Enc.cellsL ([x2] : List Tr)) .none]) (r := .agg (Enc.cells (x5 : Tr))) (by rw [← hx5]; exact (k_alt [x2])) rfl rfl rfl rfl (stripL_cons (strip_l (Enc.cloL _)) rfl) (okTrimL_cons (okTrim_l (Enc.cloL _)) rfl) (by dsimp only [aput, List.set]) ?_
  refine hB_op (a := .agg (Enc.cells (x3 : Tr))) rfl rfl rfl rfl rfl (by dsimp only [aput, List.set]) ?_
  refine hB_op (a := .agg (Enc.cells ((Tr.mk 1 (0#256) 0 0 []) : Tr))) rfl rfl rfl rfl rfl (by dsimp only [aput, List.set]) ?_
  refine hB_op (a := .list (List.length ([x3, (Tr.mk 1 (0#256) 0 0 [])] : List Tr)) (Enc.cellsL ([x3, (Tr.mk 1 (0#256) 0 0 [])] : List Tr)) .full) rfl rfl rfl rfl (q_lit (α := Tr) (l := [x3, (Tr.mk 1 (0#256) 0 0 [])]) (cs := Enc.cells (x3 : Tr) ++ (Enc.cells ((Tr.mk 1 (0#256) 0 0 []) : Tr) ++ [])) rfl (by rw [Enc.cons, Enc.cons, Enc.nil])) (by dsimp only [aput, List.set]) ?_
  obtain ⟨x6, hx6, h⟩ := letE_e h
  refine hB_call (args' := [.list (List.length ([x3, (Tr.mk 1 (0#256) 0 0 [])] : List Tr)) (Enc.cellsL ([x3, (Tr.mk 1 (0#256) 0 0 [])] : List Tr)) .none]) (r := .agg (Enc.cells (x6 : Tr))) (by rw [← hx6]; exact (k_cat [x3, (Tr.mk 1 (0#256) 0 0 [])])) rfl rfl rfl rfl (stripL_cons (strip_l (Enc.cloL _)) rfl) (okTrimL_cons (okTrim_l (Enc.cloL _)) rfl) (by dsimp only [aput, List.set]) ?_
  refine hB_op (a := .agg (Enc.cells (x3 : Tr))) rfl rfl rfl rfl rfl (by dsimp only [aput, List.set]) ?_
  refine hB_op (a := .agg (Enc.cells (x3 : Tr))) rfl rfl rfl rfl rfl (by dsimp only [aput, List.set]) ?_
  refine hB_op (a := .agg (Enc.cells (x3 : Tr))) rfl rfl rfl rfl rfl (by dsimp only [aput, List.set]) ?_
  refine hB_op (a := .list (List.length ([x3, x3] : List Tr)) (Enc.cellsL ([x3, x3] : List Tr)) .full) rfl rfl rfl rfl (q_lit (α := Tr) (l := [x3, x3]) (cs := Enc.cells (x3 : Tr) ++ (Enc.cells (x3 : Tr) ++ [])) rfl (by rw [Enc.cons, Enc.cons, Enc.nil])) (by dsimp only [aput, List.set]) ?_
  obtain ⟨x7, hx7, h⟩ := letE_e h
  refine hB_call (args' := [.list (List.length ([x3, x3] : List Tr)) (Enc.cellsL ([x3, x3] : List Tr)) .none]) (r := .agg (Enc.cells (x7 : Tr))) (by rw [← hx7]; exact (k_cat [x3, x3])) rfl rfl rfl rfl (stripL_cons (strip_l (Enc.cloL _)) rfl) (okTrimL_cons (okTrim_l (Enc.cloL _)) rfl) (by dsimp only [aput, List.set]) ?_
  refine hB_op (a := .list (List.length ([x3, x7] : List Tr)) (Enc.cellsL ([x3, x7] : List Tr)) .full) rfl rfl rfl rfl (q_lit (α := Tr) (l := [x3, x7]) (cs := Enc.cells (x3 : Tr) ++ (Enc.cells (x7 : Tr) ++ [])) rfl (by rw [Enc.cons, Enc.cons, Enc.nil])) (by dsimp only [aput, List.set]) ?_
  obtain ⟨x8, hx8, h⟩ := letE_e h
  refine hB_call (args' := [.list (List.length ([x3, x7] : List Tr)) (Enc.cellsL ([x3, x7] : List Tr)) .none]) (r := .agg (Enc.cells (x8 : Tr))) (by rw [← hx8]; exact (k_cat [x3, x7])) rfl rfl rfl rfl (stripL_cons (strip_l (Enc.cloL _)) rfl) (okTrimL_cons (okTrim_l (Enc.cloL _)) rfl) (by dsimp only [aput, List.set]) ?_
  refine hB_op (a := .agg (Enc.cells (x3 : Tr))) rfl rfl rfl rfl rfl (by dsimp only [aput, List.set]) ?_
  refine hB_op (a := .agg (Enc.cells (x3 : Tr))) rfl rfl rfl rfl rfl (by dsimp only [aput, List.set]) ?_
  refine hB_op (a := .agg (Enc.cells (x3 : Tr))) rfl rfl rfl rfl rfl (by dsimp only [aput, List.set]) ?_
  refine hB_op (a := .list (List.length ([x3, x3] : List Tr)) (Enc.cellsL ([x3, x3] : List Tr)) .full) rfl rfl rfl rfl (q_lit (α := Tr) (l := [x3, x3]) (cs := Enc.cells (x3 : Tr) ++ (Enc.cells (x3 : Tr) ++ [])) rfl (by rw [Enc.cons, Enc.cons, Enc.nil])) (by dsimp only [aput, List.set]) ?_
  obtain ⟨x9, hx9, h⟩ := letE_e h
  refine hB_call (args' := [.list (List.length ([x3, x3] : List Tr)) (Enc.cellsL ([x3, x3] : List Tr)) .none]) (r := .agg (Enc.cells (x9 : Tr))) (by rw [← hx9]; exact (k_alt [x3, x3])) rfl rfl rfl rfl (stripL_cons (strip_l (Enc.cloL _)) rfl) (okTrimL_cons (okTrim_l (Enc.cloL _)) rfl) (by dsimp only [aput, List.set]) ?_
  refine hB_op (a := .list (List.length ([x3, x9] : List Tr)) (Enc.cellsL ([x3, x9] : List Tr)) .full) rfl rfl rfl rfl (q_lit (α := Tr) (l := [x3, x9]) (cs := Enc.cells (x3 : Tr) ++ (Enc.cells (x9 : Tr) ++ [])) rfl (by rw [Enc.cons, Enc.cons, Enc.nil])) (by dsimp only [aput, List.set]) ?_
  obtain ⟨x10, hx10, h⟩ := letE_e h
  refine hB_call (args' := [.list (List.length ([x3, x9] : List Tr)) (Enc.cellsL ([x3, x9] : List Tr)) .none]) (r := .agg (Enc.cells (x10 : Tr))) (by rw [← hx10]; exact (k_alt [x3, x9])) rfl rfl rfl rfl (stripL_cons (strip_l (Enc.cloL _)) rfl) (okTrimL_cons (okTrim_l (Enc.cloL _)) rfl) (by dsimp only [aput, List.set]) ?_
  refine hB_op (a := .agg (Enc.cells (x3 : Tr))) rfl rfl rfl rfl rfl (by dsimp only [aput, List.set]) ?_
  obtain ⟨x11, hx11, h⟩ := letE_e h
  refine hB_call (args' := [.agg (Enc.cells (x3 : Tr)), .raw (.int .i64 1), .raw (.int .i64 1)]) (r := .agg (Enc.cells (x11 : Tr))) (by rw [← hx11]; exact (k_rep x3 1 1)) rfl rfl rfl rfl (stripL_cons (strip_c (clo_agg (Enc.clo _))) (stripL_cons rfl (stripL_cons rfl rfl))) (okTrimL_cons (okTrim_clo _ _ (clo_agg (Enc.clo _))) (okTrimL_cons rfl (okTrimL_cons rfl rfl))) (by dsimp only [aput, List.set]) ?_
  refine hB_op (a := .agg (Enc.cells (x3 : Tr))) rfl rfl rfl rfl rfl (by dsimp only [aput, List.set]) ?_
  obtain ⟨x12, hx12, h⟩ := letE_e h
  refine hB_call (args' := [.agg (Enc.cells (x3 : Tr)), .raw (.int .i64 2), .raw (.int .i64 1)]) (r := .agg (Enc.cells (x12 : Tr))) (by rw [← hx12]; exact (k_rep x3 2 1)) rfl rfl rfl rfl (stripL_cons (strip_c (clo_agg (Enc.clo _))) (stripL_cons rfl (stripL_cons rfl rfl))) (okTrimL_cons (okTrim_clo _ _ (clo_agg (Enc.clo _))) (okTrimL_cons rfl (okTrimL_cons rfl rfl))) (by dsimp only [aput, List.set]) ?_
  refine hB_op (a := .agg (Enc.cells ((Tr.mk 1 (0#256) 0 0 []) : Tr))) rfl rfl rfl rfl rfl (by dsimp only [aput, List.set]) ?_
  obtain ⟨x13, hx13, h⟩ := letE_e h
  refine hB_call (args' := [.agg (Enc.cells ((Tr.mk 1 (0#256) 0 0 []) : Tr)), .raw (.int .i64 0), .raw (.int .i64 1)]) (r := .agg (Enc.cells (x13 : Tr))) (by rw [← hx13]; exact (k_rep (Tr.mk 1 (0#256) 0 0 []) 0 1)) rfl rfl rfl rfl (stripL_cons (strip_c (clo_agg (Enc.clo _))) (stripL_cons rfl (stripL_cons rfl rfl))) (okTrimL_cons (okTrim_clo _ _ (clo_agg (Enc.clo _))) (okTrimL_cons rfl (okTrimL_cons rfl rfl))) (by dsimp only [aput, List.set]) ?_
  refine hB_opS (a := .agg (Enc.cells ((Tr.mk 2 (0#256) 0 0 []) : Tr))) (a0 := (nodeR (Tr.mk 2 (0#256) 0 0 []) .full)) rfl rfl rfl rfl (by kernel_rfl) (strip_nodeR _ _) (by dsimp only [aput, List.set]) ?_
  refine hB_op (a := .agg (Enc.cells (x3 : Tr))) rfl rfl rfl rfl rfl (by dsimp only [aput, List.set]) ?_
  refine hB_op (a := .agg (Enc.cells (x3 : Tr))) rfl rfl rfl rfl rfl (by dsimp only [aput, List.set]) ?_
  refine hB_op (a := .list (List.length ([x3, x3] : List Tr)) (Enc.cellsL ([x3, x3] : List Tr)) .full) rfl rfl rfl rfl (q_lit (α := Tr) (l := [x3, x3]) (cs := Enc.cells (x3 : Tr) ++ (Enc.cells (x3 : Tr) ++ [])) rfl (by rw [Enc.cons, Enc.cons, Enc.nil])) (by dsimp only [aput, List.set]) ?_
  refine hB_opS (a := .agg (Enc.cells ((Tr.mk 6 (0#256) 0 0 [x3, x3]) : Tr))) (a0 := (nodeR (Tr.mk 6 (0#256) 0 0 [x3, x3]) .full)) rfl rfl rfl rfl (by kernel_rfl) (strip_nodeR _ _) (by dsimp only [aput, List.set]) ?_
  refine hB_op (a := .list (List.length ([(Tr.mk 0 (0#256) 0 0 []), (Tr.mk (Int.toNat (IntKind.u8.wrap (7 + (Int.tmod way 200)))) (0#256) 0 0 []), x4, x5, x6, x8, x10, x11, x12, x13, (Tr.mk 2 (0#256) 0 0 []), (Tr.mk 6 (0#256) 0 0 [x3, x3])] : List Tr)) (Enc.cellsL ([(Tr.mk 0 (0#256) 0 0 []), (Tr.mk (Int.toNat (IntKind.u8.wrap (7 + (Int.tmod way 200)))) (0#256) 0 0 []), x4, x5, x6, x8, x10, x11, x12, x13, (Tr.mk 2 (0#256) 0 0 []), (Tr.mk 6 (0#256) 0 0 [x3, x3])] : List Tr)) .full) rfl rfl rfl rfl (q_lit (α := Tr) (l := [(Tr.mk 0 (0#256) 0 0 []), (Tr.mk (Int.toNat (IntKind.u8.wrap (7 + (Int.tmod way 200)))) (0#256) 0 0 []), x4, x5, x6, x8, x10, x11, x12, x13, (Tr.mk 2 (0#256) 0 0 []), (Tr.mk 6 (0#256) 0 0 [x3, x3])]) (cs := Enc.cells ((Tr.mk 0 (0#256) 0 0 []) : Tr) ++ (Enc.cells ((Tr.mk (Int.toNat (IntKind.u8.wrap (7 + (Int.tmod way 200)))) (0#256) 0 0 []) : Tr) ++ (Enc.cells (x4 : Tr) ++ (Enc.cells (x5 : Tr) ++ (Enc.cells (x6 : Tr) ++ (Enc.cells (x8 : Tr) ++ (Enc.cells (x10 : Tr) ++ (Enc.cells (x11 : Tr) ++ (Enc.cells (x12 : Tr) ++ (Enc.cells (x13 : Tr) ++ (Enc.cells ((Tr.mk 2 (0#256) 0 0 []) : Tr) ++ (Enc.cells ((Tr.mk 6 (0#256) 0 0 [x3, x3]) : Tr) ++ [])))))))))))) (by kernel_rfl) (by rw [Enc.cons, Enc.cons, Enc.cons, Enc.cons, Enc.cons, Enc.cons, Enc.cons, Enc.cons, Enc.cons, Enc.cons, Enc.cons, Enc.cons, Enc.nil])) (by dsimp only [aput, List.set]) ?_
  refine hB_op (a := .raw (.int .u8 way)) rfl rfl rfl rfl rfl (by dsimp only [aput, List.set]) ?_
  refine hB_op (a := .raw (.int .u8 (Int.tmod way 12))) rfl rfl rfl rfl rfl (by dsimp only [aput, List.set]) ?_
  obtain ⟨g4, h⟩ := chk_e h
  obtain ⟨x14, hx14, h⟩ := letE_e h
  refine hB_op (a := .iptr (Enc.cells x14 ++ Enc.cellsL (List.drop (Int.toNat (Int.tmod way 12) + 1) [(Tr.mk 0 (0#256) 0 0 []), (Tr.mk (Int.toNat (IntKind.u8.wrap (7 + (Int.tmod way 200)))) (0#256) 0 0 []), x4, x5, x6, x8, x10, x11, x12, x13, (Tr.mk 2 (0#256) 0 0 []), (Tr.mk 6 (0#256) 0 0 [x3, x3])]))) rfl rfl rfl rfl (by rw [← hx14]; exact (q_idx (α := Tr) (l := [(Tr.mk 0 (0#256) 0 0 []), (Tr.mk (Int.toNat (IntKind.u8.wrap (7 + (Int.tmod way 200)))) (0#256) 0 0 []), x4, x5, x6, x8, x10, x11, x12, x13, (Tr.mk 2 (0#256) 0 0 []), (Tr.mk 6 (0#256) 0 0 [x3, x3])]) g4 rfl rfl rfl rfl rfl)) (by dsimp only [aput, List.set]) ?_
  refine hB_op (a := .agg (Enc.cells (x14 : Tr))) rfl rfl rfl rfl rfl (by dsimp only [aput, List.set]) ?_
  refine hB_new _ rfl rfl rfl rfl rfl rfl (by dsimp only [List.set]) ?_
  refine hB_doneF (n := 4) rfl (show _ = (⟨[(29, (Enc.cells (x1 : Tr))), (29, (Enc.cells (x2 : Tr))), (29, (Enc.cells (x3 : Tr))), (29, (Enc.cells ((Tr.mk 1 (0#256) 0 0 []) : Tr))), (29, [.raw (.int .u8 0), .raw (.int .u64 0), .raw (.int .u64 0), .raw (.int .u64 0), .raw (.int .u64 0), .raw (.int .i64 0), .raw (.int .i64 0), .list 0 [] .full])], [], [], 0, false⟩ : St) from rfl) (by dsimp only [List.nil_append, List.cons_append, pendS, List.set, Nat.reduceAdd]) ?_
  refine w_opm (σ'' := ⟨[(29, (Enc.cells (x1 : Tr))), (29, (Enc.cells (x2 : Tr))), (29, (Enc.cells (x3 : Tr))), (29, (Enc.cells ((Tr.mk 1 (0#256) 0 0 []) : Tr))), (29, (Enc.cells (x14 : Tr)))], [], [], 0, false⟩) rfl rfl rfl (op_storeW (n := 8) rfl rfl rfl rfl rfl rfl rfl rfl (by decide)) (by dsimp only [aput, List.set]) rfl ?_
  refine w_seq ?_
  refine w_drawB (id := 7) 9 (by kernel_rfl) (by kernel_rfl) ?_
  refine hB_op (a := .agg (Enc.cells (x1 : Tr))) rfl rfl rfl rfl rfl (by dsimp only [aput, List.set]) ?_
  obtain ⟨x15, hx15, h⟩ := letE_e h
  refine hB_call (args' := [.agg (Enc.cells (x1 : Tr))]) (r := .agg (Enc.cells (x15 : Tr))) (by rw [← hx15]; exact (k_group x1)) rfl rfl rfl rfl (stripL_cons (strip_c (clo_agg (Enc.clo _))) rfl) (okTrimL_cons (okTrim_clo _ _ (clo_agg (Enc.clo _))) rfl) (by dsimp only [aput, List.set]) ?_
  refine hB_op (a := .agg (Enc.cells (x14 : Tr))) rfl rfl rfl rfl rfl (by dsimp only [aput, List.set]) ?_
  obtain ⟨x16, hx16, h⟩ := letE_e h
  refine hB_call (args' := [.agg (Enc.cells (x14 : Tr))]) (r := .agg (Enc.cells (x16 : Tr))) (by rw [← hx16]; exact (k_group x14)) rfl rfl rfl rfl (stripL_cons (strip_c (clo_agg (Enc.clo _))) rfl) (okTrimL_cons (okTrim_clo _ _ (clo_agg (Enc.clo _))) rfl) (by dsimp only [aput, List.set]) ?_
  refine hB_op (a := .agg (Enc.cells (x2 : Tr))) rfl rfl rfl rfl rfl (by dsimp only [aput, List.set]) ?_
  obtain ⟨x17, hx17, h⟩ := letE_e h
  refine hB_call (args' := [.agg (Enc.cells (x2 : Tr))]) (r := .agg (Enc.cells (x17 : Tr))) (by rw [← hx17]; exact (k_group x2)) rfl rfl rfl rfl (stripL_cons (strip_c (clo_agg (Enc.clo _))) rfl) (okTrimL_cons (okTrim_clo _ _ (clo_agg (Enc.clo _))) rfl) (by dsimp only [aput, List.set]) ?_
  refine hB_op (a := .list (List.length ([x15, x16, x17] : List Tr)) (Enc.cellsL ([x15, x16, x17] : List Tr)) .full) rfl rfl rfl rfl (q_lit (α := Tr) (l := [x15, x16, x17]) (cs := Enc.cells (x15 : Tr) ++ (Enc.cells (x16 : Tr) ++ (Enc.cells (x17 : Tr) ++ []))) (by kernel_rfl) (by rw [Enc.cons, Enc.cons, Enc.cons, Enc.nil])) (by dsimp only [aput, List.set]) ?_
  obtain ⟨x18, hx18, h⟩ := letE_e h
  refine hB_call (args' := [.list (List.length ([x15, x16, x17] : List Tr)) (Enc.cellsL ([x15, x16, x17] : List Tr)) .none]) (r := .agg (Enc.cells (x18 : Tr))) (by rw [← hx18]; exact (k_cat [x15, x16, x17])) rfl rfl rfl rfl (stripL_cons (strip_l (Enc.cloL _)) rfl) (okTrimL_cons (okTrim_l (Enc.cloL _)) rfl) (by dsimp only [aput, List.set]) ?_
  refine hB_new _ rfl rfl rfl rfl rfl rfl (by dsimp only [List.set]) ?_
  refine hB_doneF (n := 5) rfl (show _ = (⟨[(29, (Enc.cells (x1 : Tr))), (29, (Enc.cells (x2 : Tr))), (29, (Enc.cells (x3 : Tr))), (29, (Enc.cells ((Tr.mk 1 (0#256) 0 0 []) : Tr))), (29, (Enc.cells (x14 : Tr))), (29, [.raw (.int .u8 0), .raw (.int .u64 0), .raw (.int .u64 0), .raw (.int .u64 0), .raw (.int .u64 0), .raw (.int .i64 0), .raw (.int .i64 0), .list 0 [] .full])], [], [], 0, false⟩ : St) from rfl) (by dsimp only [List.nil_append, List.cons_append, pendS, List.set, Nat.reduceAdd]) ?_
  refine w_opm (σ'' := ⟨[(29, (Enc.cells (x1 : Tr))), (29, (Enc.cells (x2 : Tr))), (29, (Enc.cells (x3 : Tr))), (29, (Enc.cells ((Tr.mk 1 (0#256) 0 0 []) : Tr))), (29, (Enc.cells (x14 : Tr))), (29, (Enc.cells (x18 : Tr)))], [], [], 0, false⟩) rfl rfl rfl (op_storeW (n := 8) rfl rfl rfl rfl rfl rfl rfl rfl (by decide)) (by dsimp only [aput, List.set]) rfl ?_
  refine w_seq ?_
  refine w_seq (w_region ?_)
  refine w_op (a := .agg (Enc.cells (x18 : Tr))) rfl rfl rfl rfl (by dsimp only [aput, List.set]) ?_
  obtain ⟨g5, h⟩ := chk_e h
  obtain ⟨x19, hx19, h⟩ := letE_e h
  refine w_callc (args' := [.agg (Enc.cells (x18 : Tr))]) (r := .raw (.bool x19)) (by rw [← hx19]; exact (k_clean x18 g5)) rfl rfl (stripL_cons (strip_c (clo_agg (Enc.clo _))) rfl) (okTrimL_cons (okTrim_clo _ _ (clo_agg (Enc.clo _))) rfl) (by dsimp only [aput, List.set]) ?_
  refine bif_e h (fun hc1 h => ?_) (fun hc1 h => ?_)
  ·
    refine w_op (a := .raw (.bool true)) rfl rfl rfl (op_q (q_bool rfl hc1)) (by dsimp only [aput, List.set]) ?_
    refine w_pass rfl rfl (by decide) (by dsimp only [aput, List.set]) ?_
    refine w_pass rfl rfl (by decide) (by dsimp only [aput, List.set]) ?_
    refine w_pass rfl rfl (by decide) (by dsimp only [aput, List.set]) ?_
    refine w_pass rfl rfl (by decide) (by dsimp only [aput, List.set]) ?_
    refine w_op (a := .raw (.bool true)) rfl rfl rfl rfl (by dsimp only [aput, List.set]) ?_
    refine w_op (a := .raw (.bool true)) rfl rfl rfl rfl (by dsimp only [aput, List.set]) ?_
    refine w_pass rfl rfl (by decide) (by dsimp only [aput, List.set]) ?_
    refine w_pass rfl rfl (by decide) (by dsimp only [aput, List.set]) ?_
    refine w_op (a := .raw (.bool true)) rfl rfl rfl rfl (by dsimp only [aput, List.set]) ?_
    refine w_true rfl ?_
    refine w_seq (w_region ?_)
    refine w_op (a := .raw (.bool false)) rfl rfl rfl rfl (by dsimp only [aput, List.set]) ?_
    exact end_pureF (fun (r : Bool) => (.raw (.bool r) : AV)) h (a := .raw (.bool false)) rfl rfl rfl
  ·
    refine w_op (a := .raw (.bool false)) rfl rfl rfl (op_q (q_bool rfl hc1)) (by dsimp only [aput, List.set]) ?_
    refine w_met rfl rfl ?_
    refine w_op (a := .agg (Enc.cells (x18 : Tr))) rfl rfl rfl rfl (by dsimp only [aput, List.set]) ?_
    refine w_met rfl rfl ?_
    refine w_op (a := .agg (Enc.cells ((Rgx.mk false false x18) : Rgx))) rfl rfl rfl rfl (by dsimp only [aput, List.set]) ?_
    refine w_met rfl rfl ?_
    obtain ⟨g6, h⟩ := chk_e h
    obtain ⟨x20, hx20, h⟩ := letE_e h
    refine w_callc (args' := [.agg (Enc.cells ((Rgx.mk false false x18) : Rgx))]) (r := .raw (.int .i64 x20)) (by rw [← hx20]; exact (k_check (Rgx.mk false false x18) g6)) rfl rfl (stripL_cons (strip_c (clo_agg (Enc.clo _))) rfl) (okTrimL_cons (okTrim_clo _ _ (clo_agg (Enc.clo _))) rfl) (by dsimp only [aput, List.set]) ?_
    refine w_met rfl rfl ?_
    refine w_op (a := .raw (.bool (x20 != 80))) rfl rfl rfl rfl (by dsimp only [aput, List.set]) ?_
    refine w_op (a := .raw (.bool (x20 != 80))) rfl rfl rfl rfl (by dsimp only [aput, List.set]) ?_
    refine bif_e h (fun hc2 h => ?_) (fun hc2 h => ?_)
    ·
      refine w_op (a := .raw (.bool true)) rfl rfl rfl (op_q (q_bool rfl hc2)) (by dsimp only [aput, List.set]) ?_
      refine w_pass rfl rfl (by decide) (by dsimp only [aput, List.set]) ?_
      refine w_pass rfl rfl (by decide) (by dsimp only [aput, List.set]) ?_
      refine w_op (a := .raw (.bool true)) rfl rfl rfl rfl (by dsimp only [aput, List.set]) ?_
      refine w_true rfl ?_
      refine w_seq (w_region ?_)
      refine w_op (a := .raw (.bool false)) rfl rfl rfl rfl (by dsimp only [aput, List.set]) ?_
      exact end_pureF (fun (r : Bool) => (.raw (.bool r) : AV)) h (a := .raw (.bool false)) rfl rfl rfl
    ·
      refine w_op (a := .raw (.bool false)) rfl rfl rfl (op_q (q_bool rfl hc2)) (by dsimp only [aput, List.set]) ?_
      refine w_met rfl rfl ?_
      refine w_op (a := .agg (Enc.cells (x14 : Tr))) rfl rfl rfl rfl (by dsimp only [aput, List.set]) ?_
      refine w_met rfl rfl ?_
      obtain ⟨g7, h⟩ := chk_e h
      obtain ⟨x21, hx21, h⟩ := letE_e h
      refine w_callc (args' := [.agg (Enc.cells (x14 : Tr))]) (r := .raw (.bool x21)) (by rw [← hx21]; exact (k_clean x14 g7)) rfl rfl (stripL_cons (strip_c (clo_agg (Enc.clo _))) rfl) (okTrimL_cons (okTrim_clo _ _ (clo_agg (Enc.clo _))) rfl) (by dsimp only [aput, List.set]) ?_
      refine w_op (a := .raw (.bool x21)) rfl rfl rfl rfl (by dsimp only [aput, List.set]) ?_
      refine bif_e h (fun hc3 h => ?_) (fun hc3 h => ?_)
      ·
        refine w_condT hc3 rfl ?_
        refine w_seq (w_region ?_)
        refine w_op (a := .raw (.bool false)) rfl rfl rfl rfl (by dsimp only [aput, List.set]) ?_
        exact end_pureF (fun (r : Bool) => (.raw (.bool r) : AV)) h (a := .raw (.bool false)) rfl rfl rfl
      ·
        refine w_condF hc3 rfl ?_
        refine w_cutF h [0, 1, 2, 3, 4, 5, 6, 7, 8, 9, 10, 11, 13, 14, 15, 16, 17, 18, 19, 20, 21, 22, 23, 24, 25, 26, 27, 28, 29, 30, 31, 32, 33, 34, 35, 36, 37, 38, 39, 40, 41, 42, 43, 44, 45, 46, 47, 48, 49, 50, 51, 52, 53, 54, 55, 56, 57, 58, 59, 60, 61, 62, 63, 64, 65, 66, 67, 68, 69, 70, 71, 72, 73, 74, 75, 76, 77, 78, 79, 80, 81, 82, 83, 84, 85, 86, 87, 88, 89, 90, 91, 92, 93, 94, 95, 96, 97, 98, 99, 100, 101, 102, 103, 104, 105, 106, 107, 108, 109, 110, 111, 112, 113, 114, 115, 116, 117, 118, 119, 120, 121, 122, 123, 124, 125, 126, 127, 128, 129] (fun j1 => []) (fun j1 => ⟨[(29, (Enc.cells (x1 : Tr))), (29, (Enc.cells (x2 : Tr))), (29, (Enc.cells (x3 : Tr))), (29, (Enc.cells ((Tr.mk 1 (0#256) 0 0 []) : Tr))), (29, (Enc.cells (x14 : Tr))), (29, (Enc.cells (x18 : Tr)))], [], [], 0, false⟩) ?_ ?_
        ·
          intro or1 h hr1
          refine w_seq ?_
          refine w_draw (id := 10) 20 (by kernel_rfl) (by kernel_rfl) ?_
          refine h_op (a := .agg (Enc.cells (x1 : Tr))) rfl rfl rfl rfl (by dsimp only [aput, List.set]) ?_
          refine h_op (a := .agg (Enc.cells (x18 : Tr))) rfl rfl rfl rfl (by dsimp only [aput, List.set]) ?_
          refine h_op (a := .list (List.length ([x1, x18] : List Tr)) (Enc.cellsL ([x1, x18] : List Tr)) .full) rfl rfl rfl (q_lit (α := Tr) (l := [x1, x18]) (cs := Enc.cells (x1 : Tr) ++ (Enc.cells (x18 : Tr) ++ [])) rfl (by rw [Enc.cons, Enc.cons, Enc.nil])) (by dsimp only [aput, List.set]) ?_
          obtain ⟨g8, h⟩ := chk_e h
          obtain ⟨x22, hx22, h⟩ := letE_e h
          refine h_call (args' := [.list (List.length ([x1, x18] : List Tr)) (Enc.cellsL ([x1, x18] : List Tr)) .none]) (r := .agg (Enc.cells (x22 : Tr))) (by rw [← hx22]; exact (k_seq [x1, x18] g8)) rfl rfl rfl (stripL_cons (strip_l (Enc.cloL _)) rfl) (okTrimL_cons (okTrim_l (Enc.cloL _)) rfl) (by dsimp only [aput, List.set]) ?_
          refine h_op (a := .agg (Enc.cells (x18 : Tr))) rfl rfl rfl rfl (by dsimp only [aput, List.set]) ?_
          refine h_op (a := .agg (Enc.cells (x2 : Tr))) rfl rfl rfl rfl (by dsimp only [aput, List.set]) ?_
          refine h_op (a := .list (List.length ([x18, x2] : List Tr)) (Enc.cellsL ([x18, x2] : List Tr)) .full) rfl rfl rfl (q_lit (α := Tr) (l := [x18, x2]) (cs := Enc.cells (x18 : Tr) ++ (Enc.cells (x2 : Tr) ++ [])) rfl (by rw [Enc.cons, Enc.cons, Enc.nil])) (by dsimp only [aput, List.set]) ?_
          obtain ⟨g9, h⟩ := chk_e h
          obtain ⟨x23, hx23, h⟩ := letE_e h
          refine h_call (args' := [.list (List.length ([x18, x2] : List Tr)) (Enc.cellsL ([x18, x2] : List Tr)) .none]) (r := .agg (Enc.cells (x23 : Tr))) (by rw [← hx23]; exact (k_or [x18, x2] g9)) rfl rfl rfl (stripL_cons (strip_l (Enc.cloL _)) rfl) (okTrimL_cons (okTrim_l (Enc.cloL _)) rfl) (by dsimp only [aput, List.set]) ?_
          refine h_op (a := .agg (Enc.cells (x18 : Tr))) rfl rfl rfl rfl (by dsimp only [aput, List.set]) ?_
          obtain ⟨g10, h⟩ := chk_e h
          obtain ⟨x24, hx24, h⟩ := letE_e h
          refine h_call (args' := [.agg (Enc.cells (x18 : Tr)), .raw (.int .i64 0), .raw (.int .i64 (-1))]) (r := .agg (Enc.cells (x24 : Tr))) (by rw [← hx24]; exact (k_times x18 0 (-1) g10)) rfl rfl rfl (stripL_cons (strip_c (clo_agg (Enc.clo _))) (stripL_cons rfl (stripL_cons rfl rfl))) (okTrimL_cons (okTrim_clo _ _ (clo_agg (Enc.clo _))) (okTrimL_cons rfl (okTrimL_cons rfl rfl))) (by dsimp only [aput, List.set]) ?_
          refine h_op (a := .agg (Enc.cells (x18 : Tr))) rfl rfl rfl rfl (by dsimp only [aput, List.set]) ?_
          obtain ⟨g11, h⟩ := chk_e h
          obtain ⟨x25, hx25, h⟩ := letE_e h
          refine h_call (args' := [.agg (Enc.cells (x18 : Tr))]) (r := .agg (Enc.cells (x25 : Tr))) (by rw [← hx25]; exact (k_capture x18 g11)) rfl rfl rfl (stripL_cons (strip_c (clo_agg (Enc.clo _))) rfl) (okTrimL_cons (okTrim_clo _ _ (clo_agg (Enc.clo _))) rfl) (by dsimp only [aput, List.set]) ?_
          refine h_op (a := .agg (Enc.cells (x14 : Tr))) rfl rfl rfl rfl (by dsimp only [aput, List.set]) ?_
          obtain ⟨g12, h⟩ := chk_e h
          obtain ⟨x26, hx26, h⟩ := letE_e h
          refine h_call (args' := [.agg (Enc.cells (x14 : Tr))]) (r := .agg (Enc.cells (x26 : Tr))) (by rw [← hx26]; exact (k_capture x14 g12)) rfl rfl rfl (stripL_cons (strip_c (clo_agg (Enc.clo _))) rfl) (okTrimL_cons (okTrim_clo _ _ (clo_agg (Enc.clo _))) rfl) (by dsimp only [aput, List.set]) ?_
          refine h_op (a := .agg (Enc.cells (x14 : Tr))) rfl rfl rfl rfl (by dsimp only [aput, List.set]) ?_
          refine h_op (a := .list (List.length ([x14] : List Tr)) (Enc.cellsL ([x14] : List Tr)) .full) rfl rfl rfl (q_lit (α := Tr) (l := [x14]) (cs := Enc.cells (x14 : Tr) ++ []) rfl (by rw [Enc.cons, Enc.nil])) (by dsimp only [aput, List.set]) ?_
          obtain ⟨g13, h⟩ := chk_e h
          obtain ⟨x27, hx27, h⟩ := letE_e h
          refine h_call (args' := [.list (List.length ([x14] : List Tr)) (Enc.cellsL ([x14] : List Tr)) .none]) (r := .agg (Enc.cells (x27 : Tr))) (by rw [← hx27]; exact (k_seq [x14] g13)) rfl rfl rfl (stripL_cons (strip_l (Enc.cloL _)) rfl) (okTrimL_cons (okTrim_l (Enc.cloL _)) rfl) (by dsimp only [aput, List.set]) ?_
          refine h_op (a := .list (List.length ([x22, x23, x24, x25, x26, x27] : List Tr)) (Enc.cellsL ([x22, x23, x24, x25, x26, x27] : List Tr)) .full) rfl rfl rfl (q_lit (α := Tr) (l := [x22, x23, x24, x25, x26, x27]) (cs := Enc.cells (x22 : Tr) ++ (Enc.cells (x23 : Tr) ++ (Enc.cells (x24 : Tr) ++ (Enc.cells (x25 : Tr) ++ (Enc.cells (x26 : Tr) ++ (Enc.cells (x27 : Tr) ++ [])))))) (by kernel_rfl) (by rw [Enc.cons, Enc.cons, Enc.cons, Enc.cons, Enc.cons, Enc.cons, Enc.nil])) (by dsimp only [aput, List.set]) ?_
          refine h_op (a := .raw (.int .i64 (List.length [x22, x23, x24, x25, x26, x27] : Int))) rfl rfl rfl rfl (by dsimp only [aput, List.set]) ?_
          refine h_op (a := .raw (.int .i64 0)) rfl rfl rfl rfl (by dsimp only [aput, List.set]) ?_
          refine h_end ?_
          refine w_block ?_
          refine w_loopF h [0, 1, 2, 3, 4, 5, 6, 7, 8, 9, 10, 11, 13, 14, 15, 16, 17, 18, 19, 20, 21, 22, 23, 24, 25, 26, 27, 28, 29, 30, 31, 32, 33, 34, 35, 36, 37, 38, 39, 40, 41, 42, 43, 44, 45, 46, 47, 48, 49, 50, 51, 52, 53, 54, 55, 56, 57, 58, 59, 60, 61, 62, 63, 64, 65, 66, 67, 68, 69, 70, 71, 72, 73, 74, 75, 76, 77, 78, 79, 80, 81, 82, 83, 84, 85, 86, 87, 88, 89, 90, 91, 92, 93, 94, 95, 96, 97, 98, 99, 100, 101, 102, 103, 104, 107, 108, 109, 110, 111, 112, 113, 114, 115, 116, 117, 118, 119, 120, 121, 122, 123, 124, 125, 126, 127, 128, 129] (fun s1 => [(107, .raw (.int .i64 s1))]) (fun s1 => ⟨[(29, (Enc.cells (x1 : Tr))), (29, (Enc.cells (x2 : Tr))), (29, (Enc.cells (x3 : Tr))), (29, (Enc.cells ((Tr.mk 1 (0#256) 0 0 []) : Tr))), (29, (Enc.cells (x14 : Tr))), (29, (Enc.cells (x18 : Tr)))], [], [], 0, false⟩) ?_ ?_
          · exact wm_of [false, false, false, false, false, false, false, false, false, false, false, false, true, false, false, false, false, false, false, false, false, false, false, false, false, false, false, false, false, false, false, false, false, false, false, false, false, false, false, false, false, false, false, false, false, false, false, false, false, false, false, false, false, false, false, false, false, false, false, false, false, false, false, false, false, false, false, false, false, false, false, false, false, false, false, false, false, false, false, false, false, false, false, false, false, false, false, false, false, false, false, false, false, false, false, false, false, false, false, false, false, false, false, false, false, true, true, true, false, false, false, false, false, false, false, false, false, false, false, false, false, false, false, false, false, false, false, false, false, false] (by kernel_rfl) (by kernel_rfl)
          · intro s1 p1 h
            refine w_start (by dsimp only [setAll, topAll, List.foldl, List.set]) rfl ?_
            refine w_seq (w_region ?_)
            refine w_op (a := .raw (.bool (decide (s1 < (List.length [x22, x23, x24, x25, x26, x27] : Int))))) rfl rfl rfl rfl (by dsimp only [aput, List.set]) ?_
            refine w_seq ?_
            refine bif_e h (fun hc4 h => ?_) (fun hc4 h => ?_)
            ·
              refine w_condT hc4 rfl ?_
              refine w_seq ?_
              refine w_block ?_
              refine w_seq (w_region ?_)
              obtain ⟨g14, h⟩ := chk_e h
              obtain ⟨x28, hx28, h⟩ := letE_e h
              refine w_op (a := .iptr (Enc.cells x28 ++ Enc.cellsL (List.drop (Int.toNat s1 + 1) [x22, x23, x24, x25, x26, x27]))) rfl rfl rfl (op_q (by rw [← hx28]; exact (q_idx (α := Tr) (l := [x22, x23, x24, x25, x26, x27]) g14 rfl rfl rfl rfl rfl))) (by dsimp only [aput, List.set]) ?_
              refine w_op (a := .agg (Enc.cells (x28 : Tr))) rfl rfl rfl rfl (by dsimp only [aput, List.set]) ?_
              refine w_opm (a := .ptr 6 0) (σ'' := ⟨[(29, (Enc.cells (x1 : Tr))), (29, (Enc.cells (x2 : Tr))), (29, (Enc.cells (x3 : Tr))), (29, (Enc.cells ((Tr.mk 1 (0#256) 0 0 []) : Tr))), (29, (Enc.cells (x14 : Tr))), (29, (Enc.cells (x18 : Tr))), (29, [.raw (.int .u8 0), .raw (.int .u64 0), .raw (.int .u64 0), .raw (.int .u64 0), .raw (.int .u64 0), .raw (.int .i64 0), .raw (.int .i64 0), .list 0 [] .full])], [], [], 0, false⟩) rfl rfl rfl rfl (by dsimp only [aput, List.set]) rfl ?_
              refine w_opm (σ'' := ⟨[(29, (Enc.cells (x1 : Tr))), (29, (Enc.cells (x2 : Tr))), (29, (Enc.cells (x3 : Tr))), (29, (Enc.cells ((Tr.mk 1 (0#256) 0 0 []) : Tr))), (29, (Enc.cells (x14 : Tr))), (29, (Enc.cells (x18 : Tr))), (29, (Enc.cells (x28 : Tr)))], [], [], 0, false⟩) rfl rfl rfl (op_storeW (n := 8) rfl rfl rfl rfl rfl rfl rfl rfl (by decide)) (by dsimp only [aput, List.set]) rfl ?_
              refine w_seq (w_region ?_)
              refine w_op (a := .ptr 6 0) rfl rfl rfl rfl (by dsimp only [aput, List.set]) ?_
              refine w_op (a := .raw (.int .u8 ((x28.k : Nat) : Int))) rfl rfl rfl rfl (by dsimp only [aput, List.set]) ?_
              refine w_op (a := .raw (.bool (((x28.k : Nat) : Int) != 0))) rfl rfl rfl rfl (by dsimp only [aput, List.set]) ?_
              refine bif_e h (fun hc5 h => ?_) (fun hc5 h => ?_)
              ·
                refine w_op (a := .raw (.bool true)) rfl rfl rfl (op_q (q_bool rfl hc5)) (by dsimp only [aput, List.set]) ?_
                refine w_pass rfl rfl (by decide) (by dsimp only [aput, List.set]) ?_
                refine w_pass rfl rfl (by decide) (by dsimp only [aput, List.set]) ?_
                refine w_pass rfl rfl (by decide) (by dsimp only [aput, List.set]) ?_
                refine w_pass rfl rfl (by decide) (by dsimp only [aput, List.set]) ?_
                refine w_op (a := .raw (.bool true)) rfl rfl rfl rfl (by dsimp only [aput, List.set]) ?_
                refine w_true rfl ?_
                refine w_seq (w_region ?_)
                refine w_op (a := .raw (.bool false)) rfl rfl rfl rfl (by dsimp only [aput, List.set]) ?_
                refine loop_exit h (fun h => ?_)
                replace h := cut_inr h hr1
                exact end_pureF (fun (r : Bool) => (.raw (.bool r) : AV)) h (a := .raw (.bool false)) rfl rfl rfl
              ·
                refine w_op (a := .raw (.bool false)) rfl rfl rfl (op_q (q_bool rfl hc5)) (by dsimp only [aput, List.set]) ?_
                refine w_met rfl rfl ?_
                refine w_op (a := .ptr 6 7) rfl rfl rfl rfl (by dsimp only [aput, List.set]) ?_
                refine w_met rfl rfl ?_
                refine w_op (a := .list (List.length (x28.l : List Tr)) (Enc.cellsL (x28.l : List Tr)) .none) rfl rfl rfl rfl (by dsimp only [aput, List.set]) ?_
                refine w_met rfl rfl ?_
                refine w_op (a := .raw (.int .i64 (List.length x28.l : Int))) rfl rfl rfl rfl (by dsimp only [aput, List.set]) ?_
                refine w_met rfl rfl ?_
                refine w_op (a := .raw (.bool ((List.length x28.l : Int) != 0))) rfl rfl rfl rfl (by dsimp only [aput, List.set]) ?_
                refine w_op (a := .raw (.bool ((List.length x28.l : Int) != 0))) rfl rfl rfl rfl (by dsimp only [aput, List.set]) ?_
                refine bif_e h (fun hc6 h => ?_) (fun hc6 h => ?_)
                ·
                  refine w_condT hc6 rfl ?_
                  refine w_seq (w_region ?_)
                  refine w_op (a := .raw (.bool false)) rfl rfl rfl rfl (by dsimp only [aput, List.set]) ?_
                  refine loop_exit h (fun h => ?_)
                  replace h := cut_inr h hr1
                  exact end_pureF (fun (r : Bool) => (.raw (.bool r) : AV)) h (a := .raw (.bool false)) rfl rfl rfl
                ·
                  refine w_condF hc6 rfl ?_
                  refine w_region (id := 15) ?_
                  obtain ⟨g15, h⟩ := chk_e h
                  refine w_op (a := .raw (.int .i64 (s1 + 1))) rfl rfl rfl (op_q (q_add rfl rfl rfl rfl g15.1 g15.2)) (by dsimp only [aput, List.set]) ?_
                  refine w_op (a := .raw (.int .i64 (s1 + 1))) rfl rfl rfl rfl (by dsimp only [aput, List.set]) ?_
                  refine loop_next (p := p1) ((s1 + 1)) h ?_
                  exact wm_trim [false, false, false, false, false, false, false, false, false, false, false, false, true, false, false, false, false, false, false, false, false, false, false, false, false, false, false, false, false, false, false, false, false, false, false, false, false, false, false, false, false, false, false, false, false, false, false, false, false, false, false, false, false, false, false, false, false, false, false, false, false, false, false, false, false, false, false, false, false, false, false, false, false, false, false, false, false, false, false, false, false, false, false, false, false, false, false, false, false, false, false, false, false, false, false, false, false, false, false, false, false, false, false, false, false, true, true, true, false, false, false, false, false, false, false, false, false, false, false, false, false, false, false, false, false, false, false, false, false, false] 6 (by kernel_rfl) (Nat.le_of_ble_eq_true rfl) (okSt_of (okB_cons (okTrimL_clo _ _ (Enc.clo _)) (okB_cons (okTrimL_clo _ _ (Enc.clo _)) (okB_cons (okTrimL_clo _ _ (Enc.clo _)) (okB_cons (okTrimL_clo _ _ (Enc.clo _)) (okB_cons (okTrimL_clo _ _ (Enc.clo _)) (okB_cons (okTrimL_clo _ _ (Enc.clo _)) rfl))))))) (by dsimp only [setAll, topAll, List.foldl, List.set]; exact (okTrimL_cons rfl (okTrimL_cons rfl (okTrimL_cons rfl (okTrimL_cons rfl (okTrimL_cons rfl (okTrimL_cons rfl (okTrimL_cons rfl (okTrimL_cons rfl (okTrimL_cons rfl (okTrimL_cons rfl (okTrimL_cons rfl (okTrimL_cons rfl (okTrimL_cons (by decide) (okTrimL_cons rfl (okTrimL_cons rfl (okTrimL_cons rfl (okTrimL_cons rfl (okTrimL_cons rfl (okTrimL_cons rfl (okTrimL_cons rfl (okTrimL_cons rfl (okTrimL_cons rfl (okTrimL_cons rfl (okTrimL_cons rfl (okTrimL_cons rfl (okTrimL_cons rfl (okTrimL_cons rfl (okTrimL_cons rfl (okTrimL_cons rfl (okTrimL_cons rfl (okTrimL_cons rfl (okTrimL_cons rfl (okTrimL_cons rfl (okTrimL_cons rfl (okTrimL_cons rfl (okTrimL_cons rfl (okTrimL_cons rfl (okTrimL_cons rfl (okTrimL_cons rfl (okTrimL_cons rfl (okTrimL_cons rfl (okTrimL_cons rfl (okTrimL_cons rfl (okTrimL_cons rfl (okTrimL_cons rfl (okTrimL_cons rfl (okTrimL_cons rfl (okTrimL_cons rfl (okTrimL_cons rfl (okTrimL_cons rfl (okTrimL_cons rfl (okTrimL_cons rfl (okTrimL_cons rfl (okTrimL_cons rfl (okTrimL_cons rfl (okTrimL_cons rfl (okTrimL_cons rfl (okTrimL_cons rfl (okTrimL_cons rfl (okTrimL_cons rfl (okTrimL_cons rfl (okTrimL_cons rfl (okTrimL_cons rfl (okTrimL_cons rfl (okTrimL_cons rfl (okTrimL_cons rfl (okTrimL_cons rfl (okTrimL_cons rfl (okTrimL_cons rfl (okTrimL_cons rfl (okTrimL_cons rfl (okTrimL_cons rfl (okTrimL_cons rfl (okTrimL_cons rfl (okTrimL_cons rfl (okTrimL_cons rfl (okTrimL_cons rfl (okTrimL_cons rfl (okTrimL_cons rfl (okTrimL_cons rfl (okTrimL_cons rfl (okTrimL_cons rfl (okTrimL_cons rfl (okTrimL_cons rfl (okTrimL_cons rfl (okTrimL_cons rfl (okTrimL_cons rfl (okTrimL_cons rfl (okTrimL_cons rfl (okTrimL_cons rfl (okTrimL_cons rfl (okTrimL_cons rfl (okTrimL_cons rfl (okTrimL_cons rfl (okTrimL_cons rfl (okTrimL_cons rfl (okTrimL_cons rfl (okTrimL_cons rfl (okTrimL_cons rfl (okTrimL_cons rfl (okTrimL_cons rfl (okTrimL_cons rfl (okTrimL_cons rfl (okTrimL_cons rfl (okTrimL_cons rfl (okTrimL_cons (okTrim_l (Enc.cloL _)) (okTrimL_cons rfl (okTrimL_cons rfl (okTrimL_cons rfl (okTrimL_cons rfl (okTrimL_cons rfl (okTrimL_cons rfl (okTrimL_cons rfl (okTrimL_cons rfl (okTrimL_cons rfl (okTrimL_cons rfl (okTrimL_cons rfl (okTrimL_cons rfl (okTrimL_cons rfl (okTrimL_cons rfl (okTrimL_cons rfl (okTrimL_cons rfl (okTrimL_cons rfl (okTrimL_cons rfl (okTrimL_cons rfl (okTrimL_cons rfl (okTrimL_cons rfl (okTrimL_cons rfl (okTrimL_cons rfl (okTrimL_cons rfl rfl))))))))))))))))))))))))))))))))))))))))))))))))))))))))))))))))))))))))))))))))))))))))))))))))))))))))))))))))))))))))))))))))))) (by kernel_rfl)
            ·
              refine w_condF hc4 rfl ?_
              refine loop_exit h (fun h => ?_)
              refine cut_done (o := or1) () h ?_
              exact wm_of [false, false, false, false, false, false, false, false, false, false, false, false, true, false, false, false, false, false, false, false, false, false, false, false, false, false, false, false, false, false, false, false, false, false, false, false, false, false, false, false, false, false, false, false, false, false, false, false, false, false, false, false, false, false, false, false, false, false, false, false, false, false, false, false, false, false, false, false, false, false, false, false, false, false, false, false, false, false, false, false, false, false, false, false, false, false, false, false, false, false, false, false, false, false, false, false, false, false, false, false, false, false, false, false, false, false, false, false, false, false, false, false, false, false, false, false, false, false, false, false, false, false, false, false, false, false, false, false, false, false] (by kernel_rfl) (by kernel_rfl)
        ·
          intro j1 h
          refine w_start (by dsimp only [setAll, topAll, List.foldl, List.set]) rfl ?_
          refine w_seq (w_region ?_)
          refine w_op (a := .agg (Enc.cells (0#256 : BS))) rfl rfl rfl rfl (by dsimp only [aput, List.set]) ?_
          obtain ⟨x29, hx29, h⟩ := letE_e h
          refine w_callc (args' := [.agg (Enc.cells (0#256 : BS))]) (r := .agg (Enc.cells (x29 : Tr))) (by rw [← hx29]; exact (k_of (0#256))) rfl rfl (stripL_cons (strip_c (clo_agg (Enc.clo _))) rfl) (okTrimL_cons (okTrim_clo _ _ (clo_agg (Enc.clo _))) rfl) (by dsimp only [aput, List.set]) ?_
          refine w_op (a := .raw (.int .u8 ((x29.k : Nat) : Int))) rfl rfl rfl rfl (by dsimp only [aput, List.set]) ?_
          refine w_op (a := .raw (.bool (((x29.k : Nat) : Int) == 0))) rfl rfl rfl rfl (by dsimp only [aput, List.set]) ?_
          refine bif_e h (fun hc7 h => ?_) (fun hc7 h => ?_)
          ·
            refine w_op (a := .raw (.bool true)) rfl rfl rfl (op_q (q_bool rfl hc7)) (by dsimp only [aput, List.set]) ?_
            refine w_met rfl rfl ?_
            refine w_op (a := .agg (Enc.cells (x18 : Tr))) rfl rfl rfl rfl (by dsimp only [aput, List.set]) ?_
            refine w_met rfl rfl ?_
            refine w_op (a := .agg (Enc.cells (x18 : Tr))) rfl rfl rfl rfl (by dsimp only [aput, List.set]) ?_
            refine w_met rfl rfl ?_
            obtain ⟨g16, h⟩ := chk_e h
            obtain ⟨x30, hx30, h⟩ := letE_e h
            refine w_callc (args' := [.agg (Enc.cells (x18 : Tr)), .agg (Enc.cells (x18 : Tr))]) (r := .raw (.bool x30)) (by rw [← hx30]; exact (k_same x18 x18 g16)) rfl rfl (stripL_cons (strip_c (clo_agg (Enc.clo _))) (stripL_cons (strip_c (clo_agg (Enc.clo _))) rfl)) (okTrimL_cons (okTrim_clo _ _ (clo_agg (Enc.clo _))) (okTrimL_cons (okTrim_clo _ _ (clo_agg (Enc.clo _))) rfl)) (by dsimp only [aput, List.set]) ?_
            refine w_op (a := .raw (.bool x30)) rfl rfl rfl rfl (by dsimp only [aput, List.set]) ?_
            refine w_op (a := .raw (.bool x30)) rfl rfl rfl rfl (by dsimp only [aput, List.set]) ?_
            exact end_pureF (fun (r : Bool) => (.raw (.bool r) : AV)) h (a := .raw (.bool x30)) rfl rfl rfl
          ·
            refine w_op (a := .raw (.bool false)) rfl rfl rfl (op_q (q_bool rfl hc7)) (by dsimp only [aput, List.set]) ?_
            refine w_pass rfl rfl (by decide) (by dsimp only [aput, List.set]) ?_
            refine w_pass rfl rfl (by decide) (by dsimp only [aput, List.set]) ?_
            refine w_pass rfl rfl (by decide) (by dsimp only [aput, List.set]) ?_
            refine w_op (a := .raw (.bool false)) rfl rfl rfl rfl (by dsimp only [aput, List.set]) ?_
            refine w_op (a := .raw (.bool false)) rfl rfl rfl rfl (by dsimp only [aput, List.set]) ?_
            exact end_pureF (fun (r : Bool) => (.raw (.bool r) : AV)) h (a := .raw (.bool false)) rfl rfl rfl
end Go.Ab
