/-
  rx: Copy, checked, flat, joined, Seq, Or, Times, Capture, Of.
-/
import Derived.Test.YtaocggpaiafeeaaZrxSm
set_option linter.unusedSimpArgs false
set_option linter.unusedVariables false
namespace Go.Ab
open Go Go.RowKit Go.Fwd Go.Proofs

set_option maxRecDepth 100000 in
set_option maxHeartbeats 4000000 in
theorem copied_nil (k : Nat) (s : BS) (mn mx : Int) : Pure (ITP Try.prog) Try.prog 41 [enc (Tr.mk k s mn mx [])] (enc (Tr.mk k s mn mx [])) := by
  obtain ⟨d, hd⟩ : ∃ d, Try.f41.body = some d := ⟨_, rfl⟩
  refine pure_of mix Try.func41 hd ent41 ?_
  cases hd
  obtain ⟨res, hres⟩ : ∃ res, enc (Tr.mk k s mn mx []) = res := ⟨_, rfl⟩
  show awp _ _ _ _ (aendP _ _ (enc (Tr.mk k s mn mx []))) _ _
  rw [show aendP Try.prog Try.f41 (enc (Tr.mk k s mn mx [])) = aendP Try.prog Try.f41 res from by rw [hres]]
  refine w_start (by dsimp only [abeginS, Try.f41, List.length_cons, List.length_nil, Nat.zero_add, Nat.reduceAdd, Nat.reduceSub, List.replicate, List.cons_append, List.nil_append]) (by dsimp only [St.empty]) ?_
  refine w_seq (w_region ?_)
  refine w_opm (a := .ptr 0 0) rfl rfl rfl rfl (by dsimp only [aput, List.set]) (by dsimp only [cellsOf_enc, List.append_nil, cells, List.nil_append, List.cons_append, List.set, List.take, List.drop, List.length, List.length_cons, List.length_nil, cellsOf, aval, List.getElem?_cons_zero, List.getElem?_cons_succ, Option.getD]) ?_
  refine w_opm (a := .ptr 1 0) rfl rfl rfl rfl (by dsimp only [aput, List.set]) (by dsimp only [cellsOf_enc, List.append_nil, cells, List.nil_append, List.cons_append, List.set, List.take, List.drop, List.length, List.length_cons, List.length_nil, cellsOf, aval, List.getElem?_cons_zero, List.getElem?_cons_succ, Option.getD]) ?_
  refine w_seq (w_region ?_)
  refine w_op (a := .ptr 0 7) rfl rfl rfl rfl (by dsimp only [aput, List.set]) ?_
  refine w_op (a := .list 0 [] .none) rfl rfl rfl rfl (by dsimp only [aput, List.set]) ?_
  refine w_snd (clone_nil _ .none) rfl rfl ⟨rfl, rfl⟩ (by dsimp only [aput, List.set]) ?_
  refine w_op (a := .ptr 0 7) rfl rfl rfl rfl (by dsimp only [aput, List.set]) ?_
  refine w_opm rfl rfl rfl (op_store (n := 1) rfl rfl rfl rfl rfl ⟨rfl, rfl, Nat.le_of_ble_eq_true rfl, by decide⟩) (by dsimp only [aput, List.set]) (by dsimp only [cellsOf_enc, List.append_nil, cells, List.nil_append, List.cons_append, List.set, List.take, List.drop, List.length, List.length_cons, List.length_nil, cellsOf, aval, List.getElem?_cons_zero, List.getElem?_cons_succ, Option.getD]) ?_
  refine w_seq ?_
  refine w_seq (w_region ?_)
  refine w_op (a := .ptr 0 7) rfl rfl rfl rfl (by dsimp only [aput, List.set]) ?_
  refine w_op (a := .list 0 [] .full) rfl rfl rfl rfl (by dsimp only [aput, List.set]) ?_
  refine w_op (a := .raw (.int .i64 0)) rfl rfl rfl rfl (by dsimp only [aput, List.set]) ?_
  refine w_op (a := .raw (.int .i64 0)) rfl rfl rfl rfl (by dsimp only [aput, List.set, aval, List.getElem?_cons_zero, List.getElem?_cons_succ, Option.getD]) ?_
  refine w_block ?_
  refine w_loopP (0) 2 (fun i => True) [3, 4, 12, 13, 14, 15, 16, 17, 18, 19, 20, 21, 22, 23] (fun i => [(12, .raw (.int .i64 (i : Nat)))]) (fun i => ⟨[(29, [.raw (.int .u8 k), .raw (.int .u64 (wd s 0)), .raw (.int .u64 (wd s 1)), .raw (.int .u64 (wd s 2)), .raw (.int .u64 (wd s 3)), .raw (.int .i64 mn), .raw (.int .i64 mx), .list 0 [] .full]), (29, [.raw (.int .u8 0), .raw (.int .u64 0), .raw (.int .u64 0), .raw (.int .u64 0), .raw (.int .u64 0), .raw (.int .i64 0), .raw (.int .i64 0), .list 0 [] .full])], [], [], 0, false⟩) rfl trivial ?_ ?_
  · exact wm_of [true, true, true, false, false, true, true, true, true, true, true, true, true, false, false, false, false, false, false, false, false, false, false, false, true] (by kernel_rfl) (by kernel_rfl)
  · intro i hi hI
    refine w_start (by dsimp only [setAll, topAll, List.foldl, List.set]) rfl ?_
    refine w_seq (w_region ?_)
    refine w_op (a := .raw (.bool false)) rfl rfl rfl (op_q (q_bool rfl (by simp))) (by dsimp only [aput, List.set]) ?_
    refine w_seq ?_
    refine w_false rfl ?_
    refine w_seq (w_region ?_)
    refine w_op rfl rfl rfl rfl (by dsimp only [aput, List.set]) ?_
    refine w_opm rfl rfl rfl (op_storeW (n := 8) rfl rfl rfl rfl rfl rfl rfl rfl (by decide)) (by dsimp only [aput, List.set]) (by dsimp only [cellsOf_enc, List.append_nil, cells, List.nil_append, List.cons_append, List.set, List.take, List.drop, List.length, List.length_cons, List.length_nil, cellsOf, aval, List.getElem?_cons_zero, List.getElem?_cons_succ, Option.getD]) ?_
    refine end_pure rfl rfl ?_
    rw [← hres]; kernel_rfl
theorem copied_at : ∀ (t : Tr), (pre t).length ≤ 10000 → Pure (ITP Try.prog) Try.prog 41 [enc t] (enc t)
  | .mk k s mn mx [] => fun _ => copied_nil k s mn mx
  | .mk k s mn mx (x :: ts) => fun h => copied_cons k s mn mx (x :: ts) (by simp) (by have := pre_l_length (Tr.mk k s mn mx (x :: ts)); simp only [Tr.l] at this; omega)
      (fun y hy => copied_at y (Nat.le_trans (mem_pre_length (mem_l_pre (t := .mk k s mn mx (x :: ts)) hy)) h))
theorem ent28 : Ent Try.prog 28 := enters_of Try.func28 (by kernel_rfl) rfl
set_option maxRecDepth 100000 in
set_option maxHeartbeats 4000000 in
theorem copy_mk (k : Nat) (s : BS) (mn mx : Int) (ts : List Tr) (h : (pre (Tr.mk k s mn mx ts)).length < 2 ^ 62) : Pure (ITP Try.prog) Try.prog 28 [enc (Tr.mk k s mn mx ts)] (enc (copyT (Tr.mk k s mn mx ts))) := by
  obtain ⟨d, hd⟩ : ∃ d, Try.f28.body = some d := ⟨_, rfl⟩
  refine pure_of mix Try.func28 hd ent28 ?_
  cases hd
  obtain ⟨res, hres⟩ : ∃ res, enc (copyT (Tr.mk k s mn mx ts)) = res := ⟨_, rfl⟩
  show awp _ _ _ _ (aendP _ _ (enc (copyT (Tr.mk k s mn mx ts)))) _ _
  rw [show aendP Try.prog Try.f28 (enc (copyT (Tr.mk k s mn mx ts))) = aendP Try.prog Try.f28 res from by rw [hres]]
  refine w_start (by dsimp only [abeginS, Try.f28, List.length_cons, List.length_nil, Nat.zero_add, Nat.reduceAdd, Nat.reduceSub, List.replicate, List.cons_append, List.nil_append]) (by dsimp only [St.empty]) ?_
  refine w_seq (w_region ?_)
  refine w_opm (a := .ptr 0 0) rfl rfl rfl rfl (by dsimp only [aput, List.set]) (by dsimp only [cellsOf_enc, List.append_nil, List.nil_append, List.cons_append, List.set, List.take, List.drop, List.length, List.length_cons, List.length_nil, cellsOf, aval, List.getElem?_cons_zero, List.getElem?_cons_succ, Option.getD]) ?_
  refine w_opm (a := .ptr 1 0) rfl rfl rfl rfl (by dsimp only [aput, List.set]) (by dsimp only [cellsOf_enc, List.append_nil, List.nil_append, List.cons_append, List.set, List.take, List.drop, List.length, List.length_cons, List.length_nil, cellsOf, aval, List.getElem?_cons_zero, List.getElem?_cons_succ, Option.getD]) ?_
  refine w_seq ?_
  refine w_seq (w_region ?_)
  refine w_op (a := enc (Tr.mk k s mn mx ts)) rfl rfl rfl rfl (by dsimp only [aput, List.set]) ?_
  refine w_callkb (light_at (Tr.mk k s mn mx ts) h) (by simp [cloL, clo, clo_enc]) rfl rfl (by dsimp only [aput, List.set]) (by dsimp only [aput, List.set]) (fun h1 => ?_) (fun h1 => ?_)
  ·
    refine w_op (a := .raw (.bool false)) rfl rfl rfl rfl (by dsimp only [aput, List.set]) ?_
    refine w_false rfl ?_
    refine w_seq (w_region ?_)
    refine w_op (a := enc (Tr.mk k s mn mx ts)) rfl rfl rfl rfl (by dsimp only [aput, List.set]) ?_
    refine w_callk (copied_at (Tr.mk k s mn mx ts) (by simpa [lightT] using h1)) (by simp [cloL, clo, clo_enc]) rfl rfl (by dsimp only [aput, List.set]) ?_
    refine w_opm rfl rfl rfl (op_storeW (n := 8) rfl rfl rfl rfl rfl rfl rfl rfl (by decide)) (by dsimp only [aput, List.set]) (by dsimp only [cellsOf_enc, List.append_nil, List.nil_append, List.cons_append, List.set, List.take, List.drop, List.length, List.length_cons, List.length_nil, cellsOf, aval, List.getElem?_cons_zero, List.getElem?_cons_succ, Option.getD]) ?_
    refine end_pure (a := enc (Tr.mk k s mn mx ts)) rfl (okTrim_enc _ _) ?_
    rw [← hres, copyT, if_pos h1]; exact strip_enc _
  ·
    refine w_op (a := .raw (.bool true)) rfl rfl rfl rfl (by dsimp only [aput, List.set]) ?_
    refine w_true rfl ?_
    refine w_seq (w_region ?_)
    refine w_op (a := zero29) rfl rfl rfl rfl (by dsimp only [aput, List.set]) ?_
    refine w_opm rfl rfl rfl (op_storeW (n := 8) rfl rfl rfl rfl rfl rfl rfl rfl (by decide)) (by dsimp only [aput, List.set]) (by dsimp only [cellsOf_enc, List.append_nil, List.nil_append, List.cons_append, List.set, List.take, List.drop, List.length, List.length_cons, List.length_nil, cellsOf, aval, List.getElem?_cons_zero, List.getElem?_cons_succ, Option.getD]) ?_
    refine end_pure (a := zero29) rfl rfl ?_
    rw [← hres, copyT, if_neg (by rw [h1]; simp)]; exact strip_zero29
theorem ent42 : Ent Try.prog 42 := enters_of Try.func42 (by kernel_rfl) rfl
set_option maxRecDepth 100000 in
set_option maxHeartbeats 4000000 in
theorem checked_mk (k : Nat) (s : BS) (mn mx : Int) (ts : List Tr) (h : (pre (Tr.mk k s mn mx ts)).length < 2 ^ 62) : Pure (ITP Try.prog) Try.prog 42 [enc (Tr.mk k s mn mx ts)] (enc (checkedT (Tr.mk k s mn mx ts))) := by
  obtain ⟨d, hd⟩ : ∃ d, Try.f42.body = some d := ⟨_, rfl⟩
  refine pure_of mix Try.func42 hd ent42 ?_
  cases hd
  obtain ⟨res, hres⟩ : ∃ res, enc (checkedT (Tr.mk k s mn mx ts)) = res := ⟨_, rfl⟩
  show awp _ _ _ _ (aendP _ _ (enc (checkedT (Tr.mk k s mn mx ts)))) _ _
  rw [show aendP Try.prog Try.f42 (enc (checkedT (Tr.mk k s mn mx ts))) = aendP Try.prog Try.f42 res from by rw [hres]]
  refine w_start (by dsimp only [abeginS, Try.f42, List.length_cons, List.length_nil, Nat.zero_add, Nat.reduceAdd, Nat.reduceSub, List.replicate, List.cons_append, List.nil_append]) (by dsimp only [St.empty]) ?_
  refine w_seq (w_region ?_)
  refine w_opm (a := .ptr 0 0) rfl rfl rfl rfl (by dsimp only [aput, List.set]) (by dsimp only [cellsOf_enc, List.append_nil, List.nil_append, List.cons_append, List.set, List.take, List.drop, List.length, List.length_cons, List.length_nil, cellsOf, aval, List.getElem?_cons_zero, List.getElem?_cons_succ, Option.getD]) ?_
  refine w_opm (a := .ptr 1 0) rfl rfl rfl rfl (by dsimp only [aput, List.set]) (by dsimp only [cellsOf_enc, List.append_nil, List.nil_append, List.cons_append, List.set, List.take, List.drop, List.length, List.length_cons, List.length_nil, cellsOf, aval, List.getElem?_cons_zero, List.getElem?_cons_succ, Option.getD]) ?_
  refine w_seq ?_
  refine w_seq (w_region ?_)
  refine w_op (a := enc (Tr.mk k s mn mx ts)) rfl rfl rfl rfl (by dsimp only [aput, List.set]) ?_
  refine w_callkb (clean_at (Tr.mk k s mn mx ts) h) (by simp [cloL, clo, clo_enc]) rfl rfl (by dsimp only [aput, List.set]) (by dsimp only [aput, List.set]) (fun h1 => ?_) (fun h1 => ?_)
  ·
    refine w_op (a := .raw (.bool false)) rfl rfl rfl rfl (by dsimp only [aput, List.set]) ?_
    refine w_false rfl ?_
    refine w_seq (w_region ?_)
    refine w_op (a := enc (Tr.mk k s mn mx ts)) rfl rfl rfl rfl (by dsimp only [aput, List.set]) ?_
    refine w_callk (copied_at (Tr.mk k s mn mx ts) (light_of_clean h1)) (by simp [cloL, clo, clo_enc]) rfl rfl (by dsimp only [aput, List.set]) ?_
    refine w_opm rfl rfl rfl (op_storeW (n := 8) rfl rfl rfl rfl rfl rfl rfl rfl (by decide)) (by dsimp only [aput, List.set]) (by dsimp only [cellsOf_enc, List.append_nil, List.nil_append, List.cons_append, List.set, List.take, List.drop, List.length, List.length_cons, List.length_nil, cellsOf, aval, List.getElem?_cons_zero, List.getElem?_cons_succ, Option.getD]) ?_
    refine end_pure (a := enc (Tr.mk k s mn mx ts)) rfl (okTrim_enc _ _) ?_
    rw [← hres, checkedT, if_pos h1]; exact strip_enc _
  ·
    refine w_op (a := .raw (.bool true)) rfl rfl rfl rfl (by dsimp only [aput, List.set]) ?_
    refine w_true rfl ?_
    refine w_seq (w_region ?_)
    refine w_op (a := zero29) rfl rfl rfl rfl (by dsimp only [aput, List.set]) ?_
    refine w_opm rfl rfl rfl (op_storeW (n := 8) rfl rfl rfl rfl rfl rfl rfl rfl (by decide)) (by dsimp only [aput, List.set]) (by dsimp only [cellsOf_enc, List.append_nil, List.nil_append, List.cons_append, List.set, List.take, List.drop, List.length, List.length_cons, List.length_nil, cellsOf, aval, List.getElem?_cons_zero, List.getElem?_cons_succ, Option.getD]) ?_
    refine end_pure (a := zero29) rfl rfl ?_
    rw [← hres, checkedT, if_neg (by rw [h1]; simp)]; exact strip_zero29
theorem checked_at (t : Tr) (h : (pre t).length < 2 ^ 62) : Pure (ITP Try.prog) Try.prog 42 [enc t] (enc (checkedT t)) := by
  cases t with
  | mk k s mn mx ts => exact checked_mk k s mn mx ts h
theorem good_at (t : Tr) (h : (pre t).length < 2 ^ 62) : Pure (ITP Try.prog) Try.prog 34 [enc t] (.raw (.bool (goodT t))) := by
  cases t with
  | mk k s mn mx ts => exact good_mk k s mn mx ts h
theorem wd_zero (i : Nat) : wd 0#256 i = 0 := by simp [wd, W64]
/-- A Node without a set, as it is built. -/
def nodeF (k : Nat) (mn mx : Int) (l : List Tr) (st : Room) : AV := .agg [.raw (.int .u8 k), .raw (.int .u64 0), .raw (.int .u64 0), .raw (.int .u64 0), .raw (.int .u64 0), .raw (.int .i64 mn), .raw (.int .i64 mx), .list l.length (cellsL l) st]
theorem strip_nodeF (k : Nat) (mn mx : Int) (l : List Tr) (st : Room) : strip (nodeF k mn mx l st) = enc (Tr.mk k 0#256 mn mx l) := by simp [nodeF, enc, cells, strip, stripL, strip_cellsL, wd_zero]
theorem okTrim_nodeF (n k : Nat) (mn mx : Int) (l : List Tr) (st : Room) : okTrim n (nodeF k mn mx l st) = true := by simp [nodeF, okTrim, okTrimL, okTrim_cellsL]
/-- The Subs of a node of a kind that has some arguments. -/
def flatT (kind without : Nat) (l : List Tr) : List Tr := l.flatMap fun x => bif (x.k : Int) == kind then x.l else bif (x.k : Int) == without then [] else [x]
def joinedT (kind : Nat) (l : List Tr) (none : Tr) : Tr := bif (l.length : Int) == 0 then none else bif (l.length : Int) == 1 then checkedT (l.headD none) else checkedT (Tr.mk kind 0#256 0 0 l)
def seqT (l : List Tr) : Tr := if (l.any fun x => (x.k : Int) == 0 || !cleanT x) = true then noneT else joinedT 3 (flatT 3 1 l) emptyT
def orT (l : List Tr) : Tr := if (l.any fun x => !goodT x) = true then noneT else joinedT 4 (flatT 4 0 l) noneT
theorem preL_append : ∀ a b, preL (a ++ b) = preL a ++ preL b
  | [], b => by simp [preL]
  | x :: a, b => by rw [List.cons_append, preL, preL, preL_append a b, List.append_assoc]
theorem length_le_preL : ∀ l : List Tr, l.length ≤ (preL l).length
  | [] => by simp [preL]
  | x :: l => by have := length_le_preL l; rw [preL, List.length_append, List.length_cons, pre_eq]; simp; omega
theorem preL_l_le (t : Tr) : (preL t.l).length < (pre t).length := by rw [pre_eq]; simp
theorem flatT_preL (kind without : Nat) : ∀ l : List Tr, (preL (flatT kind without l)).length ≤ (preL l).length
  | [] => by simp [flatT, preL]
  | x :: l => by
    have h := flatT_preL kind without l
    have hx := preL_l_le x
    rw [flatT, List.flatMap_cons, preL_append, List.length_append, preL, List.length_append]
    have h2 : (preL (bif (x.k : Int) == kind then x.l else bif (x.k : Int) == without then [] else [x])).length ≤ (pre x).length := by
      cases (x.k : Int) == kind <;> cases (x.k : Int) == without <;> simp [preL] <;> omega
    rw [flatT] at h
    omega
theorem flatT_take (kind without : Nat) (l : List Tr) (i : Nat) (hi : i < l.length) : flatT kind without (l.take (i + 1)) = flatT kind without (l.take i) ++ (bif (l[i].k : Int) == kind then l[i].l else bif (l[i].k : Int) == without then [] else [l[i]]) := by
  rw [List.take_succ_eq_append_getElem hi, flatT, List.flatMap_append]; simp [flatT]
theorem flatT_take_len (kind without : Nat) (l : List Tr) (i : Nat) : (flatT kind without (l.take i)).length ≤ (preL l).length := by
  refine Nat.le_trans (length_le_preL _) (Nat.le_trans (flatT_preL _ _ _) ?_)
  conv => rhs; rw [← List.take_append_drop i l]
  rw [preL_append, List.length_append]; omega
theorem cellsL_append : ∀ a b, cellsL (a ++ b) = cellsL a ++ cellsL b
  | [], b => by simp [cellsL]
  | x :: a, b => by rw [List.cons_append, cellsL, cellsL, cellsL_append a b, List.append_assoc]
theorem ent33 : Ent Try.prog 33 := enters_of Try.func33 (by kernel_rfl) rfl
set_option maxRecDepth 100000 in
set_option maxHeartbeats 4000000 in
theorem flat_pure (kind without : Nat) (l : List Tr) (hs : (preL l).length ≤ 2 ^ 40) : Pure (ITP Try.prog) Try.prog 33 [.raw (.int .u8 kind), .raw (.int .u8 without), .list l.length (cellsL l) .none] (.list (flatT kind without l).length (cellsL (flatT kind without l)) .none) := by
  obtain ⟨d, hd⟩ : ∃ d, Try.f33.body = some d := ⟨_, rfl⟩
  refine pure_of mix Try.func33 hd ent33 ?_
  cases hd
  have hll := length_le_preL l
  obtain ⟨res, hres⟩ : ∃ res, AV.list (flatT kind without l).length (cellsL (flatT kind without l)) .none = res := ⟨_, rfl⟩
  show awp _ _ _ _ (aendP _ _ (AV.list (flatT kind without l).length (cellsL (flatT kind without l)) .none)) _ _
  rw [show aendP Try.prog Try.f33 (AV.list (flatT kind without l).length (cellsL (flatT kind without l)) .none) = aendP Try.prog Try.f33 res from by rw [hres]]
  refine w_start (by dsimp only [abeginS, Try.f33, List.length_cons, List.length_nil, Nat.zero_add, Nat.reduceAdd, Nat.reduceSub, List.replicate, List.cons_append, List.nil_append]) (by dsimp only [St.empty]) ?_
  refine w_seq (w_region ?_)
  refine w_op (a := .list 0 [] .full) rfl rfl rfl rfl (by dsimp only [aput, List.set, aval, List.getElem?_cons_zero, List.getElem?_cons_succ, Option.getD]) ?_
  refine w_seq (w_region ?_)
  refine w_op (a := .list 0 [] .full) rfl rfl rfl rfl (by dsimp only [aput, List.set, aval, List.getElem?_cons_zero, List.getElem?_cons_succ, Option.getD]) ?_
  refine w_seq ?_
  refine w_seq (w_region ?_)
  refine w_op (a := .list l.length (cellsL l) .none) rfl rfl rfl rfl (by dsimp only [aput, List.set]) ?_
  refine w_op (a := .raw (.int .i64 l.length)) rfl rfl rfl rfl (by dsimp only [aput, List.set]) ?_
  refine w_op (a := .raw (.int .i64 0)) rfl rfl rfl rfl (by dsimp only [aput, List.set, aval, List.getElem?_cons_zero, List.getElem?_cons_succ, Option.getD]) ?_
  refine w_block ?_
  refine w_loopP (l.length) 0 (fun i => True) [7, 9, 12, 13, 14, 15, 16, 17, 18, 19, 20, 21, 22, 23, 24, 25, 26, 27, 28, 29, 30, 31, 32] (fun i => [(7, (ownAV (flatT kind without (l.take i)).length (cellsL (flatT kind without (l.take i))))), (12, .raw (.int .i64 (i : Nat)))]) (fun i => ownSt [] 29 (flatT kind without (l.take i)).length 8) rfl trivial ?_ ?_
  · exact wm_of [true, true, true, true, true, true, true, true, true, false, true, true, true, false, false, false, false, false, false, false, false, false, false, false, false, false, false, false, false, false, false, false, false, true] (by kernel_rfl) (by kernel_rfl)
  · intro i hi hI
    refine w_start (by dsimp only [setAll, topAll, List.foldl, List.set]) rfl ?_
    refine w_seq (w_region ?_)
    refine w_opb rfl rfl rfl rfl (by dsimp only [aput, List.set]) (by dsimp only [aput, List.set]) (fun h1 => ?_) (fun h1 => ?_)
    ·
      refine w_seq ?_
      refine w_true rfl ?_
      refine w_seq ?_
      refine w_block ?_
      refine w_seq (w_region ?_)
      have hil : i < l.length := by simp at h1; omega
      refine w_op rfl rfl rfl (op_indexAddr rfl rfl rfl rfl rfl ⟨by omega, by omega, cellsL_ne (List.ne_nil_of_length_pos (by omega))⟩) (by dsimp only [aput, List.set]) ?_
      obtain ⟨xy, hxy⟩ : ∃ xy, l[i] = xy := ⟨_, rfl⟩
      have hgety := cellsL_get l i (by omega)
      rw [hxy] at hgety
      obtain ⟨ky, sy, mny, mxy, tsy⟩ := xy
      refine w_op rfl rfl rfl (op_load (a := enc (Tr.mk ky sy mny mxy tsy)) (.iptr ((cellsL l).drop (i * 8))) rfl rfl hgety) (by dsimp only [aput, List.set]) ?_
      refine w_opm (a := .ptr 0 0) rfl rfl rfl rfl (by dsimp only [aput, List.set]) (by dsimp only [cellsOf_enc, List.append_nil, List.nil_append, List.cons_append, List.set, List.take, List.drop, List.length, List.length_cons, List.length_nil, cellsOf, aval, List.getElem?_cons_zero, List.getElem?_cons_succ, Option.getD]) ?_
      refine w_opm rfl rfl rfl (op_storeW (n := 8) rfl rfl rfl rfl rfl rfl rfl rfl (by decide)) (by dsimp only [aput, List.set]) (by dsimp only [cellsOf_enc, List.append_nil, List.nil_append, List.cons_append, List.set, List.take, List.drop, List.length, List.length_cons, List.length_nil, cellsOf, aval, List.getElem?_cons_zero, List.getElem?_cons_succ, Option.getD]) ?_
      refine w_seq (w_region ?_)
      refine w_op (a := .ptr 0 0) rfl rfl rfl rfl (by dsimp only [aput, List.set]) ?_
      refine w_op rfl rfl rfl rfl (by dsimp only [aput, List.set]) ?_
      refine w_block ?_
      refine w_seq (w_region ?_)
      refine w_op rfl rfl rfl rfl (by dsimp only [aput, List.set, aval, List.getElem?_cons_zero, List.getElem?_cons_succ, Option.getD]) ?_
      refine w_opb rfl rfl rfl rfl (by dsimp only [aput, List.set]) (by dsimp only [aput, List.set]) (fun h2 => ?_) (fun h2 => ?_)
      ·
        refine w_op (a := .raw (.bool true)) rfl rfl rfl rfl (by dsimp only [aput, List.set]) ?_
        refine w_true rfl ?_
        refine w_region (id := 8) ?_
        refine w_op rfl rfl rfl rfl (by dsimp only [aput, List.set, aval, List.getElem?_cons_zero, List.getElem?_cons_succ, Option.getD]) ?_
        refine w_op (a := .ptr 0 7) rfl rfl rfl rfl (by dsimp only [aput, List.set]) ?_
        have hft : (flatT kind without (l.take (i + 1))) = (flatT kind without (l.take i)) ++ tsy := by rw [flatT_take _ _ l i hil, hxy]; simp only [Tr.k, Tr.l, h2, cond_true]
        have hlm := flatT_take_len kind without l (i + 1)
        rw [hft, List.length_append] at hlm
        refine w_op (a := .list tsy.length (cellsL tsy) .none) rfl rfl rfl rfl (by dsimp only [aput, List.set]) ?_
        refine w_opm (a := ownAV ((flatT kind without (l.take i)).length + tsy.length) (cellsL (flatT kind without (l.take i)) ++ cellsL tsy)) rfl rfl rfl (op_append rfl rfl rfl rfl (append_own (sz := 8) rfl rfl rfl rfl rfl (by decide) (cellsL_length _) (cellsL_length _) (by unfold maxLen; omega) (by show _ * 80 ≤ _; omega))) (by dsimp only [aput, List.set]) rfl ?_
        rw [show (flatT kind without (l.take i)).length + tsy.length = (flatT kind without (l.take (i + 1))).length from by rw [hft, List.length_append], show cellsL (flatT kind without (l.take i)) ++ cellsL tsy = cellsL (flatT kind without (l.take (i + 1))) from by rw [hft, cellsL_append]]
        refine w_op rfl rfl rfl rfl (by dsimp only [aput, List.set, aval, List.getElem?_cons_zero, List.getElem?_cons_succ, Option.getD]) ?_
        refine w_region (id := 10) ?_
        refine w_op rfl rfl rfl (op_q (q_add rfl rfl rfl rfl (by omega) (by omega))) (by dsimp only [aput, List.set]) ?_
        refine w_op rfl rfl rfl rfl (by dsimp only [aput, List.set, aval, List.getElem?_cons_zero, List.getElem?_cons_succ, Option.getD]) ?_
        refine ⟨by omega, trivial, ?_⟩
        refine wm_trim [true, true, true, true, true, true, true, true, true, false, true, true, true, false, false, false, false, false, false, false, false, false, false, false, false, false, false, false, false, false, false, false, false, true] 0 (by kernel_rfl) (by decide) (by simp [okSt, ownSt, okTrimL, okTrim, okTrim_cells, okTrim_cellsL, okTrim_enc, okTrim_own (clo_cellsL _)]) (by simp [okTrimL, okTrim, okTrim_cells, okTrim_cellsL, okTrim_enc, okTrim_own (clo_cellsL _), setAll, topAll]) (by kernel_rfl)
      ·
        refine w_op (a := .raw (.bool false)) rfl rfl rfl rfl (by dsimp only [aput, List.set]) ?_
        refine w_false rfl ?_
        refine w_seq (w_region ?_)
        refine w_op rfl rfl rfl rfl (by dsimp only [aput, List.set, aval, List.getElem?_cons_zero, List.getElem?_cons_succ, Option.getD]) ?_
        refine w_opb rfl rfl rfl rfl (by dsimp only [aput, List.set]) (by dsimp only [aput, List.set]) (fun h3 => ?_) (fun h3 => ?_)
        ·
          refine w_op (a := .raw (.bool true)) rfl rfl rfl rfl (by dsimp only [aput, List.set]) ?_
          refine w_true rfl ?_
          refine w_region (id := 10) ?_
          refine w_op rfl rfl rfl (op_q (q_add rfl rfl rfl rfl (by omega) (by omega))) (by dsimp only [aput, List.set]) ?_
          refine w_op rfl rfl rfl rfl (by dsimp only [aput, List.set, aval, List.getElem?_cons_zero, List.getElem?_cons_succ, Option.getD]) ?_
          refine ⟨by omega, trivial, ?_⟩
          rw [show (flatT kind without (l.take i)) = (flatT kind without (l.take (i + 1))) from by rw [flatT_take _ _ l i hil, hxy]; simp only [Tr.k, h2, h3, cond_true, cond_false, List.append_nil]]
          refine wm_trim [true, true, true, true, true, true, true, true, true, false, true, true, true, false, false, false, false, false, false, false, false, false, false, false, false, false, false, false, false, false, false, false, false, true] 0 (by kernel_rfl) (by decide) (by simp [okSt, ownSt, okTrimL, okTrim, okTrim_cells, okTrim_cellsL, okTrim_enc, okTrim_own (clo_cellsL _)]) (by simp [okTrimL, okTrim, okTrim_cells, okTrim_cellsL, okTrim_enc, okTrim_own (clo_cellsL _), setAll, topAll]) (by kernel_rfl)
        ·
          refine w_op (a := .raw (.bool false)) rfl rfl rfl rfl (by dsimp only [aput, List.set]) ?_
          refine w_false rfl ?_
          refine w_region (id := 6) ?_
          refine w_op rfl rfl rfl rfl (by dsimp only [aput, List.set, aval, List.getElem?_cons_zero, List.getElem?_cons_succ, Option.getD]) ?_
          have hft : (flatT kind without (l.take (i + 1))) = (flatT kind without (l.take i)) ++ [(Tr.mk ky sy mny mxy tsy)] := by rw [flatT_take _ _ l i hil, hxy]; simp only [Tr.k, h2, h3, cond_false]
          have hlm := flatT_take_len kind without l (i + 1)
          rw [hft, List.length_append] at hlm
          refine w_op (a := enc (Tr.mk ky sy mny mxy tsy)) rfl rfl rfl rfl (by dsimp only [aput, List.set]) ?_
          refine w_op (a := .list 1 (cellsL [(Tr.mk ky sy mny mxy tsy)]) .full) rfl rfl rfl rfl (by dsimp only [aput, List.set]) ?_
          refine w_opm (a := ownAV ((flatT kind without (l.take i)).length + 1) (cellsL (flatT kind without (l.take i)) ++ cellsL [(Tr.mk ky sy mny mxy tsy)])) rfl rfl rfl (op_append rfl rfl rfl rfl (append_own (sz := 8) rfl rfl rfl rfl rfl (by decide) (cellsL_length _) (cellsL_length _) (by unfold maxLen; omega) (by show _ * 80 ≤ _; omega))) (by dsimp only [aput, List.set]) rfl ?_
          rw [show (flatT kind without (l.take i)).length + 1 = (flatT kind without (l.take (i + 1))).length from by rw [hft, List.length_append]; rfl, show cellsL (flatT kind without (l.take i)) ++ cellsL [(Tr.mk ky sy mny mxy tsy)] = cellsL (flatT kind without (l.take (i + 1))) from by rw [hft, cellsL_append]]
          refine w_op rfl rfl rfl rfl (by dsimp only [aput, List.set, aval, List.getElem?_cons_zero, List.getElem?_cons_succ, Option.getD]) ?_
          refine w_region (id := 10) ?_
          refine w_op rfl rfl rfl (op_q (q_add rfl rfl rfl rfl (by omega) (by omega))) (by dsimp only [aput, List.set]) ?_
          refine w_op rfl rfl rfl rfl (by dsimp only [aput, List.set, aval, List.getElem?_cons_zero, List.getElem?_cons_succ, Option.getD]) ?_
          refine ⟨by omega, trivial, ?_⟩
          refine wm_trim [true, true, true, true, true, true, true, true, true, false, true, true, true, false, false, false, false, false, false, false, false, false, false, false, false, false, false, false, false, false, false, false, false, true] 0 (by kernel_rfl) (by decide) (by simp [okSt, ownSt, okTrimL, okTrim, okTrim_cells, okTrim_cellsL, okTrim_enc, okTrim_own (clo_cellsL _)]) (by simp [okTrimL, okTrim, okTrim_cells, okTrim_cellsL, okTrim_enc, okTrim_own (clo_cellsL _), setAll, topAll]) (by kernel_rfl)
    ·
      refine w_seq ?_
      refine w_false rfl ?_
      refine w_seq (w_region ?_)
      refine w_op rfl rfl rfl rfl (by dsimp only [aput, List.set, aval, List.getElem?_cons_zero, List.getElem?_cons_succ, Option.getD]) ?_
      refine w_op rfl rfl rfl rfl (by dsimp only [aput, List.set, aval, List.getElem?_cons_zero, List.getElem?_cons_succ, Option.getD]) ?_
      have hie : i = l.length := by simp at h1; omega
      refine end_pure (a := (ownAV (flatT kind without (l.take i)).length (cellsL (flatT kind without (l.take i))))) rfl (okTrim_own (clo_cellsL _)) ?_
      rw [← hres, strip_own (clo_cellsL _) (fun h0 => by rw [List.length_eq_zero_iff.1 h0]; rfl), hie, List.take_length]
theorem pre_le_preL {x : Tr} : ∀ {l : List Tr}, x ∈ l → (pre x).length ≤ (preL l).length
  | y :: l, h => by
    rw [preL, List.length_append]
    rcases List.mem_cons.1 h with rfl | h
    · omega
    · have := pre_le_preL h; omega
theorem ent32 : Ent Try.prog 32 := enters_of Try.func32 (by kernel_rfl) rfl
set_option maxRecDepth 100000 in
set_option maxHeartbeats 4000000 in
theorem joined_mk (kind : Nat) (l : List Tr) (hs : (preL l).length ≤ 2 ^ 40) (k : Nat) (s : BS) (mn mx : Int) (ts : List Tr) : Pure (ITP Try.prog) Try.prog 32 [.raw (.int .u8 kind), .list l.length (cellsL l) .none, enc (Tr.mk k s mn mx ts)] (enc (joinedT kind l (Tr.mk k s mn mx ts))) := by
  obtain ⟨d, hd⟩ : ∃ d, Try.f32.body = some d := ⟨_, rfl⟩
  refine pure_of mix Try.func32 hd ent32 ?_
  cases hd
  obtain ⟨res, hres⟩ : ∃ res, enc (joinedT kind l (Tr.mk k s mn mx ts)) = res := ⟨_, rfl⟩
  show awp _ _ _ _ (aendP _ _ (enc (joinedT kind l (Tr.mk k s mn mx ts)))) _ _
  rw [show aendP Try.prog Try.f32 (enc (joinedT kind l (Tr.mk k s mn mx ts))) = aendP Try.prog Try.f32 res from by rw [hres]]
  refine w_start (by dsimp only [abeginS, Try.f32, List.length_cons, List.length_nil, Nat.zero_add, Nat.reduceAdd, Nat.reduceSub, List.replicate, List.cons_append, List.nil_append]) (by dsimp only [St.empty]) ?_
  refine w_seq (w_region ?_)
  refine w_opm (a := .ptr 0 0) rfl rfl rfl rfl (by dsimp only [aput, List.set]) (by dsimp only [cellsOf_enc, List.append_nil, List.nil_append, List.cons_append, List.set, List.take, List.drop, List.length, List.length_cons, List.length_nil, cellsOf, aval, List.getElem?_cons_zero, List.getElem?_cons_succ, Option.getD]) ?_
  refine w_opm (a := .ptr 1 0) rfl rfl rfl rfl (by dsimp only [aput, List.set]) (by dsimp only [cellsOf_enc, List.append_nil, List.nil_append, List.cons_append, List.set, List.take, List.drop, List.length, List.length_cons, List.length_nil, cellsOf, aval, List.getElem?_cons_zero, List.getElem?_cons_succ, Option.getD]) ?_
  refine w_seq ?_
  refine w_seq (w_region ?_)
  refine w_op rfl rfl rfl rfl (by dsimp only [aput, List.set, aval, List.getElem?_cons_zero, List.getElem?_cons_succ, Option.getD]) ?_
  refine w_op (a := .raw (.int .i64 l.length)) rfl rfl rfl rfl (by dsimp only [aput, List.set]) ?_
  refine w_block ?_
  refine w_seq (w_region ?_)
  refine w_opb rfl rfl rfl rfl (by dsimp only [aput, List.set]) (by dsimp only [aput, List.set]) (fun h1 => ?_) (fun h1 => ?_)
  ·
    refine w_op (a := .raw (.bool true)) rfl rfl rfl rfl (by dsimp only [aput, List.set]) ?_
    refine w_true rfl ?_
    refine w_seq (w_region ?_)
    refine w_op (a := enc (Tr.mk k s mn mx ts)) rfl rfl rfl rfl (by dsimp only [aput, List.set]) ?_
    refine w_opm rfl rfl rfl (op_storeW (n := 8) rfl rfl rfl rfl rfl rfl rfl rfl (by decide)) (by dsimp only [aput, List.set]) (by dsimp only [cellsOf_enc, List.append_nil, List.nil_append, List.cons_append, List.set, List.take, List.drop, List.length, List.length_cons, List.length_nil, cellsOf, aval, List.getElem?_cons_zero, List.getElem?_cons_succ, Option.getD]) ?_
    refine end_pure (a := enc (Tr.mk k s mn mx ts)) rfl (okTrim_enc _ _) ?_
    rw [← hres, joinedT, h1]; exact strip_enc _
  ·
    refine w_op (a := .raw (.bool false)) rfl rfl rfl rfl (by dsimp only [aput, List.set]) ?_
    refine w_false rfl ?_
    refine w_seq (w_region ?_)
    refine w_opb rfl rfl rfl rfl (by dsimp only [aput, List.set]) (by dsimp only [aput, List.set]) (fun h2 => ?_) (fun h2 => ?_)
    ·
      refine w_op (a := .raw (.bool true)) rfl rfl rfl rfl (by dsimp only [aput, List.set]) ?_
      refine w_true rfl ?_
      refine w_seq (w_region ?_)
      refine w_op rfl rfl rfl rfl (by dsimp only [aput, List.set, aval, List.getElem?_cons_zero, List.getElem?_cons_succ, Option.getD]) ?_
      have hl1 : l.length = 1 := by simp at h2; omega
      refine w_op (a := .iptr ((cellsL l).drop (0 * 8))) rfl rfl rfl (op_indexAddr (n := 0) (len := l.length) rfl rfl rfl rfl rfl ⟨by omega, by omega, cellsL_ne (List.ne_nil_of_length_pos (by omega))⟩) (by dsimp only [aput, List.set]) ?_
      obtain ⟨xy, hxy⟩ : ∃ xy, l[0] = xy := ⟨_, rfl⟩
      have hgety := cellsL_get l 0 (by omega)
      rw [hxy] at hgety
      obtain ⟨ky, sy, mny, mxy, tsy⟩ := xy
      refine w_op rfl rfl rfl (op_load (a := enc (Tr.mk ky sy mny mxy tsy)) (.iptr ((cellsL l).drop (0 * 8))) rfl rfl hgety) (by dsimp only [aput, List.set]) ?_
      have hhd : l.headD (Tr.mk k s mn mx ts) = (Tr.mk ky sy mny mxy tsy) := by rw [← hxy]; cases l with | nil => simp at hl1 | cons x l => rfl
      have hpx : (pre (Tr.mk ky sy mny mxy tsy)).length ≤ (preL l).length := by rw [← hxy]; exact pre_le_preL (List.getElem_mem (by omega))
      refine w_callk (checked_at (Tr.mk ky sy mny mxy tsy) (by omega)) (by simp [cloL, clo, clo_enc]) rfl rfl (by dsimp only [aput, List.set]) ?_
      obtain ⟨xr, hxr⟩ : ∃ xr, checkedT (Tr.mk ky sy mny mxy tsy) = xr := ⟨_, rfl⟩
      rw [hxr]
      obtain ⟨kr, sr, mnr, mxr, tsr⟩ := xr
      refine w_opm rfl rfl rfl (op_storeW (n := 8) rfl rfl rfl rfl rfl rfl rfl rfl (by decide)) (by dsimp only [aput, List.set]) (by dsimp only [cellsOf_enc, List.append_nil, List.nil_append, List.cons_append, List.set, List.take, List.drop, List.length, List.length_cons, List.length_nil, cellsOf, aval, List.getElem?_cons_zero, List.getElem?_cons_succ, Option.getD]) ?_
      refine end_pure (a := enc (Tr.mk kr sr mnr mxr tsr)) rfl (okTrim_enc _ _) ?_
      rw [← hres, joinedT, h1, h2, hhd, ← hxr]; exact strip_enc _
    ·
      refine w_op (a := .raw (.bool false)) rfl rfl rfl rfl (by dsimp only [aput, List.set]) ?_
      refine w_false rfl ?_
      refine w_seq (w_region ?_)
      refine w_op rfl rfl rfl rfl (by dsimp only [aput, List.set, aval, List.getElem?_cons_zero, List.getElem?_cons_succ, Option.getD]) ?_
      refine w_op rfl rfl rfl rfl (by dsimp only [aput, List.set, aval, List.getElem?_cons_zero, List.getElem?_cons_succ, Option.getD]) ?_
      refine w_op (a := nodeF kind 0 0 l .none) rfl rfl rfl rfl (by dsimp only [aput, List.set]) ?_
      refine w_callc (args := [nodeF kind 0 0 l .none]) (checked_at (Tr.mk kind 0#256 0 0 l) (by simp [pre]; omega)) rfl rfl (by simp [stripL, strip_nodeF]) (by simp [okTrimL, okTrim_nodeF]) (by dsimp only [aput, List.set]) ?_
      obtain ⟨xr, hxr⟩ : ∃ xr, checkedT (Tr.mk kind 0#256 0 0 l) = xr := ⟨_, rfl⟩
      rw [hxr]
      obtain ⟨kr, sr, mnr, mxr, tsr⟩ := xr
      refine w_opm rfl rfl rfl (op_storeW (n := 8) rfl rfl rfl rfl rfl rfl rfl rfl (by decide)) (by dsimp only [aput, List.set]) (by dsimp only [cellsOf_enc, List.append_nil, List.nil_append, List.cons_append, List.set, List.take, List.drop, List.length, List.length_cons, List.length_nil, cellsOf, aval, List.getElem?_cons_zero, List.getElem?_cons_succ, Option.getD]) ?_
      refine end_pure (a := enc (Tr.mk kr sr mnr mxr tsr)) rfl (okTrim_enc _ _) ?_
      rw [← hres, joinedT, h1, h2, ← hxr]; exact strip_enc _
theorem joined_at (kind : Nat) (l : List Tr) (hs : (preL l).length ≤ 2 ^ 40) (t : Tr) : Pure (ITP Try.prog) Try.prog 32 [.raw (.int .u8 kind), .list l.length (cellsL l) .none, enc t] (enc (joinedT kind l t)) := by
  cases t with
  | mk k s mn mx ts => exact joined_mk kind l hs k s mn mx ts
theorem ent10 : Ent Try.prog 10 := enters_of Try.func10 (by kernel_rfl) rfl
set_option maxRecDepth 100000 in
set_option maxHeartbeats 4000000 in
theorem seq_pure (l : List Tr) (hs : (preL l).length ≤ 2 ^ 40) (st : Room) : Pure (ITP Try.prog) Try.prog 10 [.list l.length (cellsL l) .none] (enc (seqT l)) := by
  obtain ⟨d, hd⟩ : ∃ d, Try.f10.body = some d := ⟨_, rfl⟩
  refine pure_of mix Try.func10 hd ent10 ?_
  cases hd
  have hll := length_le_preL l
  have hfl := flatT_preL 3 1 l
  obtain ⟨res, hres⟩ : ∃ res, enc (seqT l) = res := ⟨_, rfl⟩
  show awp _ _ _ _ (aendP _ _ (enc (seqT l))) _ _
  rw [show aendP Try.prog Try.f10 (enc (seqT l)) = aendP Try.prog Try.f10 res from by rw [hres]]
  refine w_start (by dsimp only [abeginS, Try.f10, List.length_cons, List.length_nil, Nat.zero_add, Nat.reduceAdd, Nat.reduceSub, List.replicate, List.cons_append, List.nil_append]) (by dsimp only [St.empty]) ?_
  refine w_seq (w_region ?_)
  refine w_opm (a := .ptr 0 0) rfl rfl rfl rfl (by dsimp only [aput, List.set]) (by dsimp only [cellsOf_enc, List.append_nil, List.nil_append, List.cons_append, List.set, List.take, List.drop, List.length, List.length_cons, List.length_nil, cellsOf, aval, List.getElem?_cons_zero, List.getElem?_cons_succ, Option.getD]) ?_
  refine w_seq ?_
  refine w_seq (w_region ?_)
  refine w_op (a := .list l.length (cellsL l) .none) rfl rfl rfl rfl (by dsimp only [aput, List.set]) ?_
  refine w_op (a := .raw (.int .i64 l.length)) rfl rfl rfl rfl (by dsimp only [aput, List.set]) ?_
  refine w_op (a := .raw (.int .i64 0)) rfl rfl rfl rfl (by dsimp only [aput, List.set, aval, List.getElem?_cons_zero, List.getElem?_cons_succ, Option.getD]) ?_
  refine w_block ?_
  refine w_loopP (l.length) 1 (fun i => ∀ (j : Nat) (hj : j < l.length), j < i → ((l[j].k : Int) == 0 || !cleanT l[j]) = false) [4, 7, 8, 9, 10, 11, 12, 13, 14, 15, 16, 17, 18, 19, 20] (fun i => [(7, .raw (.int .i64 (i : Nat)))]) (fun i => ⟨[(29, [.raw (.int .u8 0), .raw (.int .u64 0), .raw (.int .u64 0), .raw (.int .u64 0), .raw (.int .u64 0), .raw (.int .i64 0), .raw (.int .i64 0), .list 0 [] .full])], [], [], 0, false⟩) rfl (fun j _ hj => by omega) ?_ ?_
  · exact wm_of [true, true, true, true, false, true, true, true, false, false, false, false, false, false, false, false, false, false, false, false, false, true, true, true, true] (by kernel_rfl) (by kernel_rfl)
  · intro i hi hI
    refine w_start (by dsimp only [setAll, topAll, List.foldl, List.set]) rfl ?_
    refine w_seq (w_region ?_)
    refine w_opb rfl rfl rfl rfl (by dsimp only [aput, List.set]) (by dsimp only [aput, List.set]) (fun h1 => ?_) (fun h1 => ?_)
    ·
      refine w_seq ?_
      refine w_true rfl ?_
      refine w_seq ?_
      refine w_block ?_
      refine w_seq (w_region ?_)
      have hil : i < l.length := by simp at h1; omega
      refine w_op rfl rfl rfl (op_indexAddr rfl rfl rfl rfl rfl ⟨by omega, by omega, cellsL_ne (List.ne_nil_of_length_pos (by omega))⟩) (by dsimp only [aput, List.set]) ?_
      obtain ⟨xy, hxy⟩ : ∃ xy, l[i] = xy := ⟨_, rfl⟩
      have hgety := cellsL_get l i (by omega)
      rw [hxy] at hgety
      obtain ⟨ky, sy, mny, mxy, tsy⟩ := xy
      refine w_op rfl rfl rfl (op_load (a := enc (Tr.mk ky sy mny mxy tsy)) (.iptr ((cellsL l).drop (i * 8))) rfl rfl hgety) (by dsimp only [aput, List.set]) ?_
      have hpy : (pre (Tr.mk ky sy mny mxy tsy)).length ≤ (preL l).length := by rw [← hxy]; exact pre_le_preL (List.getElem_mem hil)
      refine w_opm (a := .ptr 1 0) rfl rfl rfl rfl (by dsimp only [aput, List.set]) (by dsimp only [cellsOf_enc, List.append_nil, List.nil_append, List.cons_append, List.set, List.take, List.drop, List.length, List.length_cons, List.length_nil, cellsOf, aval, List.getElem?_cons_zero, List.getElem?_cons_succ, Option.getD]) ?_
      refine w_opm rfl rfl rfl (op_storeW (n := 8) rfl rfl rfl rfl rfl rfl rfl rfl (by decide)) (by dsimp only [aput, List.set]) (by dsimp only [cellsOf_enc, List.append_nil, List.nil_append, List.cons_append, List.set, List.take, List.drop, List.length, List.length_cons, List.length_nil, cellsOf, aval, List.getElem?_cons_zero, List.getElem?_cons_succ, Option.getD]) ?_
      refine w_seq (w_region ?_)
      refine w_op (a := .ptr 1 0) rfl rfl rfl rfl (by dsimp only [aput, List.set]) ?_
      refine w_op rfl rfl rfl rfl (by dsimp only [aput, List.set]) ?_
      refine w_opb rfl rfl rfl rfl (by dsimp only [aput, List.set]) (by dsimp only [aput, List.set]) (fun h2 => ?_) (fun h2 => ?_)
      ·
        refine w_op (a := .raw (.bool true)) rfl rfl rfl rfl (by dsimp only [aput, List.set]) ?_
        refine w_pass rfl rfl (by decide) (by dsimp only [aput, List.set]) ?_
        refine w_pass rfl rfl (by decide) (by dsimp only [aput, List.set]) ?_
        refine w_pass rfl rfl (by decide) (by dsimp only [aput, List.set]) ?_
        refine w_op (a := .raw (.bool true)) rfl rfl rfl rfl (by dsimp only [aput, List.set]) ?_
        refine w_true rfl ?_
        refine w_seq (w_region ?_)
        refine w_op (a := zero29) rfl rfl rfl rfl (by dsimp only [aput, List.set]) ?_
        refine w_opm rfl rfl rfl (op_storeW (n := 8) rfl rfl rfl rfl rfl rfl rfl rfl (by decide)) (by dsimp only [aput, List.set]) (by dsimp only [cellsOf_enc, List.append_nil, List.nil_append, List.cons_append, List.set, List.take, List.drop, List.length, List.length_cons, List.length_nil, cellsOf, aval, List.getElem?_cons_zero, List.getElem?_cons_succ, Option.getD]) ?_
        refine end_pure (a := zero29) rfl rfl ?_
        rw [← hres, seqT, if_pos (List.any_eq_true.2 ⟨(Tr.mk ky sy mny mxy tsy), hxy ▸ List.getElem_mem (by omega), by simp only [Tr.k, h2, Bool.true_and, Bool.and_true, Bool.false_and, Bool.and_false, Bool.true_or, Bool.or_true, Bool.false_or, Bool.or_false, Bool.not_true, Bool.not_false, cond_true, cond_false, Bool.false_eq_true, Bool.true_eq_false]⟩)]; exact strip_zero29
      ·
        refine w_op (a := .raw (.bool false)) rfl rfl rfl rfl (by dsimp only [aput, List.set]) ?_
        refine w_met rfl rfl ?_
        refine w_op (a := enc (Tr.mk ky sy mny mxy tsy)) rfl rfl rfl rfl (by dsimp only [aput, List.set]) ?_
        refine w_met rfl rfl ?_
        refine w_callkb (clean_at (Tr.mk ky sy mny mxy tsy) (by omega)) (by simp [cloL, clo, clo_enc, clo_cellsL]) rfl rfl (by dsimp only [aput, List.set]) (by dsimp only [aput, List.set]) (fun h3 => ?_) (fun h3 => ?_)
        ·
          refine w_met rfl rfl ?_
          refine w_op (a := .raw (.bool false)) rfl rfl rfl rfl (by dsimp only [aput, List.set]) ?_
          refine w_op (a := .raw (.bool false)) rfl rfl rfl rfl (by dsimp only [aput, List.set]) ?_
          refine w_false rfl ?_
          refine w_region (id := 6) ?_
          refine w_op rfl rfl rfl (op_q (q_add rfl rfl rfl rfl (by omega) (by omega))) (by dsimp only [aput, List.set]) ?_
          refine w_op rfl rfl rfl rfl (by dsimp only [aput, List.set, aval, List.getElem?_cons_zero, List.getElem?_cons_succ, Option.getD]) ?_
          refine ⟨by omega, fun j hj hji => ?_, ?_⟩
          · rcases Nat.lt_or_ge j i with hlt | hge
            · exact hI j hj hlt
            · obtain rfl : j = i := by omega
              rw [hxy]; simp only [Tr.k, h2, h3, Bool.true_and, Bool.and_true, Bool.false_and, Bool.and_false, Bool.true_or, Bool.or_true, Bool.false_or, Bool.or_false, Bool.not_true, Bool.not_false, cond_true, cond_false, Bool.false_eq_true, Bool.true_eq_false]
          · refine wm_trim [true, true, true, true, false, true, true, true, false, false, false, false, false, false, false, false, false, false, false, false, false, true, true, true, true] 1 (by kernel_rfl) (by decide) (by simp [okSt, ownSt, okTrimL, okTrim, okTrim_cells, okTrim_cellsL, okTrim_enc]) (by simp [okTrimL, okTrim, okTrim_cells, okTrim_cellsL, okTrim_enc, setAll, topAll]) (by kernel_rfl)
        ·
          refine w_met rfl rfl ?_
          refine w_op (a := .raw (.bool true)) rfl rfl rfl rfl (by dsimp only [aput, List.set]) ?_
          refine w_op (a := .raw (.bool true)) rfl rfl rfl rfl (by dsimp only [aput, List.set]) ?_
          refine w_true rfl ?_
          refine w_seq (w_region ?_)
          refine w_op (a := zero29) rfl rfl rfl rfl (by dsimp only [aput, List.set]) ?_
          refine w_opm rfl rfl rfl (op_storeW (n := 8) rfl rfl rfl rfl rfl rfl rfl rfl (by decide)) (by dsimp only [aput, List.set]) (by dsimp only [cellsOf_enc, List.append_nil, List.nil_append, List.cons_append, List.set, List.take, List.drop, List.length, List.length_cons, List.length_nil, cellsOf, aval, List.getElem?_cons_zero, List.getElem?_cons_succ, Option.getD]) ?_
          refine end_pure (a := zero29) rfl rfl ?_
          rw [← hres, seqT, if_pos (List.any_eq_true.2 ⟨(Tr.mk ky sy mny mxy tsy), hxy ▸ List.getElem_mem (by omega), by simp only [Tr.k, h2, h3, Bool.true_and, Bool.and_true, Bool.false_and, Bool.and_false, Bool.true_or, Bool.or_true, Bool.false_or, Bool.or_false, Bool.not_true, Bool.not_false, cond_true, cond_false, Bool.false_eq_true, Bool.true_eq_false]⟩)]; exact strip_zero29
    ·
      refine w_seq ?_
      refine w_false rfl ?_
      refine w_seq (w_region ?_)
      refine w_op (a := .list l.length (cellsL l) .none) rfl rfl rfl rfl (by dsimp only [aput, List.set]) ?_
      refine w_callk (flat_pure 3 1 l hs) (by simp [cloL, clo, clo_enc, clo_cellsL]) rfl rfl (by dsimp only [aput, List.set]) ?_
      refine w_op (a := nodeF 1 0 0 [] .full) rfl rfl rfl rfl (by dsimp only [aput, List.set]) ?_
      refine w_callc (args := [.raw (.int .u8 3), .list (flatT 3 1 l).length (cellsL (flatT 3 1 l)) .none, nodeF 1 0 0 [] .full]) (joined_at 3 (flatT 3 1 l) (by omega) emptyT) rfl rfl (by simp only [stripL, strip, strip_cellsL]; rw [strip_nodeF]; rfl) (by simp [okTrimL, okTrim, okTrim_cellsL, okTrim_nodeF]) (by dsimp only [aput, List.set]) ?_
      obtain ⟨xr, hxr⟩ : ∃ xr, joinedT 3 (flatT 3 1 l) emptyT = xr := ⟨_, rfl⟩
      rw [hxr]
      obtain ⟨kr, sr, mnr, mxr, tsr⟩ := xr
      refine w_opm rfl rfl rfl (op_storeW (n := 8) rfl rfl rfl rfl rfl rfl rfl rfl (by decide)) (by dsimp only [aput, List.set]) (by dsimp only [cellsOf_enc, List.append_nil, List.nil_append, List.cons_append, List.set, List.take, List.drop, List.length, List.length_cons, List.length_nil, cellsOf, aval, List.getElem?_cons_zero, List.getElem?_cons_succ, Option.getD]) ?_
      have hie : i = l.length := by simp at h1; omega
      refine end_pure (a := enc (Tr.mk kr sr mnr mxr tsr)) rfl (okTrim_enc _ _) ?_
      rw [← hres, seqT, if_neg (by rw [Bool.not_eq_true, List.any_eq_false]; intro x hx; obtain ⟨j, hj, rfl⟩ := List.mem_iff_getElem.1 hx; rw [hI j hj (by omega)]; simp), ← hxr]; exact strip_enc _
theorem ent11 : Ent Try.prog 11 := enters_of Try.func11 (by kernel_rfl) rfl
set_option maxRecDepth 100000 in
set_option maxHeartbeats 4000000 in
theorem or_pure (l : List Tr) (hs : (preL l).length ≤ 2 ^ 40) (st : Room) : Pure (ITP Try.prog) Try.prog 11 [.list l.length (cellsL l) .none] (enc (orT l)) := by
  obtain ⟨d, hd⟩ : ∃ d, Try.f11.body = some d := ⟨_, rfl⟩
  refine pure_of mix Try.func11 hd ent11 ?_
  cases hd
  have hll := length_le_preL l
  have hfl := flatT_preL 4 0 l
  obtain ⟨res, hres⟩ : ∃ res, enc (orT l) = res := ⟨_, rfl⟩
  show awp _ _ _ _ (aendP _ _ (enc (orT l))) _ _
  rw [show aendP Try.prog Try.f11 (enc (orT l)) = aendP Try.prog Try.f11 res from by rw [hres]]
  refine w_start (by dsimp only [abeginS, Try.f11, List.length_cons, List.length_nil, Nat.zero_add, Nat.reduceAdd, Nat.reduceSub, List.replicate, List.cons_append, List.nil_append]) (by dsimp only [St.empty]) ?_
  refine w_seq (w_region ?_)
  refine w_opm (a := .ptr 0 0) rfl rfl rfl rfl (by dsimp only [aput, List.set]) (by dsimp only [cellsOf_enc, List.append_nil, List.nil_append, List.cons_append, List.set, List.take, List.drop, List.length, List.length_cons, List.length_nil, cellsOf, aval, List.getElem?_cons_zero, List.getElem?_cons_succ, Option.getD]) ?_
  refine w_seq ?_
  refine w_seq (w_region ?_)
  refine w_op (a := .list l.length (cellsL l) .none) rfl rfl rfl rfl (by dsimp only [aput, List.set]) ?_
  refine w_op (a := .raw (.int .i64 l.length)) rfl rfl rfl rfl (by dsimp only [aput, List.set]) ?_
  refine w_op (a := .raw (.int .i64 0)) rfl rfl rfl rfl (by dsimp only [aput, List.set, aval, List.getElem?_cons_zero, List.getElem?_cons_succ, Option.getD]) ?_
  refine w_block ?_
  refine w_loopP (l.length) 1 (fun i => ∀ (j : Nat) (hj : j < l.length), j < i → (!goodT l[j]) = false) [4, 7, 8, 9, 10, 11, 12, 13, 14, 15] (fun i => [(7, .raw (.int .i64 (i : Nat)))]) (fun i => ⟨[(29, [.raw (.int .u8 0), .raw (.int .u64 0), .raw (.int .u64 0), .raw (.int .u64 0), .raw (.int .u64 0), .raw (.int .i64 0), .raw (.int .i64 0), .list 0 [] .full])], [], [], 0, false⟩) rfl (fun j _ hj => by omega) ?_ ?_
  · exact wm_of [true, true, true, true, false, true, true, true, false, false, false, false, false, false, false, false, true, true, true, true] (by kernel_rfl) (by kernel_rfl)
  · intro i hi hI
    refine w_start (by dsimp only [setAll, topAll, List.foldl, List.set]) rfl ?_
    refine w_seq (w_region ?_)
    refine w_opb rfl rfl rfl rfl (by dsimp only [aput, List.set]) (by dsimp only [aput, List.set]) (fun h1 => ?_) (fun h1 => ?_)
    ·
      refine w_seq ?_
      refine w_true rfl ?_
      refine w_seq ?_
      refine w_block ?_
      refine w_seq (w_region ?_)
      have hil : i < l.length := by simp at h1; omega
      refine w_op rfl rfl rfl (op_indexAddr rfl rfl rfl rfl rfl ⟨by omega, by omega, cellsL_ne (List.ne_nil_of_length_pos (by omega))⟩) (by dsimp only [aput, List.set]) ?_
      obtain ⟨xy, hxy⟩ : ∃ xy, l[i] = xy := ⟨_, rfl⟩
      have hgety := cellsL_get l i (by omega)
      rw [hxy] at hgety
      obtain ⟨ky, sy, mny, mxy, tsy⟩ := xy
      refine w_op rfl rfl rfl (op_load (a := enc (Tr.mk ky sy mny mxy tsy)) (.iptr ((cellsL l).drop (i * 8))) rfl rfl hgety) (by dsimp only [aput, List.set]) ?_
      have hpy : (pre (Tr.mk ky sy mny mxy tsy)).length ≤ (preL l).length := by rw [← hxy]; exact pre_le_preL (List.getElem_mem hil)
      refine w_opm (a := .ptr 1 0) rfl rfl rfl rfl (by dsimp only [aput, List.set]) (by dsimp only [cellsOf_enc, List.append_nil, List.nil_append, List.cons_append, List.set, List.take, List.drop, List.length, List.length_cons, List.length_nil, cellsOf, aval, List.getElem?_cons_zero, List.getElem?_cons_succ, Option.getD]) ?_
      refine w_opm rfl rfl rfl (op_storeW (n := 8) rfl rfl rfl rfl rfl rfl rfl rfl (by decide)) (by dsimp only [aput, List.set]) (by dsimp only [cellsOf_enc, List.append_nil, List.nil_append, List.cons_append, List.set, List.take, List.drop, List.length, List.length_cons, List.length_nil, cellsOf, aval, List.getElem?_cons_zero, List.getElem?_cons_succ, Option.getD]) ?_
      refine w_seq (w_region ?_)
      refine w_op (a := enc (Tr.mk ky sy mny mxy tsy)) rfl rfl rfl rfl (by dsimp only [aput, List.set]) ?_
      refine w_callkb (good_at (Tr.mk ky sy mny mxy tsy) (by omega)) (by simp [cloL, clo, clo_enc, clo_cellsL]) rfl rfl (by dsimp only [aput, List.set]) (by dsimp only [aput, List.set]) (fun h2 => ?_) (fun h2 => ?_)
      ·
        refine w_op (a := .raw (.bool false)) rfl rfl rfl rfl (by dsimp only [aput, List.set]) ?_
        refine w_false rfl ?_
        refine w_region (id := 6) ?_
        refine w_op rfl rfl rfl (op_q (q_add rfl rfl rfl rfl (by omega) (by omega))) (by dsimp only [aput, List.set]) ?_
        refine w_op rfl rfl rfl rfl (by dsimp only [aput, List.set, aval, List.getElem?_cons_zero, List.getElem?_cons_succ, Option.getD]) ?_
        refine ⟨by omega, fun j hj hji => ?_, ?_⟩
        · rcases Nat.lt_or_ge j i with hlt | hge
          · exact hI j hj hlt
          · obtain rfl : j = i := by omega
            rw [hxy]; simp only [Tr.k, h2, Bool.true_and, Bool.and_true, Bool.false_and, Bool.and_false, Bool.true_or, Bool.or_true, Bool.false_or, Bool.or_false, Bool.not_true, Bool.not_false, cond_true, cond_false, Bool.false_eq_true, Bool.true_eq_false]
        · refine wm_trim [true, true, true, true, false, true, true, true, false, false, false, false, false, false, false, false, true, true, true, true] 1 (by kernel_rfl) (by decide) (by simp [okSt, ownSt, okTrimL, okTrim, okTrim_cells, okTrim_cellsL, okTrim_enc]) (by simp [okTrimL, okTrim, okTrim_cells, okTrim_cellsL, okTrim_enc, setAll, topAll]) (by kernel_rfl)
      ·
        refine w_op (a := .raw (.bool true)) rfl rfl rfl rfl (by dsimp only [aput, List.set]) ?_
        refine w_true rfl ?_
        refine w_seq (w_region ?_)
        refine w_op (a := zero29) rfl rfl rfl rfl (by dsimp only [aput, List.set]) ?_
        refine w_opm rfl rfl rfl (op_storeW (n := 8) rfl rfl rfl rfl rfl rfl rfl rfl (by decide)) (by dsimp only [aput, List.set]) (by dsimp only [cellsOf_enc, List.append_nil, List.nil_append, List.cons_append, List.set, List.take, List.drop, List.length, List.length_cons, List.length_nil, cellsOf, aval, List.getElem?_cons_zero, List.getElem?_cons_succ, Option.getD]) ?_
        refine end_pure (a := zero29) rfl rfl ?_
        rw [← hres, orT, if_pos (List.any_eq_true.2 ⟨(Tr.mk ky sy mny mxy tsy), hxy ▸ List.getElem_mem (by omega), by simp only [Tr.k, h2, Bool.true_and, Bool.and_true, Bool.false_and, Bool.and_false, Bool.true_or, Bool.or_true, Bool.false_or, Bool.or_false, Bool.not_true, Bool.not_false, cond_true, cond_false, Bool.false_eq_true, Bool.true_eq_false]⟩)]; exact strip_zero29
    ·
      refine w_seq ?_
      refine w_false rfl ?_
      refine w_seq (w_region ?_)
      refine w_op (a := .list l.length (cellsL l) .none) rfl rfl rfl rfl (by dsimp only [aput, List.set]) ?_
      refine w_callk (flat_pure 4 0 l hs) (by simp [cloL, clo, clo_enc, clo_cellsL]) rfl rfl (by dsimp only [aput, List.set]) ?_
      refine w_op (a := zero29) rfl rfl rfl rfl (by dsimp only [aput, List.set]) ?_
      refine w_callc (args := [.raw (.int .u8 4), .list (flatT 4 0 l).length (cellsL (flatT 4 0 l)) .none, zero29]) (joined_at 4 (flatT 4 0 l) (by omega) noneT) rfl rfl (by simp only [stripL, strip, strip_cellsL]; rw [strip_zero29]; rfl) (by simp [okTrimL, okTrim, okTrim_cellsL, okTrim_zero29]) (by dsimp only [aput, List.set]) ?_
      obtain ⟨xr, hxr⟩ : ∃ xr, joinedT 4 (flatT 4 0 l) noneT = xr := ⟨_, rfl⟩
      rw [hxr]
      obtain ⟨kr, sr, mnr, mxr, tsr⟩ := xr
      refine w_opm rfl rfl rfl (op_storeW (n := 8) rfl rfl rfl rfl rfl rfl rfl rfl (by decide)) (by dsimp only [aput, List.set]) (by dsimp only [cellsOf_enc, List.append_nil, List.nil_append, List.cons_append, List.set, List.take, List.drop, List.length, List.length_cons, List.length_nil, cellsOf, aval, List.getElem?_cons_zero, List.getElem?_cons_succ, Option.getD]) ?_
      have hie : i = l.length := by simp at h1; omega
      refine end_pure (a := enc (Tr.mk kr sr mnr mxr tsr)) rfl (okTrim_enc _ _) ?_
      rw [← hres, orT, if_neg (by rw [Bool.not_eq_true, List.any_eq_false]; intro x hx; obtain ⟨j, hj, rfl⟩ := List.mem_iff_getElem.1 hx; rw [hI j hj (by omega)]; simp), ← hxr]; exact strip_enc _
end Go.Ab
