/-
  rx: Times, Capture, Of, Check; the law's cat, alt, rep, group, letters, joins.
-/
import Derived.Test.YtaocggpaiafeeaaZrxSq
set_option linter.unusedSimpArgs false
set_option linter.unusedVariables false
namespace Go.Ab
open Go Go.RowKit Go.Fwd Go.Proofs

def timesT (t : Tr) (lo hi : Int) : Tr :=
  bif !goodT t || (!(lo == 0 && hi == 0) && !(lo == 1 && hi == 1) && !boundsT lo hi) then noneT
  else bif (t.k : Int) == 0 && decide (lo > 0) then noneT
  else bif (lo == 0 && hi == 0) || (t.k : Int) == 0 || (t.k : Int) == 1 then emptyT
  else bif lo == 1 && hi == 1 then t else checkedT (.mk 5 0#256 lo hi [t])
def captureT (t : Tr) : Tr := checkedT (.mk 6 0#256 0 0 [t])
def ofT (s : BS) : Tr := if s = 0#256 then noneT else .mk 2 s 0 0 []
def checkE (t : Tr) : Int := bif !cleanT t then 80 else bif decide (sizeT' t > 120) then 81 else bif decide (positionsT t > 400) then 82 else bif decide (groupsT t > 9) then 83 else 0
theorem strip_empty : strip (nodeF 1 0 0 [] .full) = enc emptyT := by rw [strip_nodeF]; rfl
theorem pre_one (k : Nat) (s : BS) (mn mx : Int) (t : Tr) : (pre (.mk k s mn mx [t])).length = 1 + (pre t).length := by simp [pre, preL]; omega
theorem size_at (t : Tr) (h : (pre t).length < 2 ^ 62) : Pure (ITP Try.prog) Try.prog 16 [enc t] (.raw (.int .i64 (sizeT' t))) := by
  cases t with | mk k s mn mx ts => exact size_mk k s mn mx ts h
theorem groups_at (t : Tr) (h : (pre t).length < 2 ^ 62) : Pure (ITP Try.prog) Try.prog 17 [enc t] (.raw (.int .i64 (groupsT t))) := by
  cases t with | mk k s mn mx ts => exact groups_mk k s mn mx ts h
theorem posn_at (t : Tr) (h : (pre t).length < 2 ^ 62) : Pure (ITP Try.prog) Try.prog 15 [enc t] (.raw (.int .i64 (positionsT t))) := by
  cases t with | mk k s mn mx ts => exact positions_mk k s mn mx ts h
theorem ent19 : Ent Try.prog 19 := enters_of Try.func19 (by kernel_rfl) rfl
set_option maxRecDepth 100000 in
set_option maxHeartbeats 4000000 in
theorem times_mk (k : Nat) (s : BS) (mn mx : Int) (ts : List Tr) (h : (pre (Tr.mk k s mn mx ts)).length < 2 ^ 61) (lo hi : Int) : Pure (ITP Try.prog) Try.prog 19 [enc (Tr.mk k s mn mx ts), .raw (.int .i64 lo), .raw (.int .i64 hi)] (enc (timesT (Tr.mk k s mn mx ts) lo hi)) := by
  obtain ⟨d, hd⟩ : ∃ d, Try.f19.body = some d := ⟨_, rfl⟩
  refine pure_of mix Try.func19 hd ent19 ?_
  cases hd
  obtain ⟨res, hres⟩ : ∃ res, enc (timesT (Tr.mk k s mn mx ts) lo hi) = res := ⟨_, rfl⟩
  show awp _ _ _ _ (aendP _ _ (enc (timesT (Tr.mk k s mn mx ts) lo hi))) _ _
  rw [show aendP Try.prog Try.f19 (enc (timesT (Tr.mk k s mn mx ts) lo hi)) = aendP Try.prog Try.f19 res from by rw [hres]]
  refine w_start (by dsimp only [abeginS, Try.f19, List.length_cons, List.length_nil, Nat.zero_add, Nat.reduceAdd, Nat.reduceSub, List.replicate, List.cons_append, List.nil_append]) (by dsimp only [St.empty]) ?_
  refine w_seq (w_region ?_)
  refine w_opm (a := .ptr 0 0) rfl rfl rfl rfl (by dsimp only [aput, List.set]) (by dsimp only [cellsOf_enc, List.append_nil, List.nil_append, List.cons_append, List.set, List.take, List.drop, List.length, List.length_cons, List.length_nil, cellsOf, aval, List.getElem?_cons_zero, List.getElem?_cons_succ, Option.getD]) ?_
  refine w_opm (a := .ptr 1 0) rfl rfl rfl rfl (by dsimp only [aput, List.set]) (by dsimp only [cellsOf_enc, List.append_nil, List.nil_append, List.cons_append, List.set, List.take, List.drop, List.length, List.length_cons, List.length_nil, cellsOf, aval, List.getElem?_cons_zero, List.getElem?_cons_succ, Option.getD]) ?_
  refine w_cutS 2 [7, 8, 9, 10, 11, 12, 13, 14, 15, 16, 17, 18, 19, 20] [(7, .raw (.bool (lo == 0 && hi == 0))), (8, .raw (.bool (lo == 1 && hi == 1)))] ⟨[(29, cells (Tr.mk k s mn mx ts)), (29, [.raw (.int .u8 0), .raw (.int .u64 0), .raw (.int .u64 0), .raw (.int .u64 0), .raw (.int .u64 0), .raw (.int .i64 0), .raw (.int .i64 0), .list 0 [] .full])], [], [], 0, false⟩ rfl ?_ ?_
  ·
    refine w_region (id := 1) ?_
    refine w_op rfl rfl rfl rfl (by dsimp only [aput, List.set, aval, List.getElem?_cons_zero, List.getElem?_cons_succ, Option.getD]) ?_
    refine w_opb rfl rfl rfl rfl (by dsimp only [aput, List.set]) (by dsimp only [aput, List.set]) (fun h1 => ?_) (fun h1 => ?_)
    ·
      refine w_op (a := .raw (.bool true)) rfl rfl rfl rfl (by dsimp only [aput, List.set]) ?_
      refine w_met rfl rfl ?_
      refine w_op rfl rfl rfl rfl (by dsimp only [aput, List.set, aval, List.getElem?_cons_zero, List.getElem?_cons_succ, Option.getD]) ?_
      refine w_met rfl rfl ?_
      refine w_opb rfl rfl rfl rfl (by dsimp only [aput, List.set]) (by dsimp only [aput, List.set]) (fun h2 => ?_) (fun h2 => ?_)
      ·
        refine w_op (a := .raw (.bool true)) rfl rfl rfl rfl (by dsimp only [aput, List.set]) ?_
        refine w_op rfl rfl rfl rfl (by dsimp only [aput, List.set, aval, List.getElem?_cons_zero, List.getElem?_cons_succ, Option.getD]) ?_
        refine w_opb rfl rfl rfl rfl (by dsimp only [aput, List.set]) (by dsimp only [aput, List.set]) (fun h3 => ?_) (fun h3 => ?_)
        ·
          refine w_op (a := .raw (.bool true)) rfl rfl rfl rfl (by dsimp only [aput, List.set]) ?_
          refine w_met rfl rfl ?_
          refine w_op rfl rfl rfl rfl (by dsimp only [aput, List.set, aval, List.getElem?_cons_zero, List.getElem?_cons_succ, Option.getD]) ?_
          refine w_met rfl rfl ?_
          refine w_opb rfl rfl rfl rfl (by dsimp only [aput, List.set]) (by dsimp only [aput, List.set]) (fun h4 => ?_) (fun h4 => ?_)
          ·
            refine w_op (a := .raw (.bool true)) rfl rfl rfl rfl (by dsimp only [aput, List.set]) ?_
            refine w_op (a := .raw (.bool true)) rfl rfl rfl rfl (by dsimp only [aput, List.set]) ?_
            refine w_op (a := .raw (.bool true)) rfl rfl rfl rfl (by dsimp only [aput, List.set]) ?_
            have e7 : (lo == 0 && hi == 0) = true := by simp only [h1, h2, h3, h4, Bool.true_and, Bool.and_true, Bool.false_and, Bool.and_false, Bool.true_or, Bool.or_true, Bool.false_or, Bool.or_false, Bool.not_true, Bool.not_false, cond_true, cond_false, Bool.false_eq_true, Bool.true_eq_false]
            rw [e7]
            have e8 : (lo == 1 && hi == 1) = true := by simp only [h1, h2, h3, h4, Bool.true_and, Bool.and_true, Bool.false_and, Bool.and_false, Bool.true_or, Bool.or_true, Bool.false_or, Bool.or_false, Bool.not_true, Bool.not_false, cond_true, cond_false, Bool.false_eq_true, Bool.true_eq_false]
            rw [e8]
            exact wm_of [true, true, true, true, true, true, true, true, true, false, false, false, false, false, false, false, false, false, false, false, false, true, true, true, true, true, true, true, true, true, true, true, true, true, true, true, true, true, true, true, true, true, true, true, true, true, true, true, true, true, true, true, true, true, true, true, true, true, true, true, true, true, true, true, true, true, true, true, true, true, true, true] (by kernel_rfl) (by kernel_rfl)
          ·
            refine w_op (a := .raw (.bool false)) rfl rfl rfl rfl (by dsimp only [aput, List.set]) ?_
            refine w_op (a := .raw (.bool true)) rfl rfl rfl rfl (by dsimp only [aput, List.set]) ?_
            refine w_op (a := .raw (.bool false)) rfl rfl rfl rfl (by dsimp only [aput, List.set]) ?_
            have e7 : (lo == 0 && hi == 0) = true := by simp only [h1, h2, h3, h4, Bool.true_and, Bool.and_true, Bool.false_and, Bool.and_false, Bool.true_or, Bool.or_true, Bool.false_or, Bool.or_false, Bool.not_true, Bool.not_false, cond_true, cond_false, Bool.false_eq_true, Bool.true_eq_false]
            rw [e7]
            have e8 : (lo == 1 && hi == 1) = false := by simp only [h1, h2, h3, h4, Bool.true_and, Bool.and_true, Bool.false_and, Bool.and_false, Bool.true_or, Bool.or_true, Bool.false_or, Bool.or_false, Bool.not_true, Bool.not_false, cond_true, cond_false, Bool.false_eq_true, Bool.true_eq_false]
            rw [e8]
            exact wm_of [true, true, true, true, true, true, true, true, true, false, false, false, false, false, false, false, false, false, false, false, false, true, true, true, true, true, true, true, true, true, true, true, true, true, true, true, true, true, true, true, true, true, true, true, true, true, true, true, true, true, true, true, true, true, true, true, true, true, true, true, true, true, true, true, true, true, true, true, true, true, true, true] (by kernel_rfl) (by kernel_rfl)
        ·
          refine w_op (a := .raw (.bool false)) rfl rfl rfl rfl (by dsimp only [aput, List.set]) ?_
          refine w_pass rfl rfl (by decide) (by dsimp only [aput, List.set]) ?_
          refine w_pass rfl rfl (by decide) (by dsimp only [aput, List.set]) ?_
          refine w_op (a := .raw (.bool false)) rfl rfl rfl rfl (by dsimp only [aput, List.set]) ?_
          refine w_op (a := .raw (.bool true)) rfl rfl rfl rfl (by dsimp only [aput, List.set]) ?_
          refine w_op (a := .raw (.bool false)) rfl rfl rfl rfl (by dsimp only [aput, List.set]) ?_
          have e7 : (lo == 0 && hi == 0) = true := by simp only [h1, h2, h3, Bool.true_and, Bool.and_true, Bool.false_and, Bool.and_false, Bool.true_or, Bool.or_true, Bool.false_or, Bool.or_false, Bool.not_true, Bool.not_false, cond_true, cond_false, Bool.false_eq_true, Bool.true_eq_false]
          rw [e7]
          have e8 : (lo == 1 && hi == 1) = false := by simp only [h1, h2, h3, Bool.true_and, Bool.and_true, Bool.false_and, Bool.and_false, Bool.true_or, Bool.or_true, Bool.false_or, Bool.or_false, Bool.not_true, Bool.not_false, cond_true, cond_false, Bool.false_eq_true, Bool.true_eq_false]
          rw [e8]
          exact wm_of [true, true, true, true, true, true, true, true, true, false, false, false, false, false, false, false, false, false, false, false, false, true, true, true, true, true, true, true, true, true, true, true, true, true, true, true, true, true, true, true, true, true, true, true, true, true, true, true, true, true, true, true, true, true, true, true, true, true, true, true, true, true, true, true, true, true, true, true, true, true, true, true] (by kernel_rfl) (by kernel_rfl)
      ·
        refine w_op (a := .raw (.bool false)) rfl rfl rfl rfl (by dsimp only [aput, List.set]) ?_
        refine w_op rfl rfl rfl rfl (by dsimp only [aput, List.set, aval, List.getElem?_cons_zero, List.getElem?_cons_succ, Option.getD]) ?_
        refine w_opb rfl rfl rfl rfl (by dsimp only [aput, List.set]) (by dsimp only [aput, List.set]) (fun h5 => ?_) (fun h5 => ?_)
        ·
          refine w_op (a := .raw (.bool true)) rfl rfl rfl rfl (by dsimp only [aput, List.set]) ?_
          refine w_met rfl rfl ?_
          refine w_op rfl rfl rfl rfl (by dsimp only [aput, List.set, aval, List.getElem?_cons_zero, List.getElem?_cons_succ, Option.getD]) ?_
          refine w_met rfl rfl ?_
          refine w_opb rfl rfl rfl rfl (by dsimp only [aput, List.set]) (by dsimp only [aput, List.set]) (fun h6 => ?_) (fun h6 => ?_)
          ·
            refine w_op (a := .raw (.bool true)) rfl rfl rfl rfl (by dsimp only [aput, List.set]) ?_
            refine w_op (a := .raw (.bool false)) rfl rfl rfl rfl (by dsimp only [aput, List.set]) ?_
            refine w_op (a := .raw (.bool true)) rfl rfl rfl rfl (by dsimp only [aput, List.set]) ?_
            have e7 : (lo == 0 && hi == 0) = false := by simp only [h1, h2, h5, h6, Bool.true_and, Bool.and_true, Bool.false_and, Bool.and_false, Bool.true_or, Bool.or_true, Bool.false_or, Bool.or_false, Bool.not_true, Bool.not_false, cond_true, cond_false, Bool.false_eq_true, Bool.true_eq_false]
            rw [e7]
            have e8 : (lo == 1 && hi == 1) = true := by simp only [h1, h2, h5, h6, Bool.true_and, Bool.and_true, Bool.false_and, Bool.and_false, Bool.true_or, Bool.or_true, Bool.false_or, Bool.or_false, Bool.not_true, Bool.not_false, cond_true, cond_false, Bool.false_eq_true, Bool.true_eq_false]
            rw [e8]
            exact wm_of [true, true, true, true, true, true, true, true, true, false, false, false, false, false, false, false, false, false, false, false, false, true, true, true, true, true, true, true, true, true, true, true, true, true, true, true, true, true, true, true, true, true, true, true, true, true, true, true, true, true, true, true, true, true, true, true, true, true, true, true, true, true, true, true, true, true, true, true, true, true, true, true] (by kernel_rfl) (by kernel_rfl)
          ·
            refine w_op (a := .raw (.bool false)) rfl rfl rfl rfl (by dsimp only [aput, List.set]) ?_
            refine w_op (a := .raw (.bool false)) rfl rfl rfl rfl (by dsimp only [aput, List.set]) ?_
            refine w_op (a := .raw (.bool false)) rfl rfl rfl rfl (by dsimp only [aput, List.set]) ?_
            have e7 : (lo == 0 && hi == 0) = false := by simp only [h1, h2, h5, h6, Bool.true_and, Bool.and_true, Bool.false_and, Bool.and_false, Bool.true_or, Bool.or_true, Bool.false_or, Bool.or_false, Bool.not_true, Bool.not_false, cond_true, cond_false, Bool.false_eq_true, Bool.true_eq_false]
            rw [e7]
            have e8 : (lo == 1 && hi == 1) = false := by simp only [h1, h2, h5, h6, Bool.true_and, Bool.and_true, Bool.false_and, Bool.and_false, Bool.true_or, Bool.or_true, Bool.false_or, Bool.or_false, Bool.not_true, Bool.not_false, cond_true, cond_false, Bool.false_eq_true, Bool.true_eq_false]
            rw [e8]
            exact wm_of [true, true, true, true, true, true, true, true, true, false, false, false, false, false, false, false, false, false, false, false, false, true, true, true, true, true, true, true, true, true, true, true, true, true, true, true, true, true, true, true, true, true, true, true, true, true, true, true, true, true, true, true, true, true, true, true, true, true, true, true, true, true, true, true, true, true, true, true, true, true, true, true] (by kernel_rfl) (by kernel_rfl)
        ·
          refine w_op (a := .raw (.bool false)) rfl rfl rfl rfl (by dsimp only [aput, List.set]) ?_
          refine w_pass rfl rfl (by decide) (by dsimp only [aput, List.set]) ?_
          refine w_pass rfl rfl (by decide) (by dsimp only [aput, List.set]) ?_
          refine w_op (a := .raw (.bool false)) rfl rfl rfl rfl (by dsimp only [aput, List.set]) ?_
          refine w_op (a := .raw (.bool false)) rfl rfl rfl rfl (by dsimp only [aput, List.set]) ?_
          refine w_op (a := .raw (.bool false)) rfl rfl rfl rfl (by dsimp only [aput, List.set]) ?_
          have e7 : (lo == 0 && hi == 0) = false := by simp only [h1, h2, h5, Bool.true_and, Bool.and_true, Bool.false_and, Bool.and_false, Bool.true_or, Bool.or_true, Bool.false_or, Bool.or_false, Bool.not_true, Bool.not_false, cond_true, cond_false, Bool.false_eq_true, Bool.true_eq_false]
          rw [e7]
          have e8 : (lo == 1 && hi == 1) = false := by simp only [h1, h2, h5, Bool.true_and, Bool.and_true, Bool.false_and, Bool.and_false, Bool.true_or, Bool.or_true, Bool.false_or, Bool.or_false, Bool.not_true, Bool.not_false, cond_true, cond_false, Bool.false_eq_true, Bool.true_eq_false]
          rw [e8]
          exact wm_of [true, true, true, true, true, true, true, true, true, false, false, false, false, false, false, false, false, false, false, false, false, true, true, true, true, true, true, true, true, true, true, true, true, true, true, true, true, true, true, true, true, true, true, true, true, true, true, true, true, true, true, true, true, true, true, true, true, true, true, true, true, true, true, true, true, true, true, true, true, true, true, true] (by kernel_rfl) (by kernel_rfl)
    ·
      refine w_op (a := .raw (.bool false)) rfl rfl rfl rfl (by dsimp only [aput, List.set]) ?_
      refine w_pass rfl rfl (by decide) (by dsimp only [aput, List.set]) ?_
      refine w_pass rfl rfl (by decide) (by dsimp only [aput, List.set]) ?_
      refine w_op (a := .raw (.bool false)) rfl rfl rfl rfl (by dsimp only [aput, List.set]) ?_
      refine w_op rfl rfl rfl rfl (by dsimp only [aput, List.set, aval, List.getElem?_cons_zero, List.getElem?_cons_succ, Option.getD]) ?_
      refine w_opb rfl rfl rfl rfl (by dsimp only [aput, List.set]) (by dsimp only [aput, List.set]) (fun h7 => ?_) (fun h7 => ?_)
      ·
        refine w_op (a := .raw (.bool true)) rfl rfl rfl rfl (by dsimp only [aput, List.set]) ?_
        refine w_met rfl rfl ?_
        refine w_op rfl rfl rfl rfl (by dsimp only [aput, List.set, aval, List.getElem?_cons_zero, List.getElem?_cons_succ, Option.getD]) ?_
        refine w_met rfl rfl ?_
        refine w_opb rfl rfl rfl rfl (by dsimp only [aput, List.set]) (by dsimp only [aput, List.set]) (fun h8 => ?_) (fun h8 => ?_)
        ·
          refine w_op (a := .raw (.bool true)) rfl rfl rfl rfl (by dsimp only [aput, List.set]) ?_
          refine w_op (a := .raw (.bool false)) rfl rfl rfl rfl (by dsimp only [aput, List.set]) ?_
          refine w_op (a := .raw (.bool true)) rfl rfl rfl rfl (by dsimp only [aput, List.set]) ?_
          have e7 : (lo == 0 && hi == 0) = false := by simp only [h1, h7, h8, Bool.true_and, Bool.and_true, Bool.false_and, Bool.and_false, Bool.true_or, Bool.or_true, Bool.false_or, Bool.or_false, Bool.not_true, Bool.not_false, cond_true, cond_false, Bool.false_eq_true, Bool.true_eq_false]
          rw [e7]
          have e8 : (lo == 1 && hi == 1) = true := by simp only [h1, h7, h8, Bool.true_and, Bool.and_true, Bool.false_and, Bool.and_false, Bool.true_or, Bool.or_true, Bool.false_or, Bool.or_false, Bool.not_true, Bool.not_false, cond_true, cond_false, Bool.false_eq_true, Bool.true_eq_false]
          rw [e8]
          exact wm_of [true, true, true, true, true, true, true, true, true, false, false, false, false, false, false, false, false, false, false, false, false, true, true, true, true, true, true, true, true, true, true, true, true, true, true, true, true, true, true, true, true, true, true, true, true, true, true, true, true, true, true, true, true, true, true, true, true, true, true, true, true, true, true, true, true, true, true, true, true, true, true, true] (by kernel_rfl) (by kernel_rfl)
        ·
          refine w_op (a := .raw (.bool false)) rfl rfl rfl rfl (by dsimp only [aput, List.set]) ?_
          refine w_op (a := .raw (.bool false)) rfl rfl rfl rfl (by dsimp only [aput, List.set]) ?_
          refine w_op (a := .raw (.bool false)) rfl rfl rfl rfl (by dsimp only [aput, List.set]) ?_
          have e7 : (lo == 0 && hi == 0) = false := by simp only [h1, h7, h8, Bool.true_and, Bool.and_true, Bool.false_and, Bool.and_false, Bool.true_or, Bool.or_true, Bool.false_or, Bool.or_false, Bool.not_true, Bool.not_false, cond_true, cond_false, Bool.false_eq_true, Bool.true_eq_false]
          rw [e7]
          have e8 : (lo == 1 && hi == 1) = false := by simp only [h1, h7, h8, Bool.true_and, Bool.and_true, Bool.false_and, Bool.and_false, Bool.true_or, Bool.or_true, Bool.false_or, Bool.or_false, Bool.not_true, Bool.not_false, cond_true, cond_false, Bool.false_eq_true, Bool.true_eq_false]
          rw [e8]
          exact wm_of [true, true, true, true, true, true, true, true, true, false, false, false, false, false, false, false, false, false, false, false, false, true, true, true, true, true, true, true, true, true, true, true, true, true, true, true, true, true, true, true, true, true, true, true, true, true, true, true, true, true, true, true, true, true, true, true, true, true, true, true, true, true, true, true, true, true, true, true, true, true, true, true] (by kernel_rfl) (by kernel_rfl)
      ·
        refine w_op (a := .raw (.bool false)) rfl rfl rfl rfl (by dsimp only [aput, List.set]) ?_
        refine w_pass rfl rfl (by decide) (by dsimp only [aput, List.set]) ?_
        refine w_pass rfl rfl (by decide) (by dsimp only [aput, List.set]) ?_
        refine w_op (a := .raw (.bool false)) rfl rfl rfl rfl (by dsimp only [aput, List.set]) ?_
        refine w_op (a := .raw (.bool false)) rfl rfl rfl rfl (by dsimp only [aput, List.set]) ?_
        refine w_op (a := .raw (.bool false)) rfl rfl rfl rfl (by dsimp only [aput, List.set]) ?_
        have e7 : (lo == 0 && hi == 0) = false := by simp only [h1, h7, Bool.true_and, Bool.and_true, Bool.false_and, Bool.and_false, Bool.true_or, Bool.or_true, Bool.false_or, Bool.or_false, Bool.not_true, Bool.not_false, cond_true, cond_false, Bool.false_eq_true, Bool.true_eq_false]
        rw [e7]
        have e8 : (lo == 1 && hi == 1) = false := by simp only [h1, h7, Bool.true_and, Bool.and_true, Bool.false_and, Bool.and_false, Bool.true_or, Bool.or_true, Bool.false_or, Bool.or_false, Bool.not_true, Bool.not_false, cond_true, cond_false, Bool.false_eq_true, Bool.true_eq_false]
        rw [e8]
        exact wm_of [true, true, true, true, true, true, true, true, true, false, false, false, false, false, false, false, false, false, false, false, false, true, true, true, true, true, true, true, true, true, true, true, true, true, true, true, true, true, true, true, true, true, true, true, true, true, true, true, true, true, true, true, true, true, true, true, true, true, true, true, true, true, true, true, true, true, true, true, true, true, true, true] (by kernel_rfl) (by kernel_rfl)
  refine w_start (by dsimp only [setAll, topAll, List.foldl, List.set]) rfl ?_
  cases hz : lo == 0 && hi == 0
  ·
    cases ho : lo == 1 && hi == 1
    ·
      refine w_seq ?_
      refine w_block ?_
      refine w_seq (w_region ?_)
      refine w_op (a := enc (Tr.mk k s mn mx ts)) rfl rfl rfl rfl (by dsimp only [aput, List.set]) ?_
      refine w_callkb (good_at (Tr.mk k s mn mx ts) (by omega)) (by simp [cloL, clo, clo_enc]) rfl rfl (by dsimp only [aput, List.set]) (by dsimp only [aput, List.set]) (fun h9 => ?_) (fun h9 => ?_)
      ·
        refine w_op (a := .raw (.bool false)) rfl rfl rfl rfl (by dsimp only [aput, List.set]) ?_
        refine w_op (a := .raw (.bool false)) rfl rfl rfl rfl (by dsimp only [aput, List.set]) ?_
        refine w_met rfl rfl ?_
        refine w_op (a := .raw (.bool false)) rfl rfl rfl rfl (by dsimp only [aput, List.set]) ?_
        refine w_met rfl rfl ?_
        refine w_op (a := .raw (.bool true)) rfl rfl rfl rfl (by dsimp only [aput, List.set]) ?_
        refine w_met rfl rfl ?_
        refine w_op (a := .raw (.bool true)) rfl rfl rfl rfl (by dsimp only [aput, List.set]) ?_
        refine w_met rfl rfl ?_
        refine w_op (a := .raw (.bool false)) rfl rfl rfl rfl (by dsimp only [aput, List.set]) ?_
        refine w_met rfl rfl ?_
        refine w_op (a := .raw (.bool true)) rfl rfl rfl rfl (by dsimp only [aput, List.set]) ?_
        refine w_met rfl rfl ?_
        refine w_op (a := .raw (.bool true)) rfl rfl rfl rfl (by dsimp only [aput, List.set]) ?_
        refine w_met rfl rfl ?_
        refine w_op (a := .raw (.bool true)) rfl rfl rfl rfl (by dsimp only [aput, List.set]) ?_
        refine w_met rfl rfl ?_
        refine w_op rfl rfl rfl rfl (by dsimp only [aput, List.set, aval, List.getElem?_cons_zero, List.getElem?_cons_succ, Option.getD]) ?_
        refine w_met rfl rfl ?_
        refine w_op rfl rfl rfl rfl (by dsimp only [aput, List.set, aval, List.getElem?_cons_zero, List.getElem?_cons_succ, Option.getD]) ?_
        refine w_met rfl rfl ?_
        refine w_callkb (bounds_pure lo hi) (by simp [cloL, clo, clo_enc]) rfl rfl (by dsimp only [aput, List.set]) (by dsimp only [aput, List.set]) (fun h10 => ?_) (fun h10 => ?_)
        ·
          refine w_met rfl rfl ?_
          refine w_op (a := .raw (.bool false)) rfl rfl rfl rfl (by dsimp only [aput, List.set]) ?_
          refine w_met rfl rfl ?_
          refine w_op (a := .raw (.bool false)) rfl rfl rfl rfl (by dsimp only [aput, List.set]) ?_
          refine w_op (a := .raw (.bool false)) rfl rfl rfl rfl (by dsimp only [aput, List.set]) ?_
          refine w_op (a := .raw (.bool false)) rfl rfl rfl rfl (by dsimp only [aput, List.set]) ?_
          refine w_false rfl ?_
          refine w_seq (w_region ?_)
          refine w_op (a := .ptr 0 0) rfl rfl rfl rfl (by dsimp only [aput, List.set]) ?_
          refine w_op rfl rfl rfl rfl (by dsimp only [aput, List.set]) ?_
          refine w_opb rfl rfl rfl rfl (by dsimp only [aput, List.set]) (by dsimp only [aput, List.set]) (fun h11 => ?_) (fun h11 => ?_)
          ·
            refine w_op (a := .raw (.bool true)) rfl rfl rfl rfl (by dsimp only [aput, List.set]) ?_
            refine w_met rfl rfl ?_
            refine w_op rfl rfl rfl rfl (by dsimp only [aput, List.set, aval, List.getElem?_cons_zero, List.getElem?_cons_succ, Option.getD]) ?_
            refine w_met rfl rfl ?_
            refine w_opb rfl rfl rfl rfl (by dsimp only [aput, List.set]) (by dsimp only [aput, List.set]) (fun h12 => ?_) (fun h12 => ?_)
            ·
              refine w_op (a := .raw (.bool true)) rfl rfl rfl rfl (by dsimp only [aput, List.set]) ?_
              refine w_op (a := .raw (.bool true)) rfl rfl rfl rfl (by dsimp only [aput, List.set]) ?_
              refine w_true rfl ?_
              refine w_seq (w_region ?_)
              refine w_op (a := zero29) rfl rfl rfl rfl (by dsimp only [aput, List.set]) ?_
              refine w_opm rfl rfl rfl (op_storeW (n := 8) rfl rfl rfl rfl rfl rfl rfl rfl (by decide)) (by dsimp only [aput, List.set]) (by dsimp only [cellsOf_enc, List.append_nil, List.nil_append, List.cons_append, List.set, List.take, List.drop, List.length, List.length_cons, List.length_nil, cellsOf, aval, List.getElem?_cons_zero, List.getElem?_cons_succ, Option.getD]) ?_
              refine end_pure (a := zero29) rfl rfl ?_
              rw [← hres, show timesT (Tr.mk k s mn mx ts) lo hi = noneT from by simp only [timesT, Tr.k, hz, ho, h9, h10, h11, h12, Bool.true_and, Bool.and_true, Bool.false_and, Bool.and_false, Bool.true_or, Bool.or_true, Bool.false_or, Bool.or_false, Bool.not_true, Bool.not_false, cond_true, cond_false, Bool.false_eq_true, Bool.true_eq_false]]; exact strip_zero29
            ·
              refine w_op (a := .raw (.bool false)) rfl rfl rfl rfl (by dsimp only [aput, List.set]) ?_
              refine w_op (a := .raw (.bool false)) rfl rfl rfl rfl (by dsimp only [aput, List.set]) ?_
              refine w_false rfl ?_
              refine w_seq (w_region ?_)
              refine w_op (a := .raw (.bool false)) rfl rfl rfl rfl (by dsimp only [aput, List.set]) ?_
              refine w_op (a := .raw (.bool false)) rfl rfl rfl rfl (by dsimp only [aput, List.set]) ?_
              refine w_met rfl rfl ?_
              refine w_op (a := .ptr 0 0) rfl rfl rfl rfl (by dsimp only [aput, List.set]) ?_
              refine w_met rfl rfl ?_
              refine w_op rfl rfl rfl rfl (by dsimp only [aput, List.set]) ?_
              refine w_met rfl rfl ?_
              refine w_opb rfl rfl rfl rfl (by dsimp only [aput, List.set]) (by dsimp only [aput, List.set]) (fun h13 => ?_) (fun h13 => ?_)
              ·
                refine w_op (a := .raw (.bool true)) rfl rfl rfl rfl (by dsimp only [aput, List.set]) ?_
                refine w_op (a := .raw (.bool true)) rfl rfl rfl rfl (by dsimp only [aput, List.set]) ?_
                refine w_pass rfl rfl (by decide) (by dsimp only [aput, List.set]) ?_
                refine w_pass rfl rfl (by decide) (by dsimp only [aput, List.set]) ?_
                refine w_pass rfl rfl (by decide) (by dsimp only [aput, List.set]) ?_
                refine w_op (a := .raw (.bool true)) rfl rfl rfl rfl (by dsimp only [aput, List.set]) ?_
                refine w_op (a := .raw (.bool true)) rfl rfl rfl rfl (by dsimp only [aput, List.set]) ?_
                refine w_true rfl ?_
                refine w_seq (w_region ?_)
                refine w_op (a := nodeF 1 0 0 [] .full) rfl rfl rfl rfl (by dsimp only [aput, List.set]) ?_
                refine w_opm rfl rfl rfl (op_storeW (n := 8) rfl rfl rfl rfl rfl rfl rfl rfl (by decide)) (by dsimp only [aput, List.set]) (by dsimp only [cellsOf_enc, List.append_nil, List.nil_append, List.cons_append, List.set, List.take, List.drop, List.length, List.length_cons, List.length_nil, cellsOf, aval, List.getElem?_cons_zero, List.getElem?_cons_succ, Option.getD]) ?_
                refine end_pure (a := nodeF 1 0 0 [] .full) rfl (okTrim_nodeF _ _ _ _ _ _) ?_
                rw [← hres, show timesT (Tr.mk k s mn mx ts) lo hi = emptyT from by simp only [timesT, Tr.k, hz, ho, h9, h10, h11, h12, h13, Bool.true_and, Bool.and_true, Bool.false_and, Bool.and_false, Bool.true_or, Bool.or_true, Bool.false_or, Bool.or_false, Bool.not_true, Bool.not_false, cond_true, cond_false, Bool.false_eq_true, Bool.true_eq_false]]; exact strip_empty
              ·
                exact absurd (h11.symm.trans h13) (by decide)
          ·
            refine w_op (a := .raw (.bool false)) rfl rfl rfl rfl (by dsimp only [aput, List.set]) ?_
            refine w_pass rfl rfl (by decide) (by dsimp only [aput, List.set]) ?_
            refine w_pass rfl rfl (by decide) (by dsimp only [aput, List.set]) ?_
            refine w_op (a := .raw (.bool false)) rfl rfl rfl rfl (by dsimp only [aput, List.set]) ?_
            refine w_op (a := .raw (.bool false)) rfl rfl rfl rfl (by dsimp only [aput, List.set]) ?_
            refine w_false rfl ?_
            refine w_seq (w_region ?_)
            refine w_op (a := .raw (.bool false)) rfl rfl rfl rfl (by dsimp only [aput, List.set]) ?_
            refine w_op (a := .raw (.bool false)) rfl rfl rfl rfl (by dsimp only [aput, List.set]) ?_
            refine w_met rfl rfl ?_
            refine w_op (a := .ptr 0 0) rfl rfl rfl rfl (by dsimp only [aput, List.set]) ?_
            refine w_met rfl rfl ?_
            refine w_op rfl rfl rfl rfl (by dsimp only [aput, List.set]) ?_
            refine w_met rfl rfl ?_
            refine w_opb rfl rfl rfl rfl (by dsimp only [aput, List.set]) (by dsimp only [aput, List.set]) (fun h14 => ?_) (fun h14 => ?_)
            ·
              exact absurd (h11.symm.trans h14) (by decide)
            ·
              refine w_op (a := .raw (.bool false)) rfl rfl rfl rfl (by dsimp only [aput, List.set]) ?_
              refine w_op (a := .raw (.bool false)) rfl rfl rfl rfl (by dsimp only [aput, List.set]) ?_
              refine w_met rfl rfl ?_
              refine w_op (a := .ptr 0 0) rfl rfl rfl rfl (by dsimp only [aput, List.set]) ?_
              refine w_met rfl rfl ?_
              refine w_op rfl rfl rfl rfl (by dsimp only [aput, List.set]) ?_
              refine w_met rfl rfl ?_
              refine w_opb rfl rfl rfl rfl (by dsimp only [aput, List.set]) (by dsimp only [aput, List.set]) (fun h15 => ?_) (fun h15 => ?_)
              ·
                refine w_op (a := .raw (.bool true)) rfl rfl rfl rfl (by dsimp only [aput, List.set]) ?_
                refine w_op (a := .raw (.bool true)) rfl rfl rfl rfl (by dsimp only [aput, List.set]) ?_
                refine w_true rfl ?_
                refine w_seq (w_region ?_)
                refine w_op (a := nodeF 1 0 0 [] .full) rfl rfl rfl rfl (by dsimp only [aput, List.set]) ?_
                refine w_opm rfl rfl rfl (op_storeW (n := 8) rfl rfl rfl rfl rfl rfl rfl rfl (by decide)) (by dsimp only [aput, List.set]) (by dsimp only [cellsOf_enc, List.append_nil, List.nil_append, List.cons_append, List.set, List.take, List.drop, List.length, List.length_cons, List.length_nil, cellsOf, aval, List.getElem?_cons_zero, List.getElem?_cons_succ, Option.getD]) ?_
                refine end_pure (a := nodeF 1 0 0 [] .full) rfl (okTrim_nodeF _ _ _ _ _ _) ?_
                rw [← hres, show timesT (Tr.mk k s mn mx ts) lo hi = emptyT from by simp only [timesT, Tr.k, hz, ho, h9, h10, h11, h14, h15, Bool.true_and, Bool.and_true, Bool.false_and, Bool.and_false, Bool.true_or, Bool.or_true, Bool.false_or, Bool.or_false, Bool.not_true, Bool.not_false, cond_true, cond_false, Bool.false_eq_true, Bool.true_eq_false]]; exact strip_empty
              ·
                refine w_op (a := .raw (.bool false)) rfl rfl rfl rfl (by dsimp only [aput, List.set]) ?_
                refine w_op (a := .raw (.bool false)) rfl rfl rfl rfl (by dsimp only [aput, List.set]) ?_
                refine w_false rfl ?_
                refine w_seq (w_region ?_)
                refine w_op (a := .raw (.bool false)) rfl rfl rfl rfl (by dsimp only [aput, List.set]) ?_
                refine w_op (a := .raw (.bool false)) rfl rfl rfl rfl (by dsimp only [aput, List.set]) ?_
                refine w_false rfl ?_
                refine w_seq (w_region ?_)
                refine w_op rfl rfl rfl rfl (by dsimp only [aput, List.set, aval, List.getElem?_cons_zero, List.getElem?_cons_succ, Option.getD]) ?_
                refine w_op rfl rfl rfl rfl (by dsimp only [aput, List.set, aval, List.getElem?_cons_zero, List.getElem?_cons_succ, Option.getD]) ?_
                refine w_op (a := enc (Tr.mk k s mn mx ts)) rfl rfl rfl rfl (by dsimp only [aput, List.set]) ?_
                refine w_op (a := .list 1 (cellsL [(Tr.mk k s mn mx ts)]) .full) rfl rfl rfl rfl (by dsimp only [aput, List.set]) ?_
                refine w_op (a := nodeF 5 lo hi [(Tr.mk k s mn mx ts)] .full) rfl rfl rfl rfl (by dsimp only [aput, List.set]) ?_
                refine w_callc (args := [nodeF 5 lo hi [(Tr.mk k s mn mx ts)] .full]) (checked_at (Tr.mk 5 0#256 lo hi [(Tr.mk k s mn mx ts)]) (by rw [pre_one]; omega)) rfl rfl (by simp [stripL, strip_nodeF]) (by simp [okTrimL, okTrim_nodeF]) (by dsimp only [aput, List.set]) ?_
                obtain ⟨xr, hxr⟩ : ∃ xr, checkedT (Tr.mk 5 0#256 lo hi [(Tr.mk k s mn mx ts)]) = xr := ⟨_, rfl⟩
                rw [hxr]
                obtain ⟨kr, sr, mnr, mxr, tsr⟩ := xr
                refine w_opm rfl rfl rfl (op_storeW (n := 8) rfl rfl rfl rfl rfl rfl rfl rfl (by decide)) (by dsimp only [aput, List.set]) (by dsimp only [cellsOf_enc, List.append_nil, List.nil_append, List.cons_append, List.set, List.take, List.drop, List.length, List.length_cons, List.length_nil, cellsOf, aval, List.getElem?_cons_zero, List.getElem?_cons_succ, Option.getD]) ?_
                refine end_pure (a := enc (Tr.mk kr sr mnr mxr tsr)) rfl (okTrim_enc _ _) ?_
                rw [← hres, show timesT (Tr.mk k s mn mx ts) lo hi = (Tr.mk kr sr mnr mxr tsr) from by rw [← hxr]; simp only [timesT, Tr.k, hz, ho, h9, h10, h11, h14, h15, Bool.true_and, Bool.and_true, Bool.false_and, Bool.and_false, Bool.true_or, Bool.or_true, Bool.false_or, Bool.or_false, Bool.not_true, Bool.not_false, cond_true, cond_false, Bool.false_eq_true, Bool.true_eq_false]]; exact strip_enc _
        ·
          refine w_met rfl rfl ?_
          refine w_op (a := .raw (.bool true)) rfl rfl rfl rfl (by dsimp only [aput, List.set]) ?_
          refine w_met rfl rfl ?_
          refine w_op (a := .raw (.bool true)) rfl rfl rfl rfl (by dsimp only [aput, List.set]) ?_
          refine w_op (a := .raw (.bool true)) rfl rfl rfl rfl (by dsimp only [aput, List.set]) ?_
          refine w_op (a := .raw (.bool true)) rfl rfl rfl rfl (by dsimp only [aput, List.set]) ?_
          refine w_true rfl ?_
          refine w_seq (w_region ?_)
          refine w_op (a := zero29) rfl rfl rfl rfl (by dsimp only [aput, List.set]) ?_
          refine w_opm rfl rfl rfl (op_storeW (n := 8) rfl rfl rfl rfl rfl rfl rfl rfl (by decide)) (by dsimp only [aput, List.set]) (by dsimp only [cellsOf_enc, List.append_nil, List.nil_append, List.cons_append, List.set, List.take, List.drop, List.length, List.length_cons, List.length_nil, cellsOf, aval, List.getElem?_cons_zero, List.getElem?_cons_succ, Option.getD]) ?_
          refine end_pure (a := zero29) rfl rfl ?_
          rw [← hres, show timesT (Tr.mk k s mn mx ts) lo hi = noneT from by simp only [timesT, Tr.k, hz, ho, h9, h10, Bool.true_and, Bool.and_true, Bool.false_and, Bool.and_false, Bool.true_or, Bool.or_true, Bool.false_or, Bool.or_false, Bool.not_true, Bool.not_false, cond_true, cond_false, Bool.false_eq_true, Bool.true_eq_false]]; exact strip_zero29
      ·
        refine w_op (a := .raw (.bool true)) rfl rfl rfl rfl (by dsimp only [aput, List.set]) ?_
        refine w_op (a := .raw (.bool true)) rfl rfl rfl rfl (by dsimp only [aput, List.set]) ?_
        refine w_pass rfl rfl (by decide) (by dsimp only [aput, List.set]) ?_
        refine w_pass rfl rfl (by decide) (by dsimp only [aput, List.set]) ?_
        refine w_pass rfl rfl (by decide) (by dsimp only [aput, List.set]) ?_
        refine w_pass rfl rfl (by decide) (by dsimp only [aput, List.set]) ?_
        refine w_pass rfl rfl (by decide) (by dsimp only [aput, List.set]) ?_
        refine w_pass rfl rfl (by decide) (by dsimp only [aput, List.set]) ?_
        refine w_pass rfl rfl (by decide) (by dsimp only [aput, List.set]) ?_
        refine w_pass rfl rfl (by decide) (by dsimp only [aput, List.set]) ?_
        refine w_pass rfl rfl (by decide) (by dsimp only [aput, List.set]) ?_
        refine w_pass rfl rfl (by decide) (by dsimp only [aput, List.set]) ?_
        refine w_pass rfl rfl (by decide) (by dsimp only [aput, List.set]) ?_
        refine w_pass rfl rfl (by decide) (by dsimp only [aput, List.set]) ?_
        refine w_op (a := .raw (.bool true)) rfl rfl rfl rfl (by dsimp only [aput, List.set]) ?_
        refine w_op (a := .raw (.bool true)) rfl rfl rfl rfl (by dsimp only [aput, List.set]) ?_
        refine w_true rfl ?_
        refine w_seq (w_region ?_)
        refine w_op (a := zero29) rfl rfl rfl rfl (by dsimp only [aput, List.set]) ?_
        refine w_opm rfl rfl rfl (op_storeW (n := 8) rfl rfl rfl rfl rfl rfl rfl rfl (by decide)) (by dsimp only [aput, List.set]) (by dsimp only [cellsOf_enc, List.append_nil, List.nil_append, List.cons_append, List.set, List.take, List.drop, List.length, List.length_cons, List.length_nil, cellsOf, aval, List.getElem?_cons_zero, List.getElem?_cons_succ, Option.getD]) ?_
        refine end_pure (a := zero29) rfl rfl ?_
        rw [← hres, show timesT (Tr.mk k s mn mx ts) lo hi = noneT from by simp only [timesT, Tr.k, hz, ho, h9, Bool.true_and, Bool.and_true, Bool.false_and, Bool.and_false, Bool.true_or, Bool.or_true, Bool.false_or, Bool.or_false, Bool.not_true, Bool.not_false, cond_true, cond_false, Bool.false_eq_true, Bool.true_eq_false]]; exact strip_zero29
    ·
      refine w_seq ?_
      refine w_block ?_
      refine w_seq (w_region ?_)
      refine w_op (a := enc (Tr.mk k s mn mx ts)) rfl rfl rfl rfl (by dsimp only [aput, List.set]) ?_
      refine w_callkb (good_at (Tr.mk k s mn mx ts) (by omega)) (by simp [cloL, clo, clo_enc]) rfl rfl (by dsimp only [aput, List.set]) (by dsimp only [aput, List.set]) (fun h16 => ?_) (fun h16 => ?_)
      ·
        refine w_op (a := .raw (.bool false)) rfl rfl rfl rfl (by dsimp only [aput, List.set]) ?_
        refine w_op (a := .raw (.bool false)) rfl rfl rfl rfl (by dsimp only [aput, List.set]) ?_
        refine w_met rfl rfl ?_
        refine w_op (a := .raw (.bool false)) rfl rfl rfl rfl (by dsimp only [aput, List.set]) ?_
        refine w_met rfl rfl ?_
        refine w_op (a := .raw (.bool true)) rfl rfl rfl rfl (by dsimp only [aput, List.set]) ?_
        refine w_met rfl rfl ?_
        refine w_op (a := .raw (.bool true)) rfl rfl rfl rfl (by dsimp only [aput, List.set]) ?_
        refine w_met rfl rfl ?_
        refine w_op (a := .raw (.bool true)) rfl rfl rfl rfl (by dsimp only [aput, List.set]) ?_
        refine w_met rfl rfl ?_
        refine w_op (a := .raw (.bool false)) rfl rfl rfl rfl (by dsimp only [aput, List.set]) ?_
        refine w_met rfl rfl ?_
        refine w_op (a := .raw (.bool false)) rfl rfl rfl rfl (by dsimp only [aput, List.set]) ?_
        refine w_met rfl rfl ?_
        refine w_op (a := .raw (.bool false)) rfl rfl rfl rfl (by dsimp only [aput, List.set]) ?_
        refine w_pass rfl rfl (by decide) (by dsimp only [aput, List.set]) ?_
        refine w_pass rfl rfl (by decide) (by dsimp only [aput, List.set]) ?_
        refine w_pass rfl rfl (by decide) (by dsimp only [aput, List.set]) ?_
        refine w_pass rfl rfl (by decide) (by dsimp only [aput, List.set]) ?_
        refine w_met rfl rfl ?_
        refine w_op (a := .raw (.bool false)) rfl rfl rfl rfl (by dsimp only [aput, List.set]) ?_
        refine w_op (a := .raw (.bool false)) rfl rfl rfl rfl (by dsimp only [aput, List.set]) ?_
        refine w_op (a := .raw (.bool false)) rfl rfl rfl rfl (by dsimp only [aput, List.set]) ?_
        refine w_false rfl ?_
        refine w_seq (w_region ?_)
        refine w_op (a := .ptr 0 0) rfl rfl rfl rfl (by dsimp only [aput, List.set]) ?_
        refine w_op rfl rfl rfl rfl (by dsimp only [aput, List.set]) ?_
        refine w_opb rfl rfl rfl rfl (by dsimp only [aput, List.set]) (by dsimp only [aput, List.set]) (fun h17 => ?_) (fun h17 => ?_)
        ·
          refine w_op (a := .raw (.bool true)) rfl rfl rfl rfl (by dsimp only [aput, List.set]) ?_
          refine w_met rfl rfl ?_
          refine w_op rfl rfl rfl rfl (by dsimp only [aput, List.set, aval, List.getElem?_cons_zero, List.getElem?_cons_succ, Option.getD]) ?_
          refine w_met rfl rfl ?_
          refine w_opb rfl rfl rfl rfl (by dsimp only [aput, List.set]) (by dsimp only [aput, List.set]) (fun h18 => ?_) (fun h18 => ?_)
          ·
            refine w_op (a := .raw (.bool true)) rfl rfl rfl rfl (by dsimp only [aput, List.set]) ?_
            refine w_op (a := .raw (.bool true)) rfl rfl rfl rfl (by dsimp only [aput, List.set]) ?_
            refine w_true rfl ?_
            refine w_seq (w_region ?_)
            refine w_op (a := zero29) rfl rfl rfl rfl (by dsimp only [aput, List.set]) ?_
            refine w_opm rfl rfl rfl (op_storeW (n := 8) rfl rfl rfl rfl rfl rfl rfl rfl (by decide)) (by dsimp only [aput, List.set]) (by dsimp only [cellsOf_enc, List.append_nil, List.nil_append, List.cons_append, List.set, List.take, List.drop, List.length, List.length_cons, List.length_nil, cellsOf, aval, List.getElem?_cons_zero, List.getElem?_cons_succ, Option.getD]) ?_
            refine end_pure (a := zero29) rfl rfl ?_
            rw [← hres, show timesT (Tr.mk k s mn mx ts) lo hi = noneT from by simp only [timesT, Tr.k, hz, ho, h16, h17, h18, Bool.true_and, Bool.and_true, Bool.false_and, Bool.and_false, Bool.true_or, Bool.or_true, Bool.false_or, Bool.or_false, Bool.not_true, Bool.not_false, cond_true, cond_false, Bool.false_eq_true, Bool.true_eq_false]]; exact strip_zero29
          ·
            refine w_op (a := .raw (.bool false)) rfl rfl rfl rfl (by dsimp only [aput, List.set]) ?_
            refine w_op (a := .raw (.bool false)) rfl rfl rfl rfl (by dsimp only [aput, List.set]) ?_
            refine w_false rfl ?_
            refine w_seq (w_region ?_)
            refine w_op (a := .raw (.bool false)) rfl rfl rfl rfl (by dsimp only [aput, List.set]) ?_
            refine w_op (a := .raw (.bool false)) rfl rfl rfl rfl (by dsimp only [aput, List.set]) ?_
            refine w_met rfl rfl ?_
            refine w_op (a := .ptr 0 0) rfl rfl rfl rfl (by dsimp only [aput, List.set]) ?_
            refine w_met rfl rfl ?_
            refine w_op rfl rfl rfl rfl (by dsimp only [aput, List.set]) ?_
            refine w_met rfl rfl ?_
            refine w_opb rfl rfl rfl rfl (by dsimp only [aput, List.set]) (by dsimp only [aput, List.set]) (fun h19 => ?_) (fun h19 => ?_)
            ·
              refine w_op (a := .raw (.bool true)) rfl rfl rfl rfl (by dsimp only [aput, List.set]) ?_
              refine w_op (a := .raw (.bool true)) rfl rfl rfl rfl (by dsimp only [aput, List.set]) ?_
              refine w_pass rfl rfl (by decide) (by dsimp only [aput, List.set]) ?_
              refine w_pass rfl rfl (by decide) (by dsimp only [aput, List.set]) ?_
              refine w_pass rfl rfl (by decide) (by dsimp only [aput, List.set]) ?_
              refine w_op (a := .raw (.bool true)) rfl rfl rfl rfl (by dsimp only [aput, List.set]) ?_
              refine w_op (a := .raw (.bool true)) rfl rfl rfl rfl (by dsimp only [aput, List.set]) ?_
              refine w_true rfl ?_
              refine w_seq (w_region ?_)
              refine w_op (a := nodeF 1 0 0 [] .full) rfl rfl rfl rfl (by dsimp only [aput, List.set]) ?_
              refine w_opm rfl rfl rfl (op_storeW (n := 8) rfl rfl rfl rfl rfl rfl rfl rfl (by decide)) (by dsimp only [aput, List.set]) (by dsimp only [cellsOf_enc, List.append_nil, List.nil_append, List.cons_append, List.set, List.take, List.drop, List.length, List.length_cons, List.length_nil, cellsOf, aval, List.getElem?_cons_zero, List.getElem?_cons_succ, Option.getD]) ?_
              refine end_pure (a := nodeF 1 0 0 [] .full) rfl (okTrim_nodeF _ _ _ _ _ _) ?_
              rw [← hres, show timesT (Tr.mk k s mn mx ts) lo hi = emptyT from by simp only [timesT, Tr.k, hz, ho, h16, h17, h18, h19, Bool.true_and, Bool.and_true, Bool.false_and, Bool.and_false, Bool.true_or, Bool.or_true, Bool.false_or, Bool.or_false, Bool.not_true, Bool.not_false, cond_true, cond_false, Bool.false_eq_true, Bool.true_eq_false]]; exact strip_empty
            ·
              exact absurd (h17.symm.trans h19) (by decide)
        ·
          refine w_op (a := .raw (.bool false)) rfl rfl rfl rfl (by dsimp only [aput, List.set]) ?_
          refine w_pass rfl rfl (by decide) (by dsimp only [aput, List.set]) ?_
          refine w_pass rfl rfl (by decide) (by dsimp only [aput, List.set]) ?_
          refine w_op (a := .raw (.bool false)) rfl rfl rfl rfl (by dsimp only [aput, List.set]) ?_
          refine w_op (a := .raw (.bool false)) rfl rfl rfl rfl (by dsimp only [aput, List.set]) ?_
          refine w_false rfl ?_
          refine w_seq (w_region ?_)
          refine w_op (a := .raw (.bool false)) rfl rfl rfl rfl (by dsimp only [aput, List.set]) ?_
          refine w_op (a := .raw (.bool false)) rfl rfl rfl rfl (by dsimp only [aput, List.set]) ?_
          refine w_met rfl rfl ?_
          refine w_op (a := .ptr 0 0) rfl rfl rfl rfl (by dsimp only [aput, List.set]) ?_
          refine w_met rfl rfl ?_
          refine w_op rfl rfl rfl rfl (by dsimp only [aput, List.set]) ?_
          refine w_met rfl rfl ?_
          refine w_opb rfl rfl rfl rfl (by dsimp only [aput, List.set]) (by dsimp only [aput, List.set]) (fun h20 => ?_) (fun h20 => ?_)
          ·
            exact absurd (h17.symm.trans h20) (by decide)
          ·
            refine w_op (a := .raw (.bool false)) rfl rfl rfl rfl (by dsimp only [aput, List.set]) ?_
            refine w_op (a := .raw (.bool false)) rfl rfl rfl rfl (by dsimp only [aput, List.set]) ?_
            refine w_met rfl rfl ?_
            refine w_op (a := .ptr 0 0) rfl rfl rfl rfl (by dsimp only [aput, List.set]) ?_
            refine w_met rfl rfl ?_
            refine w_op rfl rfl rfl rfl (by dsimp only [aput, List.set]) ?_
            refine w_met rfl rfl ?_
            refine w_opb rfl rfl rfl rfl (by dsimp only [aput, List.set]) (by dsimp only [aput, List.set]) (fun h21 => ?_) (fun h21 => ?_)
            ·
              refine w_op (a := .raw (.bool true)) rfl rfl rfl rfl (by dsimp only [aput, List.set]) ?_
              refine w_op (a := .raw (.bool true)) rfl rfl rfl rfl (by dsimp only [aput, List.set]) ?_
              refine w_true rfl ?_
              refine w_seq (w_region ?_)
              refine w_op (a := nodeF 1 0 0 [] .full) rfl rfl rfl rfl (by dsimp only [aput, List.set]) ?_
              refine w_opm rfl rfl rfl (op_storeW (n := 8) rfl rfl rfl rfl rfl rfl rfl rfl (by decide)) (by dsimp only [aput, List.set]) (by dsimp only [cellsOf_enc, List.append_nil, List.nil_append, List.cons_append, List.set, List.take, List.drop, List.length, List.length_cons, List.length_nil, cellsOf, aval, List.getElem?_cons_zero, List.getElem?_cons_succ, Option.getD]) ?_
              refine end_pure (a := nodeF 1 0 0 [] .full) rfl (okTrim_nodeF _ _ _ _ _ _) ?_
              rw [← hres, show timesT (Tr.mk k s mn mx ts) lo hi = emptyT from by simp only [timesT, Tr.k, hz, ho, h16, h17, h20, h21, Bool.true_and, Bool.and_true, Bool.false_and, Bool.and_false, Bool.true_or, Bool.or_true, Bool.false_or, Bool.or_false, Bool.not_true, Bool.not_false, cond_true, cond_false, Bool.false_eq_true, Bool.true_eq_false]]; exact strip_empty
            ·
              refine w_op (a := .raw (.bool false)) rfl rfl rfl rfl (by dsimp only [aput, List.set]) ?_
              refine w_op (a := .raw (.bool false)) rfl rfl rfl rfl (by dsimp only [aput, List.set]) ?_
              refine w_false rfl ?_
              refine w_seq (w_region ?_)
              refine w_op (a := .raw (.bool true)) rfl rfl rfl rfl (by dsimp only [aput, List.set]) ?_
              refine w_op (a := .raw (.bool true)) rfl rfl rfl rfl (by dsimp only [aput, List.set]) ?_
              refine w_true rfl ?_
              refine w_seq (w_region ?_)
              refine w_op (a := enc (Tr.mk k s mn mx ts)) rfl rfl rfl rfl (by dsimp only [aput, List.set]) ?_
              have hlight : (pre (Tr.mk k s mn mx ts)).length ≤ 10000 := by
                have hg : goodT (Tr.mk k s mn mx ts) = true := h16
                rw [goodT, Bool.or_eq_true] at hg
                rcases hg with hg | hg
                · rw [(sameT_iff _ _).1 hg]; simp [noneT, pre, preL]
                · exact light_of_clean hg
              refine w_callk (copied_at (Tr.mk k s mn mx ts) hlight) (by simp [cloL, clo, clo_enc]) rfl rfl (by dsimp only [aput, List.set]) ?_
              refine w_opm rfl rfl rfl (op_storeW (n := 8) rfl rfl rfl rfl rfl rfl rfl rfl (by decide)) (by dsimp only [aput, List.set]) (by dsimp only [cellsOf_enc, List.append_nil, List.nil_append, List.cons_append, List.set, List.take, List.drop, List.length, List.length_cons, List.length_nil, cellsOf, aval, List.getElem?_cons_zero, List.getElem?_cons_succ, Option.getD]) ?_
              refine end_pure (a := enc (Tr.mk k s mn mx ts)) rfl (okTrim_enc _ _) ?_
              rw [← hres, show timesT (Tr.mk k s mn mx ts) lo hi = (Tr.mk k s mn mx ts) from by simp only [timesT, Tr.k, hz, ho, h16, h17, h20, h21, Bool.true_and, Bool.and_true, Bool.false_and, Bool.and_false, Bool.true_or, Bool.or_true, Bool.false_or, Bool.or_false, Bool.not_true, Bool.not_false, cond_true, cond_false, Bool.false_eq_true, Bool.true_eq_false]]; exact strip_enc _
      ·
        refine w_op (a := .raw (.bool true)) rfl rfl rfl rfl (by dsimp only [aput, List.set]) ?_
        refine w_op (a := .raw (.bool true)) rfl rfl rfl rfl (by dsimp only [aput, List.set]) ?_
        refine w_pass rfl rfl (by decide) (by dsimp only [aput, List.set]) ?_
        refine w_pass rfl rfl (by decide) (by dsimp only [aput, List.set]) ?_
        refine w_pass rfl rfl (by decide) (by dsimp only [aput, List.set]) ?_
        refine w_pass rfl rfl (by decide) (by dsimp only [aput, List.set]) ?_
        refine w_pass rfl rfl (by decide) (by dsimp only [aput, List.set]) ?_
        refine w_pass rfl rfl (by decide) (by dsimp only [aput, List.set]) ?_
        refine w_pass rfl rfl (by decide) (by dsimp only [aput, List.set]) ?_
        refine w_pass rfl rfl (by decide) (by dsimp only [aput, List.set]) ?_
        refine w_pass rfl rfl (by decide) (by dsimp only [aput, List.set]) ?_
        refine w_pass rfl rfl (by decide) (by dsimp only [aput, List.set]) ?_
        refine w_pass rfl rfl (by decide) (by dsimp only [aput, List.set]) ?_
        refine w_pass rfl rfl (by decide) (by dsimp only [aput, List.set]) ?_
        refine w_op (a := .raw (.bool true)) rfl rfl rfl rfl (by dsimp only [aput, List.set]) ?_
        refine w_op (a := .raw (.bool true)) rfl rfl rfl rfl (by dsimp only [aput, List.set]) ?_
        refine w_true rfl ?_
        refine w_seq (w_region ?_)
        refine w_op (a := zero29) rfl rfl rfl rfl (by dsimp only [aput, List.set]) ?_
        refine w_opm rfl rfl rfl (op_storeW (n := 8) rfl rfl rfl rfl rfl rfl rfl rfl (by decide)) (by dsimp only [aput, List.set]) (by dsimp only [cellsOf_enc, List.append_nil, List.nil_append, List.cons_append, List.set, List.take, List.drop, List.length, List.length_cons, List.length_nil, cellsOf, aval, List.getElem?_cons_zero, List.getElem?_cons_succ, Option.getD]) ?_
        refine end_pure (a := zero29) rfl rfl ?_
        rw [← hres, show timesT (Tr.mk k s mn mx ts) lo hi = noneT from by simp only [timesT, Tr.k, hz, ho, h16, Bool.true_and, Bool.and_true, Bool.false_and, Bool.and_false, Bool.true_or, Bool.or_true, Bool.false_or, Bool.or_false, Bool.not_true, Bool.not_false, cond_true, cond_false, Bool.false_eq_true, Bool.true_eq_false]]; exact strip_zero29
  ·
    cases ho : lo == 1 && hi == 1
    ·
      refine w_seq ?_
      refine w_block ?_
      refine w_seq (w_region ?_)
      refine w_op (a := enc (Tr.mk k s mn mx ts)) rfl rfl rfl rfl (by dsimp only [aput, List.set]) ?_
      refine w_callkb (good_at (Tr.mk k s mn mx ts) (by omega)) (by simp [cloL, clo, clo_enc]) rfl rfl (by dsimp only [aput, List.set]) (by dsimp only [aput, List.set]) (fun h22 => ?_) (fun h22 => ?_)
      ·
        refine w_op (a := .raw (.bool false)) rfl rfl rfl rfl (by dsimp only [aput, List.set]) ?_
        refine w_op (a := .raw (.bool false)) rfl rfl rfl rfl (by dsimp only [aput, List.set]) ?_
        refine w_met rfl rfl ?_
        refine w_op (a := .raw (.bool true)) rfl rfl rfl rfl (by dsimp only [aput, List.set]) ?_
        refine w_met rfl rfl ?_
        refine w_op (a := .raw (.bool false)) rfl rfl rfl rfl (by dsimp only [aput, List.set]) ?_
        refine w_met rfl rfl ?_
        refine w_op (a := .raw (.bool false)) rfl rfl rfl rfl (by dsimp only [aput, List.set]) ?_
        refine w_pass rfl rfl (by decide) (by dsimp only [aput, List.set]) ?_
        refine w_pass rfl rfl (by decide) (by dsimp only [aput, List.set]) ?_
        refine w_met rfl rfl ?_
        refine w_op (a := .raw (.bool false)) rfl rfl rfl rfl (by dsimp only [aput, List.set]) ?_
        refine w_met rfl rfl ?_
        refine w_op (a := .raw (.bool false)) rfl rfl rfl rfl (by dsimp only [aput, List.set]) ?_
        refine w_pass rfl rfl (by decide) (by dsimp only [aput, List.set]) ?_
        refine w_pass rfl rfl (by decide) (by dsimp only [aput, List.set]) ?_
        refine w_pass rfl rfl (by decide) (by dsimp only [aput, List.set]) ?_
        refine w_pass rfl rfl (by decide) (by dsimp only [aput, List.set]) ?_
        refine w_met rfl rfl ?_
        refine w_op (a := .raw (.bool false)) rfl rfl rfl rfl (by dsimp only [aput, List.set]) ?_
        refine w_op (a := .raw (.bool false)) rfl rfl rfl rfl (by dsimp only [aput, List.set]) ?_
        refine w_op (a := .raw (.bool false)) rfl rfl rfl rfl (by dsimp only [aput, List.set]) ?_
        refine w_false rfl ?_
        refine w_seq (w_region ?_)
        refine w_op (a := .ptr 0 0) rfl rfl rfl rfl (by dsimp only [aput, List.set]) ?_
        refine w_op rfl rfl rfl rfl (by dsimp only [aput, List.set]) ?_
        refine w_opb rfl rfl rfl rfl (by dsimp only [aput, List.set]) (by dsimp only [aput, List.set]) (fun h23 => ?_) (fun h23 => ?_)
        ·
          refine w_op (a := .raw (.bool true)) rfl rfl rfl rfl (by dsimp only [aput, List.set]) ?_
          refine w_met rfl rfl ?_
          refine w_op rfl rfl rfl rfl (by dsimp only [aput, List.set, aval, List.getElem?_cons_zero, List.getElem?_cons_succ, Option.getD]) ?_
          refine w_met rfl rfl ?_
          refine w_opb rfl rfl rfl rfl (by dsimp only [aput, List.set]) (by dsimp only [aput, List.set]) (fun h24 => ?_) (fun h24 => ?_)
          ·
            refine w_op (a := .raw (.bool true)) rfl rfl rfl rfl (by dsimp only [aput, List.set]) ?_
            refine w_op (a := .raw (.bool true)) rfl rfl rfl rfl (by dsimp only [aput, List.set]) ?_
            refine w_true rfl ?_
            refine w_seq (w_region ?_)
            refine w_op (a := zero29) rfl rfl rfl rfl (by dsimp only [aput, List.set]) ?_
            refine w_opm rfl rfl rfl (op_storeW (n := 8) rfl rfl rfl rfl rfl rfl rfl rfl (by decide)) (by dsimp only [aput, List.set]) (by dsimp only [cellsOf_enc, List.append_nil, List.nil_append, List.cons_append, List.set, List.take, List.drop, List.length, List.length_cons, List.length_nil, cellsOf, aval, List.getElem?_cons_zero, List.getElem?_cons_succ, Option.getD]) ?_
            refine end_pure (a := zero29) rfl rfl ?_
            rw [← hres, show timesT (Tr.mk k s mn mx ts) lo hi = noneT from by simp only [timesT, Tr.k, hz, ho, h22, h23, h24, Bool.true_and, Bool.and_true, Bool.false_and, Bool.and_false, Bool.true_or, Bool.or_true, Bool.false_or, Bool.or_false, Bool.not_true, Bool.not_false, cond_true, cond_false, Bool.false_eq_true, Bool.true_eq_false]]; exact strip_zero29
          ·
            refine w_op (a := .raw (.bool false)) rfl rfl rfl rfl (by dsimp only [aput, List.set]) ?_
            refine w_op (a := .raw (.bool false)) rfl rfl rfl rfl (by dsimp only [aput, List.set]) ?_
            refine w_false rfl ?_
            refine w_seq (w_region ?_)
            refine w_op (a := .raw (.bool true)) rfl rfl rfl rfl (by dsimp only [aput, List.set]) ?_
            refine w_op (a := .raw (.bool true)) rfl rfl rfl rfl (by dsimp only [aput, List.set]) ?_
            refine w_pass rfl rfl (by decide) (by dsimp only [aput, List.set]) ?_
            refine w_pass rfl rfl (by decide) (by dsimp only [aput, List.set]) ?_
            refine w_pass rfl rfl (by decide) (by dsimp only [aput, List.set]) ?_
            refine w_op (a := .raw (.bool true)) rfl rfl rfl rfl (by dsimp only [aput, List.set]) ?_
            refine w_op (a := .raw (.bool true)) rfl rfl rfl rfl (by dsimp only [aput, List.set]) ?_
            refine w_pass rfl rfl (by decide) (by dsimp only [aput, List.set]) ?_
            refine w_pass rfl rfl (by decide) (by dsimp only [aput, List.set]) ?_
            refine w_pass rfl rfl (by decide) (by dsimp only [aput, List.set]) ?_
            refine w_op (a := .raw (.bool true)) rfl rfl rfl rfl (by dsimp only [aput, List.set]) ?_
            refine w_op (a := .raw (.bool true)) rfl rfl rfl rfl (by dsimp only [aput, List.set]) ?_
            refine w_true rfl ?_
            refine w_seq (w_region ?_)
            refine w_op (a := nodeF 1 0 0 [] .full) rfl rfl rfl rfl (by dsimp only [aput, List.set]) ?_
            refine w_opm rfl rfl rfl (op_storeW (n := 8) rfl rfl rfl rfl rfl rfl rfl rfl (by decide)) (by dsimp only [aput, List.set]) (by dsimp only [cellsOf_enc, List.append_nil, List.nil_append, List.cons_append, List.set, List.take, List.drop, List.length, List.length_cons, List.length_nil, cellsOf, aval, List.getElem?_cons_zero, List.getElem?_cons_succ, Option.getD]) ?_
            refine end_pure (a := nodeF 1 0 0 [] .full) rfl (okTrim_nodeF _ _ _ _ _ _) ?_
            rw [← hres, show timesT (Tr.mk k s mn mx ts) lo hi = emptyT from by simp only [timesT, Tr.k, hz, ho, h22, h23, h24, Bool.true_and, Bool.and_true, Bool.false_and, Bool.and_false, Bool.true_or, Bool.or_true, Bool.false_or, Bool.or_false, Bool.not_true, Bool.not_false, cond_true, cond_false, Bool.false_eq_true, Bool.true_eq_false]]; exact strip_empty
        ·
          refine w_op (a := .raw (.bool false)) rfl rfl rfl rfl (by dsimp only [aput, List.set]) ?_
          refine w_pass rfl rfl (by decide) (by dsimp only [aput, List.set]) ?_
          refine w_pass rfl rfl (by decide) (by dsimp only [aput, List.set]) ?_
          refine w_op (a := .raw (.bool false)) rfl rfl rfl rfl (by dsimp only [aput, List.set]) ?_
          refine w_op (a := .raw (.bool false)) rfl rfl rfl rfl (by dsimp only [aput, List.set]) ?_
          refine w_false rfl ?_
          refine w_seq (w_region ?_)
          refine w_op (a := .raw (.bool true)) rfl rfl rfl rfl (by dsimp only [aput, List.set]) ?_
          refine w_op (a := .raw (.bool true)) rfl rfl rfl rfl (by dsimp only [aput, List.set]) ?_
          refine w_pass rfl rfl (by decide) (by dsimp only [aput, List.set]) ?_
          refine w_pass rfl rfl (by decide) (by dsimp only [aput, List.set]) ?_
          refine w_pass rfl rfl (by decide) (by dsimp only [aput, List.set]) ?_
          refine w_op (a := .raw (.bool true)) rfl rfl rfl rfl (by dsimp only [aput, List.set]) ?_
          refine w_op (a := .raw (.bool true)) rfl rfl rfl rfl (by dsimp only [aput, List.set]) ?_
          refine w_pass rfl rfl (by decide) (by dsimp only [aput, List.set]) ?_
          refine w_pass rfl rfl (by decide) (by dsimp only [aput, List.set]) ?_
          refine w_pass rfl rfl (by decide) (by dsimp only [aput, List.set]) ?_
          refine w_op (a := .raw (.bool true)) rfl rfl rfl rfl (by dsimp only [aput, List.set]) ?_
          refine w_op (a := .raw (.bool true)) rfl rfl rfl rfl (by dsimp only [aput, List.set]) ?_
          refine w_true rfl ?_
          refine w_seq (w_region ?_)
          refine w_op (a := nodeF 1 0 0 [] .full) rfl rfl rfl rfl (by dsimp only [aput, List.set]) ?_
          refine w_opm rfl rfl rfl (op_storeW (n := 8) rfl rfl rfl rfl rfl rfl rfl rfl (by decide)) (by dsimp only [aput, List.set]) (by dsimp only [cellsOf_enc, List.append_nil, List.nil_append, List.cons_append, List.set, List.take, List.drop, List.length, List.length_cons, List.length_nil, cellsOf, aval, List.getElem?_cons_zero, List.getElem?_cons_succ, Option.getD]) ?_
          refine end_pure (a := nodeF 1 0 0 [] .full) rfl (okTrim_nodeF _ _ _ _ _ _) ?_
          rw [← hres, show timesT (Tr.mk k s mn mx ts) lo hi = emptyT from by simp only [timesT, Tr.k, hz, ho, h22, h23, Bool.true_and, Bool.and_true, Bool.false_and, Bool.and_false, Bool.true_or, Bool.or_true, Bool.false_or, Bool.or_false, Bool.not_true, Bool.not_false, cond_true, cond_false, Bool.false_eq_true, Bool.true_eq_false]]; exact strip_empty
      ·
        refine w_op (a := .raw (.bool true)) rfl rfl rfl rfl (by dsimp only [aput, List.set]) ?_
        refine w_op (a := .raw (.bool true)) rfl rfl rfl rfl (by dsimp only [aput, List.set]) ?_
        refine w_pass rfl rfl (by decide) (by dsimp only [aput, List.set]) ?_
        refine w_pass rfl rfl (by decide) (by dsimp only [aput, List.set]) ?_
        refine w_pass rfl rfl (by decide) (by dsimp only [aput, List.set]) ?_
        refine w_pass rfl rfl (by decide) (by dsimp only [aput, List.set]) ?_
        refine w_pass rfl rfl (by decide) (by dsimp only [aput, List.set]) ?_
        refine w_pass rfl rfl (by decide) (by dsimp only [aput, List.set]) ?_
        refine w_pass rfl rfl (by decide) (by dsimp only [aput, List.set]) ?_
        refine w_pass rfl rfl (by decide) (by dsimp only [aput, List.set]) ?_
        refine w_pass rfl rfl (by decide) (by dsimp only [aput, List.set]) ?_
        refine w_pass rfl rfl (by decide) (by dsimp only [aput, List.set]) ?_
        refine w_pass rfl rfl (by decide) (by dsimp only [aput, List.set]) ?_
        refine w_pass rfl rfl (by decide) (by dsimp only [aput, List.set]) ?_
        refine w_op (a := .raw (.bool true)) rfl rfl rfl rfl (by dsimp only [aput, List.set]) ?_
        refine w_op (a := .raw (.bool true)) rfl rfl rfl rfl (by dsimp only [aput, List.set]) ?_
        refine w_true rfl ?_
        refine w_seq (w_region ?_)
        refine w_op (a := zero29) rfl rfl rfl rfl (by dsimp only [aput, List.set]) ?_
        refine w_opm rfl rfl rfl (op_storeW (n := 8) rfl rfl rfl rfl rfl rfl rfl rfl (by decide)) (by dsimp only [aput, List.set]) (by dsimp only [cellsOf_enc, List.append_nil, List.nil_append, List.cons_append, List.set, List.take, List.drop, List.length, List.length_cons, List.length_nil, cellsOf, aval, List.getElem?_cons_zero, List.getElem?_cons_succ, Option.getD]) ?_
        refine end_pure (a := zero29) rfl rfl ?_
        rw [← hres, show timesT (Tr.mk k s mn mx ts) lo hi = noneT from by simp only [timesT, Tr.k, hz, ho, h22, Bool.true_and, Bool.and_true, Bool.false_and, Bool.and_false, Bool.true_or, Bool.or_true, Bool.false_or, Bool.or_false, Bool.not_true, Bool.not_false, cond_true, cond_false, Bool.false_eq_true, Bool.true_eq_false]]; exact strip_zero29
    ·
      refine w_seq ?_
      refine w_block ?_
      refine w_seq (w_region ?_)
      refine w_op (a := enc (Tr.mk k s mn mx ts)) rfl rfl rfl rfl (by dsimp only [aput, List.set]) ?_
      refine w_callkb (good_at (Tr.mk k s mn mx ts) (by omega)) (by simp [cloL, clo, clo_enc]) rfl rfl (by dsimp only [aput, List.set]) (by dsimp only [aput, List.set]) (fun h25 => ?_) (fun h25 => ?_)
      ·
        refine w_op (a := .raw (.bool false)) rfl rfl rfl rfl (by dsimp only [aput, List.set]) ?_
        refine w_op (a := .raw (.bool false)) rfl rfl rfl rfl (by dsimp only [aput, List.set]) ?_
        refine w_met rfl rfl ?_
        refine w_op (a := .raw (.bool true)) rfl rfl rfl rfl (by dsimp only [aput, List.set]) ?_
        refine w_met rfl rfl ?_
        refine w_op (a := .raw (.bool false)) rfl rfl rfl rfl (by dsimp only [aput, List.set]) ?_
        refine w_met rfl rfl ?_
        refine w_op (a := .raw (.bool false)) rfl rfl rfl rfl (by dsimp only [aput, List.set]) ?_
        refine w_pass rfl rfl (by decide) (by dsimp only [aput, List.set]) ?_
        refine w_pass rfl rfl (by decide) (by dsimp only [aput, List.set]) ?_
        refine w_met rfl rfl ?_
        refine w_op (a := .raw (.bool false)) rfl rfl rfl rfl (by dsimp only [aput, List.set]) ?_
        refine w_met rfl rfl ?_
        refine w_op (a := .raw (.bool false)) rfl rfl rfl rfl (by dsimp only [aput, List.set]) ?_
        refine w_pass rfl rfl (by decide) (by dsimp only [aput, List.set]) ?_
        refine w_pass rfl rfl (by decide) (by dsimp only [aput, List.set]) ?_
        refine w_pass rfl rfl (by decide) (by dsimp only [aput, List.set]) ?_
        refine w_pass rfl rfl (by decide) (by dsimp only [aput, List.set]) ?_
        refine w_met rfl rfl ?_
        refine w_op (a := .raw (.bool false)) rfl rfl rfl rfl (by dsimp only [aput, List.set]) ?_
        refine w_op (a := .raw (.bool false)) rfl rfl rfl rfl (by dsimp only [aput, List.set]) ?_
        refine w_op (a := .raw (.bool false)) rfl rfl rfl rfl (by dsimp only [aput, List.set]) ?_
        refine w_false rfl ?_
        refine w_seq (w_region ?_)
        refine w_op (a := .ptr 0 0) rfl rfl rfl rfl (by dsimp only [aput, List.set]) ?_
        refine w_op rfl rfl rfl rfl (by dsimp only [aput, List.set]) ?_
        refine w_opb rfl rfl rfl rfl (by dsimp only [aput, List.set]) (by dsimp only [aput, List.set]) (fun h26 => ?_) (fun h26 => ?_)
        ·
          refine w_op (a := .raw (.bool true)) rfl rfl rfl rfl (by dsimp only [aput, List.set]) ?_
          refine w_met rfl rfl ?_
          refine w_op rfl rfl rfl rfl (by dsimp only [aput, List.set, aval, List.getElem?_cons_zero, List.getElem?_cons_succ, Option.getD]) ?_
          refine w_met rfl rfl ?_
          refine w_opb rfl rfl rfl rfl (by dsimp only [aput, List.set]) (by dsimp only [aput, List.set]) (fun h27 => ?_) (fun h27 => ?_)
          ·
            refine w_op (a := .raw (.bool true)) rfl rfl rfl rfl (by dsimp only [aput, List.set]) ?_
            refine w_op (a := .raw (.bool true)) rfl rfl rfl rfl (by dsimp only [aput, List.set]) ?_
            refine w_true rfl ?_
            refine w_seq (w_region ?_)
            refine w_op (a := zero29) rfl rfl rfl rfl (by dsimp only [aput, List.set]) ?_
            refine w_opm rfl rfl rfl (op_storeW (n := 8) rfl rfl rfl rfl rfl rfl rfl rfl (by decide)) (by dsimp only [aput, List.set]) (by dsimp only [cellsOf_enc, List.append_nil, List.nil_append, List.cons_append, List.set, List.take, List.drop, List.length, List.length_cons, List.length_nil, cellsOf, aval, List.getElem?_cons_zero, List.getElem?_cons_succ, Option.getD]) ?_
            refine end_pure (a := zero29) rfl rfl ?_
            rw [← hres, show timesT (Tr.mk k s mn mx ts) lo hi = noneT from by simp only [timesT, Tr.k, hz, ho, h25, h26, h27, Bool.true_and, Bool.and_true, Bool.false_and, Bool.and_false, Bool.true_or, Bool.or_true, Bool.false_or, Bool.or_false, Bool.not_true, Bool.not_false, cond_true, cond_false, Bool.false_eq_true, Bool.true_eq_false]]; exact strip_zero29
          ·
            refine w_op (a := .raw (.bool false)) rfl rfl rfl rfl (by dsimp only [aput, List.set]) ?_
            refine w_op (a := .raw (.bool false)) rfl rfl rfl rfl (by dsimp only [aput, List.set]) ?_
            refine w_false rfl ?_
            refine w_seq (w_region ?_)
            refine w_op (a := .raw (.bool true)) rfl rfl rfl rfl (by dsimp only [aput, List.set]) ?_
            refine w_op (a := .raw (.bool true)) rfl rfl rfl rfl (by dsimp only [aput, List.set]) ?_
            refine w_pass rfl rfl (by decide) (by dsimp only [aput, List.set]) ?_
            refine w_pass rfl rfl (by decide) (by dsimp only [aput, List.set]) ?_
            refine w_pass rfl rfl (by decide) (by dsimp only [aput, List.set]) ?_
            refine w_op (a := .raw (.bool true)) rfl rfl rfl rfl (by dsimp only [aput, List.set]) ?_
            refine w_op (a := .raw (.bool true)) rfl rfl rfl rfl (by dsimp only [aput, List.set]) ?_
            refine w_pass rfl rfl (by decide) (by dsimp only [aput, List.set]) ?_
            refine w_pass rfl rfl (by decide) (by dsimp only [aput, List.set]) ?_
            refine w_pass rfl rfl (by decide) (by dsimp only [aput, List.set]) ?_
            refine w_op (a := .raw (.bool true)) rfl rfl rfl rfl (by dsimp only [aput, List.set]) ?_
            refine w_op (a := .raw (.bool true)) rfl rfl rfl rfl (by dsimp only [aput, List.set]) ?_
            refine w_true rfl ?_
            refine w_seq (w_region ?_)
            refine w_op (a := nodeF 1 0 0 [] .full) rfl rfl rfl rfl (by dsimp only [aput, List.set]) ?_
            refine w_opm rfl rfl rfl (op_storeW (n := 8) rfl rfl rfl rfl rfl rfl rfl rfl (by decide)) (by dsimp only [aput, List.set]) (by dsimp only [cellsOf_enc, List.append_nil, List.nil_append, List.cons_append, List.set, List.take, List.drop, List.length, List.length_cons, List.length_nil, cellsOf, aval, List.getElem?_cons_zero, List.getElem?_cons_succ, Option.getD]) ?_
            refine end_pure (a := nodeF 1 0 0 [] .full) rfl (okTrim_nodeF _ _ _ _ _ _) ?_
            rw [← hres, show timesT (Tr.mk k s mn mx ts) lo hi = emptyT from by simp only [timesT, Tr.k, hz, ho, h25, h26, h27, Bool.true_and, Bool.and_true, Bool.false_and, Bool.and_false, Bool.true_or, Bool.or_true, Bool.false_or, Bool.or_false, Bool.not_true, Bool.not_false, cond_true, cond_false, Bool.false_eq_true, Bool.true_eq_false]]; exact strip_empty
        ·
          refine w_op (a := .raw (.bool false)) rfl rfl rfl rfl (by dsimp only [aput, List.set]) ?_
          refine w_pass rfl rfl (by decide) (by dsimp only [aput, List.set]) ?_
          refine w_pass rfl rfl (by decide) (by dsimp only [aput, List.set]) ?_
          refine w_op (a := .raw (.bool false)) rfl rfl rfl rfl (by dsimp only [aput, List.set]) ?_
          refine w_op (a := .raw (.bool false)) rfl rfl rfl rfl (by dsimp only [aput, List.set]) ?_
          refine w_false rfl ?_
          refine w_seq (w_region ?_)
          refine w_op (a := .raw (.bool true)) rfl rfl rfl rfl (by dsimp only [aput, List.set]) ?_
          refine w_op (a := .raw (.bool true)) rfl rfl rfl rfl (by dsimp only [aput, List.set]) ?_
          refine w_pass rfl rfl (by decide) (by dsimp only [aput, List.set]) ?_
          refine w_pass rfl rfl (by decide) (by dsimp only [aput, List.set]) ?_
          refine w_pass rfl rfl (by decide) (by dsimp only [aput, List.set]) ?_
          refine w_op (a := .raw (.bool true)) rfl rfl rfl rfl (by dsimp only [aput, List.set]) ?_
          refine w_op (a := .raw (.bool true)) rfl rfl rfl rfl (by dsimp only [aput, List.set]) ?_
          refine w_pass rfl rfl (by decide) (by dsimp only [aput, List.set]) ?_
          refine w_pass rfl rfl (by decide) (by dsimp only [aput, List.set]) ?_
          refine w_pass rfl rfl (by decide) (by dsimp only [aput, List.set]) ?_
          refine w_op (a := .raw (.bool true)) rfl rfl rfl rfl (by dsimp only [aput, List.set]) ?_
          refine w_op (a := .raw (.bool true)) rfl rfl rfl rfl (by dsimp only [aput, List.set]) ?_
          refine w_true rfl ?_
          refine w_seq (w_region ?_)
          refine w_op (a := nodeF 1 0 0 [] .full) rfl rfl rfl rfl (by dsimp only [aput, List.set]) ?_
          refine w_opm rfl rfl rfl (op_storeW (n := 8) rfl rfl rfl rfl rfl rfl rfl rfl (by decide)) (by dsimp only [aput, List.set]) (by dsimp only [cellsOf_enc, List.append_nil, List.nil_append, List.cons_append, List.set, List.take, List.drop, List.length, List.length_cons, List.length_nil, cellsOf, aval, List.getElem?_cons_zero, List.getElem?_cons_succ, Option.getD]) ?_
          refine end_pure (a := nodeF 1 0 0 [] .full) rfl (okTrim_nodeF _ _ _ _ _ _) ?_
          rw [← hres, show timesT (Tr.mk k s mn mx ts) lo hi = emptyT from by simp only [timesT, Tr.k, hz, ho, h25, h26, Bool.true_and, Bool.and_true, Bool.false_and, Bool.and_false, Bool.true_or, Bool.or_true, Bool.false_or, Bool.or_false, Bool.not_true, Bool.not_false, cond_true, cond_false, Bool.false_eq_true, Bool.true_eq_false]]; exact strip_empty
      ·
        refine w_op (a := .raw (.bool true)) rfl rfl rfl rfl (by dsimp only [aput, List.set]) ?_
        refine w_op (a := .raw (.bool true)) rfl rfl rfl rfl (by dsimp only [aput, List.set]) ?_
        refine w_pass rfl rfl (by decide) (by dsimp only [aput, List.set]) ?_
        refine w_pass rfl rfl (by decide) (by dsimp only [aput, List.set]) ?_
        refine w_pass rfl rfl (by decide) (by dsimp only [aput, List.set]) ?_
        refine w_pass rfl rfl (by decide) (by dsimp only [aput, List.set]) ?_
        refine w_pass rfl rfl (by decide) (by dsimp only [aput, List.set]) ?_
        refine w_pass rfl rfl (by decide) (by dsimp only [aput, List.set]) ?_
        refine w_pass rfl rfl (by decide) (by dsimp only [aput, List.set]) ?_
        refine w_pass rfl rfl (by decide) (by dsimp only [aput, List.set]) ?_
        refine w_pass rfl rfl (by decide) (by dsimp only [aput, List.set]) ?_
        refine w_pass rfl rfl (by decide) (by dsimp only [aput, List.set]) ?_
        refine w_pass rfl rfl (by decide) (by dsimp only [aput, List.set]) ?_
        refine w_pass rfl rfl (by decide) (by dsimp only [aput, List.set]) ?_
        refine w_op (a := .raw (.bool true)) rfl rfl rfl rfl (by dsimp only [aput, List.set]) ?_
        refine w_op (a := .raw (.bool true)) rfl rfl rfl rfl (by dsimp only [aput, List.set]) ?_
        refine w_true rfl ?_
        refine w_seq (w_region ?_)
        refine w_op (a := zero29) rfl rfl rfl rfl (by dsimp only [aput, List.set]) ?_
        refine w_opm rfl rfl rfl (op_storeW (n := 8) rfl rfl rfl rfl rfl rfl rfl rfl (by decide)) (by dsimp only [aput, List.set]) (by dsimp only [cellsOf_enc, List.append_nil, List.nil_append, List.cons_append, List.set, List.take, List.drop, List.length, List.length_cons, List.length_nil, cellsOf, aval, List.getElem?_cons_zero, List.getElem?_cons_succ, Option.getD]) ?_
        refine end_pure (a := zero29) rfl rfl ?_
        rw [← hres, show timesT (Tr.mk k s mn mx ts) lo hi = noneT from by simp only [timesT, Tr.k, hz, ho, h25, Bool.true_and, Bool.and_true, Bool.false_and, Bool.and_false, Bool.true_or, Bool.or_true, Bool.false_or, Bool.or_false, Bool.not_true, Bool.not_false, cond_true, cond_false, Bool.false_eq_true, Bool.true_eq_false]]; exact strip_zero29
theorem ent25 : Ent Try.prog 25 := enters_of Try.func25 (by kernel_rfl) rfl
set_option maxRecDepth 100000 in
set_option maxHeartbeats 4000000 in
theorem capture_mk (k : Nat) (s : BS) (mn mx : Int) (ts : List Tr) (h : (pre (Tr.mk k s mn mx ts)).length < 2 ^ 61) : Pure (ITP Try.prog) Try.prog 25 [enc (Tr.mk k s mn mx ts)] (enc (captureT (Tr.mk k s mn mx ts))) := by
  obtain ⟨d, hd⟩ : ∃ d, Try.f25.body = some d := ⟨_, rfl⟩
  refine pure_of mix Try.func25 hd ent25 ?_
  cases hd
  obtain ⟨res, hres⟩ : ∃ res, enc (captureT (Tr.mk k s mn mx ts)) = res := ⟨_, rfl⟩
  show awp _ _ _ _ (aendP _ _ (enc (captureT (Tr.mk k s mn mx ts)))) _ _
  rw [show aendP Try.prog Try.f25 (enc (captureT (Tr.mk k s mn mx ts))) = aendP Try.prog Try.f25 res from by rw [hres]]
  refine w_start (by dsimp only [abeginS, Try.f25, List.length_cons, List.length_nil, Nat.zero_add, Nat.reduceAdd, Nat.reduceSub, List.replicate, List.cons_append, List.nil_append]) (by dsimp only [St.empty]) ?_
  refine w_seq (w_region ?_)
  refine w_opm (a := .ptr 0 0) rfl rfl rfl rfl (by dsimp only [aput, List.set]) (by dsimp only [cellsOf_enc, List.append_nil, List.nil_append, List.cons_append, List.set, List.take, List.drop, List.length, List.length_cons, List.length_nil, cellsOf, aval, List.getElem?_cons_zero, List.getElem?_cons_succ, Option.getD]) ?_
  refine w_opm (a := .ptr 1 0) rfl rfl rfl rfl (by dsimp only [aput, List.set]) (by dsimp only [cellsOf_enc, List.append_nil, List.nil_append, List.cons_append, List.set, List.take, List.drop, List.length, List.length_cons, List.length_nil, cellsOf, aval, List.getElem?_cons_zero, List.getElem?_cons_succ, Option.getD]) ?_
  refine w_seq (w_region ?_)
  refine w_op (a := enc (Tr.mk k s mn mx ts)) rfl rfl rfl rfl (by dsimp only [aput, List.set]) ?_
  refine w_op (a := .list 1 (cellsL [(Tr.mk k s mn mx ts)]) .full) rfl rfl rfl rfl (by dsimp only [aput, List.set]) ?_
  refine w_op (a := nodeF 6 0 0 [(Tr.mk k s mn mx ts)] .full) rfl rfl rfl rfl (by dsimp only [aput, List.set]) ?_
  refine w_callc (args := [nodeF 6 0 0 [(Tr.mk k s mn mx ts)] .full]) (checked_at (Tr.mk 6 0#256 0 0 [(Tr.mk k s mn mx ts)]) (by rw [pre_one]; omega)) rfl rfl (by simp [stripL, strip_nodeF]) (by simp [okTrimL, okTrim_nodeF]) (by dsimp only [aput, List.set]) ?_
  obtain ⟨xr, hxr⟩ : ∃ xr, checkedT (Tr.mk 6 0#256 0 0 [(Tr.mk k s mn mx ts)]) = xr := ⟨_, rfl⟩
  rw [hxr]
  obtain ⟨kr, sr, mnr, mxr, tsr⟩ := xr
  refine w_opm rfl rfl rfl (op_storeW (n := 8) rfl rfl rfl rfl rfl rfl rfl rfl (by decide)) (by dsimp only [aput, List.set]) (by dsimp only [cellsOf_enc, List.append_nil, List.nil_append, List.cons_append, List.set, List.take, List.drop, List.length, List.length_cons, List.length_nil, cellsOf, aval, List.getElem?_cons_zero, List.getElem?_cons_succ, Option.getD]) ?_
  refine end_pure (a := enc (Tr.mk kr sr mnr mxr tsr)) rfl (okTrim_enc _ _) ?_
  rw [← hres, captureT, ← hxr]; exact strip_enc _
theorem ent21 : Ent Try.prog 21 := enters_of Try.func21 (by kernel_rfl) rfl
set_option maxRecDepth 100000 in
set_option maxHeartbeats 4000000 in
theorem cat_pure (l : List Tr) : Pure (ITP Try.prog) Try.prog 21 [.list l.length (cellsL l) .none] (enc (.mk 3 0#256 0 0 l)) := by
  obtain ⟨d, hd⟩ : ∃ d, Try.f21.body = some d := ⟨_, rfl⟩
  refine pure_of mix Try.func21 hd ent21 ?_
  cases hd
  obtain ⟨res, hres⟩ : ∃ res, enc (.mk 3 0#256 0 0 l) = res := ⟨_, rfl⟩
  show awp _ _ _ _ (aendP _ _ (enc (.mk 3 0#256 0 0 l))) _ _
  rw [show aendP Try.prog Try.f21 (enc (.mk 3 0#256 0 0 l)) = aendP Try.prog Try.f21 res from by rw [hres]]
  refine w_start (by dsimp only [abeginS, Try.f21, List.length_cons, List.length_nil, Nat.zero_add, Nat.reduceAdd, Nat.reduceSub, List.replicate, List.cons_append, List.nil_append]) (by dsimp only [St.empty]) ?_
  refine w_seq (w_region ?_)
  refine w_opm (a := .ptr 0 0) rfl rfl rfl rfl (by dsimp only [aput, List.set]) (by dsimp only [cellsOf_enc, List.append_nil, List.nil_append, List.cons_append, List.set, List.take, List.drop, List.length, List.length_cons, List.length_nil, cellsOf, aval, List.getElem?_cons_zero, List.getElem?_cons_succ, Option.getD]) ?_
  refine w_seq (w_region ?_)
  refine w_op (a := .list l.length (cellsL l) .none) rfl rfl rfl rfl (by dsimp only [aput, List.set]) ?_
  refine w_op (a := nodeF 3 0 0 l .none) rfl rfl rfl rfl (by dsimp only [aput, List.set]) ?_
  refine w_opm rfl rfl rfl (op_storeW (n := 8) rfl rfl rfl rfl rfl rfl rfl rfl (by decide)) (by dsimp only [aput, List.set]) (by dsimp only [cellsOf_enc, List.append_nil, List.nil_append, List.cons_append, List.set, List.take, List.drop, List.length, List.length_cons, List.length_nil, cellsOf, aval, List.getElem?_cons_zero, List.getElem?_cons_succ, Option.getD]) ?_
  refine end_pure (a := nodeF 3 0 0 l .none) rfl (okTrim_nodeF _ _ _ _ _ _) ?_
  rw [← hres]; exact strip_nodeF _ _ _ _ _
theorem ent22 : Ent Try.prog 22 := enters_of Try.func22 (by kernel_rfl) rfl
set_option maxRecDepth 100000 in
set_option maxHeartbeats 4000000 in
theorem alt_pure (l : List Tr) : Pure (ITP Try.prog) Try.prog 22 [.list l.length (cellsL l) .none] (enc (.mk 4 0#256 0 0 l)) := by
  obtain ⟨d, hd⟩ : ∃ d, Try.f22.body = some d := ⟨_, rfl⟩
  refine pure_of mix Try.func22 hd ent22 ?_
  cases hd
  obtain ⟨res, hres⟩ : ∃ res, enc (.mk 4 0#256 0 0 l) = res := ⟨_, rfl⟩
  show awp _ _ _ _ (aendP _ _ (enc (.mk 4 0#256 0 0 l))) _ _
  rw [show aendP Try.prog Try.f22 (enc (.mk 4 0#256 0 0 l)) = aendP Try.prog Try.f22 res from by rw [hres]]
  refine w_start (by dsimp only [abeginS, Try.f22, List.length_cons, List.length_nil, Nat.zero_add, Nat.reduceAdd, Nat.reduceSub, List.replicate, List.cons_append, List.nil_append]) (by dsimp only [St.empty]) ?_
  refine w_seq (w_region ?_)
  refine w_opm (a := .ptr 0 0) rfl rfl rfl rfl (by dsimp only [aput, List.set]) (by dsimp only [cellsOf_enc, List.append_nil, List.nil_append, List.cons_append, List.set, List.take, List.drop, List.length, List.length_cons, List.length_nil, cellsOf, aval, List.getElem?_cons_zero, List.getElem?_cons_succ, Option.getD]) ?_
  refine w_seq (w_region ?_)
  refine w_op (a := .list l.length (cellsL l) .none) rfl rfl rfl rfl (by dsimp only [aput, List.set]) ?_
  refine w_op (a := nodeF 4 0 0 l .none) rfl rfl rfl rfl (by dsimp only [aput, List.set]) ?_
  refine w_opm rfl rfl rfl (op_storeW (n := 8) rfl rfl rfl rfl rfl rfl rfl rfl (by decide)) (by dsimp only [aput, List.set]) (by dsimp only [cellsOf_enc, List.append_nil, List.nil_append, List.cons_append, List.set, List.take, List.drop, List.length, List.length_cons, List.length_nil, cellsOf, aval, List.getElem?_cons_zero, List.getElem?_cons_succ, Option.getD]) ?_
  refine end_pure (a := nodeF 4 0 0 l .none) rfl (okTrim_nodeF _ _ _ _ _ _) ?_
  rw [← hres]; exact strip_nodeF _ _ _ _ _
theorem ent23 : Ent Try.prog 23 := enters_of Try.func23 (by kernel_rfl) rfl
set_option maxRecDepth 100000 in
set_option maxHeartbeats 4000000 in
theorem rep_mk (k : Nat) (s : BS) (mn mx : Int) (ts : List Tr) (lo hi : Int) : Pure (ITP Try.prog) Try.prog 23 [enc (Tr.mk k s mn mx ts), .raw (.int .i64 lo), .raw (.int .i64 hi)] (enc (.mk 5 0#256 lo hi [(Tr.mk k s mn mx ts)])) := by
  obtain ⟨d, hd⟩ : ∃ d, Try.f23.body = some d := ⟨_, rfl⟩
  refine pure_of mix Try.func23 hd ent23 ?_
  cases hd
  obtain ⟨res, hres⟩ : ∃ res, enc (.mk 5 0#256 lo hi [(Tr.mk k s mn mx ts)]) = res := ⟨_, rfl⟩
  show awp _ _ _ _ (aendP _ _ (enc (.mk 5 0#256 lo hi [(Tr.mk k s mn mx ts)]))) _ _
  rw [show aendP Try.prog Try.f23 (enc (.mk 5 0#256 lo hi [(Tr.mk k s mn mx ts)])) = aendP Try.prog Try.f23 res from by rw [hres]]
  refine w_start (by dsimp only [abeginS, Try.f23, List.length_cons, List.length_nil, Nat.zero_add, Nat.reduceAdd, Nat.reduceSub, List.replicate, List.cons_append, List.nil_append]) (by dsimp only [St.empty]) ?_
  refine w_seq (w_region ?_)
  refine w_opm (a := .ptr 0 0) rfl rfl rfl rfl (by dsimp only [aput, List.set]) (by dsimp only [cellsOf_enc, List.append_nil, List.nil_append, List.cons_append, List.set, List.take, List.drop, List.length, List.length_cons, List.length_nil, cellsOf, aval, List.getElem?_cons_zero, List.getElem?_cons_succ, Option.getD]) ?_
  refine w_opm (a := .ptr 1 0) rfl rfl rfl rfl (by dsimp only [aput, List.set]) (by dsimp only [cellsOf_enc, List.append_nil, List.nil_append, List.cons_append, List.set, List.take, List.drop, List.length, List.length_cons, List.length_nil, cellsOf, aval, List.getElem?_cons_zero, List.getElem?_cons_succ, Option.getD]) ?_
  refine w_seq (w_region ?_)
  refine w_op rfl rfl rfl rfl (by dsimp only [aput, List.set, aval, List.getElem?_cons_zero, List.getElem?_cons_succ, Option.getD]) ?_
  refine w_op rfl rfl rfl rfl (by dsimp only [aput, List.set, aval, List.getElem?_cons_zero, List.getElem?_cons_succ, Option.getD]) ?_
  refine w_op (a := enc (Tr.mk k s mn mx ts)) rfl rfl rfl rfl (by dsimp only [aput, List.set]) ?_
  refine w_op (a := .list 1 (cellsL [(Tr.mk k s mn mx ts)]) .full) rfl rfl rfl rfl (by dsimp only [aput, List.set]) ?_
  refine w_op (a := nodeF 5 lo hi [(Tr.mk k s mn mx ts)] .full) rfl rfl rfl rfl (by dsimp only [aput, List.set]) ?_
  refine w_opm rfl rfl rfl (op_storeW (n := 8) rfl rfl rfl rfl rfl rfl rfl rfl (by decide)) (by dsimp only [aput, List.set]) (by dsimp only [cellsOf_enc, List.append_nil, List.nil_append, List.cons_append, List.set, List.take, List.drop, List.length, List.length_cons, List.length_nil, cellsOf, aval, List.getElem?_cons_zero, List.getElem?_cons_succ, Option.getD]) ?_
  refine end_pure (a := nodeF 5 lo hi [(Tr.mk k s mn mx ts)] .full) rfl (okTrim_nodeF _ _ _ _ _ _) ?_
  rw [← hres]; exact strip_nodeF _ _ _ _ _
theorem ent24 : Ent Try.prog 24 := enters_of Try.func24 (by kernel_rfl) rfl
set_option maxRecDepth 100000 in
set_option maxHeartbeats 4000000 in
theorem group_mk (k : Nat) (s : BS) (mn mx : Int) (ts : List Tr) : Pure (ITP Try.prog) Try.prog 24 [enc (Tr.mk k s mn mx ts)] (enc (.mk 6 0#256 0 0 [(Tr.mk k s mn mx ts)])) := by
  obtain ⟨d, hd⟩ : ∃ d, Try.f24.body = some d := ⟨_, rfl⟩
  refine pure_of mix Try.func24 hd ent24 ?_
  cases hd
  obtain ⟨res, hres⟩ : ∃ res, enc (.mk 6 0#256 0 0 [(Tr.mk k s mn mx ts)]) = res := ⟨_, rfl⟩
  show awp _ _ _ _ (aendP _ _ (enc (.mk 6 0#256 0 0 [(Tr.mk k s mn mx ts)]))) _ _
  rw [show aendP Try.prog Try.f24 (enc (.mk 6 0#256 0 0 [(Tr.mk k s mn mx ts)])) = aendP Try.prog Try.f24 res from by rw [hres]]
  refine w_start (by dsimp only [abeginS, Try.f24, List.length_cons, List.length_nil, Nat.zero_add, Nat.reduceAdd, Nat.reduceSub, List.replicate, List.cons_append, List.nil_append]) (by dsimp only [St.empty]) ?_
  refine w_seq (w_region ?_)
  refine w_opm (a := .ptr 0 0) rfl rfl rfl rfl (by dsimp only [aput, List.set]) (by dsimp only [cellsOf_enc, List.append_nil, List.nil_append, List.cons_append, List.set, List.take, List.drop, List.length, List.length_cons, List.length_nil, cellsOf, aval, List.getElem?_cons_zero, List.getElem?_cons_succ, Option.getD]) ?_
  refine w_opm (a := .ptr 1 0) rfl rfl rfl rfl (by dsimp only [aput, List.set]) (by dsimp only [cellsOf_enc, List.append_nil, List.nil_append, List.cons_append, List.set, List.take, List.drop, List.length, List.length_cons, List.length_nil, cellsOf, aval, List.getElem?_cons_zero, List.getElem?_cons_succ, Option.getD]) ?_
  refine w_seq (w_region ?_)
  refine w_op (a := enc (Tr.mk k s mn mx ts)) rfl rfl rfl rfl (by dsimp only [aput, List.set]) ?_
  refine w_op (a := .list 1 (cellsL [(Tr.mk k s mn mx ts)]) .full) rfl rfl rfl rfl (by dsimp only [aput, List.set]) ?_
  refine w_op (a := nodeF 6 0 0 [(Tr.mk k s mn mx ts)] .full) rfl rfl rfl rfl (by dsimp only [aput, List.set]) ?_
  refine w_opm rfl rfl rfl (op_storeW (n := 8) rfl rfl rfl rfl rfl rfl rfl rfl (by decide)) (by dsimp only [aput, List.set]) (by dsimp only [cellsOf_enc, List.append_nil, List.nil_append, List.cons_append, List.set, List.take, List.drop, List.length, List.length_cons, List.length_nil, cellsOf, aval, List.getElem?_cons_zero, List.getElem?_cons_succ, Option.getD]) ?_
  refine end_pure (a := nodeF 6 0 0 [(Tr.mk k s mn mx ts)] .full) rfl (okTrim_nodeF _ _ _ _ _ _) ?_
  rw [← hres]; exact strip_nodeF _ _ _ _ _
theorem ent26 : Ent Try.prog 26 := enters_of Try.func26 (by kernel_rfl) rfl
set_option maxRecDepth 100000 in
set_option maxHeartbeats 4000000 in
theorem of_pure (s : BS) : Pure (ITP Try.prog) Try.prog 26 [set4 s] (enc (ofT s)) := by
  obtain ⟨d, hd⟩ : ∃ d, Try.f26.body = some d := ⟨_, rfl⟩
  refine pure_of mix Try.func26 hd ent26 ?_
  cases hd
  obtain ⟨res, hres⟩ : ∃ res, enc (ofT s) = res := ⟨_, rfl⟩
  show awp _ _ _ _ (aendP _ _ (enc (ofT s))) _ _
  rw [show aendP Try.prog Try.f26 (enc (ofT s)) = aendP Try.prog Try.f26 res from by rw [hres]]
  refine w_start (by dsimp only [abeginS, Try.f26, List.length_cons, List.length_nil, Nat.zero_add, Nat.reduceAdd, Nat.reduceSub, List.replicate, List.cons_append, List.nil_append]) (by dsimp only [St.empty]) ?_
  refine w_seq (w_region ?_)
  refine w_opm (a := .ptr 0 0) rfl rfl rfl rfl (by dsimp only [aput, List.set]) (by dsimp only [cellsOf_enc, List.append_nil, List.nil_append, List.cons_append, List.set, List.take, List.drop, List.length, List.length_cons, List.length_nil, cellsOf, aval, List.getElem?_cons_zero, List.getElem?_cons_succ, Option.getD]) ?_
  refine w_opm (a := .ptr 1 0) rfl rfl rfl rfl (by dsimp only [aput, List.set]) (by dsimp only [cellsOf_enc, List.append_nil, List.nil_append, List.cons_append, List.set, List.take, List.drop, List.length, List.length_cons, List.length_nil, cellsOf, aval, List.getElem?_cons_zero, List.getElem?_cons_succ, Option.getD]) ?_
  refine w_seq ?_
  refine w_seq (w_region ?_)
  refine w_op (a := set4 s) rfl rfl rfl rfl (by dsimp only [aput, List.set]) ?_
  refine w_op (a := set4 0#256) rfl rfl rfl (op_q (by kernel_rfl)) (by dsimp only [aput, List.set]) ?_
  refine w_runb (run_eqset s 0#256 rfl rfl rfl) rfl rfl rfl (by dsimp only [aput, List.set]) (by dsimp only [aput, List.set]) (fun h1 => ?_) (fun h1 => ?_)
  ·
    refine w_true rfl ?_
    refine w_seq (w_region ?_)
    refine w_op (a := zero29) rfl rfl rfl rfl (by dsimp only [aput, List.set]) ?_
    refine w_opm rfl rfl rfl (op_storeW (n := 8) rfl rfl rfl rfl rfl rfl rfl rfl (by decide)) (by dsimp only [aput, List.set]) (by dsimp only [cellsOf_enc, List.append_nil, List.nil_append, List.cons_append, List.set, List.take, List.drop, List.length, List.length_cons, List.length_nil, cellsOf, aval, List.getElem?_cons_zero, List.getElem?_cons_succ, Option.getD]) ?_
    refine end_pure (a := zero29) rfl rfl ?_
    rw [← hres, ofT, if_pos (by simpa using h1)]; exact strip_zero29
  ·
    refine w_false rfl ?_
    refine w_seq (w_region ?_)
    refine w_op (a := set4 s) rfl rfl rfl rfl (by dsimp only [aput, List.set]) ?_
    refine w_op (a := .agg [.raw (.int .u8 2), .raw (.int .u64 (wd s 0)), .raw (.int .u64 (wd s 1)), .raw (.int .u64 (wd s 2)), .raw (.int .u64 (wd s 3)), .raw (.int .i64 0), .raw (.int .i64 0), .list 0 [] .full]) rfl rfl rfl rfl (by dsimp only [aput, List.set]) ?_
    refine w_opm rfl rfl rfl (op_storeW (n := 8) rfl rfl rfl rfl rfl rfl rfl rfl (by decide)) (by dsimp only [aput, List.set]) (by dsimp only [cellsOf_enc, List.append_nil, List.nil_append, List.cons_append, List.set, List.take, List.drop, List.length, List.length_cons, List.length_nil, cellsOf, aval, List.getElem?_cons_zero, List.getElem?_cons_succ, Option.getD]) ?_
    refine end_pure (a := .agg [.raw (.int .u8 2), .raw (.int .u64 (wd s 0)), .raw (.int .u64 (wd s 1)), .raw (.int .u64 (wd s 2)), .raw (.int .u64 (wd s 3)), .raw (.int .i64 0), .raw (.int .i64 0), .list 0 [] .full]) rfl rfl ?_
    rw [← hres, ofT, if_neg (by simpa using h1)]; rfl
theorem ent13 : Ent Try.prog 13 := enters_of Try.func13 (by kernel_rfl) rfl
set_option maxRecDepth 100000 in
set_option maxHeartbeats 4000000 in
theorem check_mk (k : Nat) (s : BS) (mn mx : Int) (ts : List Tr) (h : (pre (Tr.mk k s mn mx ts)).length < 2 ^ 61) (b e : Bool) : Pure (ITP Try.prog) Try.prog 13 [(AV.agg (.raw (.bool b) :: .raw (.bool e) :: cells (Tr.mk k s mn mx ts)))] (.raw (.int .i64 (checkE (Tr.mk k s mn mx ts)))) := by
  obtain ⟨d, hd⟩ : ∃ d, Try.f13.body = some d := ⟨_, rfl⟩
  refine pure_of mix Try.func13 hd ent13 ?_
  cases hd
  generalize hres : AV.raw (.int .i64 (checkE (Tr.mk k s mn mx ts))) = res
  refine w_start (by dsimp only [abeginS, Try.f13, List.length_cons, List.length_nil, Nat.zero_add, Nat.reduceAdd, Nat.reduceSub, List.replicate, List.cons_append, List.nil_append]) (by dsimp only [St.empty]) ?_
  refine w_seq (w_region ?_)
  refine w_opm (a := .ptr 0 0) rfl rfl rfl rfl (by dsimp only [aput, List.set]) (by dsimp only [cellsOf_enc, List.append_nil, List.nil_append, List.cons_append, List.set, List.take, List.drop, List.length, List.length_cons, List.length_nil, cellsOf, aval, List.getElem?_cons_zero, List.getElem?_cons_succ, Option.getD]) ?_
  refine w_op (a := .raw (.int .i64 0)) rfl rfl rfl rfl (by dsimp only [aput, List.set, aval, List.getElem?_cons_zero, List.getElem?_cons_succ, Option.getD]) ?_
  refine w_seq ?_
  refine w_block ?_
  refine w_seq (w_region ?_)
  refine w_op (a := .ptr 0 2) rfl rfl rfl rfl (by dsimp only [aput, List.set]) ?_
  refine w_op (a := enc (Tr.mk k s mn mx ts)) rfl rfl rfl rfl (by dsimp only [aput, List.set]) ?_
  refine w_callkb (clean_at (Tr.mk k s mn mx ts) (by omega)) (by simp [cloL, clo, clo_enc]) rfl rfl (by dsimp only [aput, List.set]) (by dsimp only [aput, List.set]) (fun h1 => ?_) (fun h1 => ?_)
  ·
    refine w_op (a := .raw (.bool false)) rfl rfl rfl rfl (by dsimp only [aput, List.set]) ?_
    refine w_op (a := .raw (.bool false)) rfl rfl rfl rfl (by dsimp only [aput, List.set]) ?_
    refine w_false rfl ?_
    refine w_seq (w_region ?_)
    refine w_op (a := .ptr 0 2) rfl rfl rfl rfl (by dsimp only [aput, List.set]) ?_
    refine w_op (a := enc (Tr.mk k s mn mx ts)) rfl rfl rfl rfl (by dsimp only [aput, List.set]) ?_
    refine w_callk (size_at (Tr.mk k s mn mx ts) (by omega)) (by simp [cloL, clo, clo_enc]) rfl rfl (by dsimp only [aput, List.set]) ?_
    refine w_opb rfl rfl rfl rfl (by dsimp only [aput, List.set]) (by dsimp only [aput, List.set]) (fun h2 => ?_) (fun h2 => ?_)
    ·
      refine w_op (a := .raw (.bool true)) rfl rfl rfl rfl (by dsimp only [aput, List.set]) ?_
      refine w_true rfl ?_
      refine w_seq (w_region ?_)
      refine w_op (a := .raw (.int .i64 81)) rfl rfl rfl rfl (by dsimp only [aput, List.set, aval, List.getElem?_cons_zero, List.getElem?_cons_succ, Option.getD]) ?_
      refine end_pure (a := .raw (.int .i64 81)) rfl rfl ?_
      rw [← hres, show checkE (Tr.mk k s mn mx ts) = 81 from by simp only [checkE, h1, h2, Bool.true_and, Bool.and_true, Bool.false_and, Bool.and_false, Bool.true_or, Bool.or_true, Bool.false_or, Bool.or_false, Bool.not_true, Bool.not_false, cond_true, cond_false, Bool.false_eq_true, Bool.true_eq_false]]; rfl
    ·
      refine w_op (a := .raw (.bool false)) rfl rfl rfl rfl (by dsimp only [aput, List.set]) ?_
      refine w_false rfl ?_
      refine w_seq (w_region ?_)
      refine w_op (a := .ptr 0 2) rfl rfl rfl rfl (by dsimp only [aput, List.set]) ?_
      refine w_op (a := enc (Tr.mk k s mn mx ts)) rfl rfl rfl rfl (by dsimp only [aput, List.set]) ?_
      refine w_callk (posn_at (Tr.mk k s mn mx ts) (by omega)) (by simp [cloL, clo, clo_enc]) rfl rfl (by dsimp only [aput, List.set]) ?_
      refine w_opb rfl rfl rfl rfl (by dsimp only [aput, List.set]) (by dsimp only [aput, List.set]) (fun h3 => ?_) (fun h3 => ?_)
      ·
        refine w_op (a := .raw (.bool true)) rfl rfl rfl rfl (by dsimp only [aput, List.set]) ?_
        refine w_true rfl ?_
        refine w_seq (w_region ?_)
        refine w_op (a := .raw (.int .i64 82)) rfl rfl rfl rfl (by dsimp only [aput, List.set, aval, List.getElem?_cons_zero, List.getElem?_cons_succ, Option.getD]) ?_
        refine end_pure (a := .raw (.int .i64 82)) rfl rfl ?_
        rw [← hres, show checkE (Tr.mk k s mn mx ts) = 82 from by simp only [checkE, h1, h2, h3, Bool.true_and, Bool.and_true, Bool.false_and, Bool.and_false, Bool.true_or, Bool.or_true, Bool.false_or, Bool.or_false, Bool.not_true, Bool.not_false, cond_true, cond_false, Bool.false_eq_true, Bool.true_eq_false]]; rfl
      ·
        refine w_op (a := .raw (.bool false)) rfl rfl rfl rfl (by dsimp only [aput, List.set]) ?_
        refine w_false rfl ?_
        refine w_seq (w_region ?_)
        refine w_op (a := .ptr 0 2) rfl rfl rfl rfl (by dsimp only [aput, List.set]) ?_
        refine w_op (a := enc (Tr.mk k s mn mx ts)) rfl rfl rfl rfl (by dsimp only [aput, List.set]) ?_
        refine w_callk (groups_at (Tr.mk k s mn mx ts) (by omega)) (by simp [cloL, clo, clo_enc]) rfl rfl (by dsimp only [aput, List.set]) ?_
        refine w_opb rfl rfl rfl rfl (by dsimp only [aput, List.set]) (by dsimp only [aput, List.set]) (fun h4 => ?_) (fun h4 => ?_)
        ·
          refine w_op (a := .raw (.bool true)) rfl rfl rfl rfl (by dsimp only [aput, List.set]) ?_
          refine w_true rfl ?_
          refine w_seq (w_region ?_)
          refine w_op (a := .raw (.int .i64 83)) rfl rfl rfl rfl (by dsimp only [aput, List.set, aval, List.getElem?_cons_zero, List.getElem?_cons_succ, Option.getD]) ?_
          refine end_pure (a := .raw (.int .i64 83)) rfl rfl ?_
          rw [← hres, show checkE (Tr.mk k s mn mx ts) = 83 from by simp only [checkE, h1, h2, h3, h4, Bool.true_and, Bool.and_true, Bool.false_and, Bool.and_false, Bool.true_or, Bool.or_true, Bool.false_or, Bool.or_false, Bool.not_true, Bool.not_false, cond_true, cond_false, Bool.false_eq_true, Bool.true_eq_false]]; rfl
        ·
          refine w_op (a := .raw (.bool false)) rfl rfl rfl rfl (by dsimp only [aput, List.set]) ?_
          refine w_false rfl ?_
          refine w_seq (w_region ?_)
          refine w_op (a := .raw (.int .i64 0)) rfl rfl rfl rfl (by dsimp only [aput, List.set, aval, List.getElem?_cons_zero, List.getElem?_cons_succ, Option.getD]) ?_
          refine end_pure (a := .raw (.int .i64 0)) rfl rfl ?_
          rw [← hres, show checkE (Tr.mk k s mn mx ts) = 0 from by simp only [checkE, h1, h2, h3, h4, Bool.true_and, Bool.and_true, Bool.false_and, Bool.and_false, Bool.true_or, Bool.or_true, Bool.false_or, Bool.or_false, Bool.not_true, Bool.not_false, cond_true, cond_false, Bool.false_eq_true, Bool.true_eq_false]]; rfl
  ·
    refine w_op (a := .raw (.bool true)) rfl rfl rfl rfl (by dsimp only [aput, List.set]) ?_
    refine w_op (a := .raw (.bool true)) rfl rfl rfl rfl (by dsimp only [aput, List.set]) ?_
    refine w_true rfl ?_
    refine w_seq (w_region ?_)
    refine w_op (a := .raw (.int .i64 80)) rfl rfl rfl rfl (by dsimp only [aput, List.set, aval, List.getElem?_cons_zero, List.getElem?_cons_succ, Option.getD]) ?_
    refine end_pure (a := .raw (.int .i64 80)) rfl rfl ?_
    rw [← hres, show checkE (Tr.mk k s mn mx ts) = 80 from by simp only [checkE, h1, Bool.true_and, Bool.and_true, Bool.false_and, Bool.and_false, Bool.true_or, Bool.or_true, Bool.false_or, Bool.or_false, Bool.not_true, Bool.not_false, cond_true, cond_false, Bool.false_eq_true, Bool.true_eq_false]]; rfl
end Go.Ab
