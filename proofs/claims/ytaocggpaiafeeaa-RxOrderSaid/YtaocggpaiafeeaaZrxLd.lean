/-
  the law: joins, letters, class.
-/
import Derived.Test.YtaocggpaiafeeaaZrxTm
set_option linter.unusedSimpArgs false
set_option linter.unusedVariables false
namespace Go.Ab
open Go Go.RowKit Go.Fwd Go.Proofs

def flatJ (kind : Nat) (l : List Tr) : List Tr := l.flatMap fun x => bif (x.k : Int) == kind then x.l else bif (kind : Int) == 3 && (x.k : Int) == 1 then [] else [x]
def endJ (kind : Nat) (l : List Tr) : Tr := bif (l.length : Int) == 0 then emptyT else bif (l.length : Int) == 1 then l.headD emptyT else .mk kind 0#256 0 0 l
def joinsT (kind : Nat) (a b : Tr) : Tr := endJ kind (flatJ kind [a, b])
theorem flatJ_preL (kind : Nat) : ∀ l : List Tr, (preL (flatJ kind l)).length ≤ (preL l).length
  | [] => by simp [flatJ, preL]
  | x :: l => by
    have h := flatJ_preL kind l
    have hx := preL_l_le x
    rw [flatJ, List.flatMap_cons, preL_append, List.length_append, preL, List.length_append]
    have h2 : (preL (bif (x.k : Int) == kind then x.l else bif (kind : Int) == 3 && (x.k : Int) == 1 then [] else [x])).length ≤ (pre x).length := by
      cases (x.k : Int) == kind <;> cases (kind : Int) == 3 && (x.k : Int) == 1 <;> simp [preL] <;> omega
    rw [flatJ] at h
    omega
theorem flatJ_take (kind : Nat) (l : List Tr) (i : Nat) (hi : i < l.length) : flatJ kind (l.take (i + 1)) = flatJ kind (l.take i) ++ (bif (l[i].k : Int) == kind then l[i].l else bif (kind : Int) == 3 && (l[i].k : Int) == 1 then [] else [l[i]]) := by
  rw [List.take_succ_eq_append_getElem hi, flatJ, List.flatMap_append]; simp [flatJ]
theorem flatJ_take_len (kind : Nat) (l : List Tr) (i : Nat) : (flatJ kind (l.take i)).length ≤ (preL l).length := by
  refine Nat.le_trans (length_le_preL _) (Nat.le_trans (flatJ_preL _ _) ?_)
  conv => rhs; rw [← List.take_append_drop i l]
  rw [preL_append, List.length_append]; omega
theorem q_lenOwn {P : Program} {ρ : Operand → AV} {σ : St} {o : Oper} {c : Call} {x : Operand} {t e : TypeId} {n : Nat} {cs : List AV} (ho : o.op = .call c) (hc : c.callee = .builtin .len) (ha : c.args.toList = [x]) (ht : c.argTypes.toList = [t]) (hx : ρ x = ownAV n cs) (hu : P.underlying t = some (.slice e)) : qop P ρ σ o = some (.raw (.int .i64 n)) := by
  unfold ownAV at hx
  split at hx
  · rename_i h; subst h; simp [qop, ho, hc, ha, ht, hx, aLen, hu]
  · simp [qop, ho, hc, ha, ht, hx, aLen, hu]
theorem ent18 : Ent Try.prog 18 := enters_of Try.func18 (by kernel_rfl) rfl
set_option maxRecDepth 100000 in
set_option maxHeartbeats 4000000 in
theorem joins_mk (kind : Nat) (ka : Nat) (sa : BS) (mna mxa : Int) (tsa : List Tr) (kb : Nat) (sb : BS) (mnb mxb : Int) (tsb : List Tr) (hs : (preL [(Tr.mk ka sa mna mxa tsa), (Tr.mk kb sb mnb mxb tsb)]).length ≤ 2 ^ 40) : Pure (ITP Try.prog) Try.prog 18 [.raw (.int .u8 kind), enc (Tr.mk ka sa mna mxa tsa), enc (Tr.mk kb sb mnb mxb tsb)] (enc (joinsT kind (Tr.mk ka sa mna mxa tsa) (Tr.mk kb sb mnb mxb tsb))) := by
  obtain ⟨d, hd⟩ : ∃ d, Try.f18.body = some d := ⟨_, rfl⟩
  refine pure_of mix Try.func18 hd ent18 ?_
  cases hd
  obtain ⟨res, hres⟩ : ∃ res, enc (joinsT kind (Tr.mk ka sa mna mxa tsa) (Tr.mk kb sb mnb mxb tsb)) = res := ⟨_, rfl⟩
  show awp _ _ _ _ (aendP _ _ (enc (joinsT kind (Tr.mk ka sa mna mxa tsa) (Tr.mk kb sb mnb mxb tsb)))) _ _
  rw [show aendP Try.prog Try.f18 (enc (joinsT kind (Tr.mk ka sa mna mxa tsa) (Tr.mk kb sb mnb mxb tsb))) = aendP Try.prog Try.f18 res from by rw [hres]]
  refine w_start (by dsimp only [abeginS, Try.f18, List.length_cons, List.length_nil, Nat.zero_add, Nat.reduceAdd, Nat.reduceSub, List.replicate, List.cons_append, List.nil_append]) (by dsimp only [St.empty]) ?_
  refine w_seq (w_region ?_)
  refine w_opm (a := .ptr 0 0) rfl rfl rfl rfl (by dsimp only [aput, List.set]) (by dsimp only [cellsOf_enc, List.append_nil, List.nil_append, List.cons_append, List.set, List.take, List.drop, List.length, List.length_cons, List.length_nil, cellsOf, aval, List.getElem?_cons_zero, List.getElem?_cons_succ, Option.getD]) ?_
  refine w_opm (a := .ptr 1 0) rfl rfl rfl rfl (by dsimp only [aput, List.set]) (by dsimp only [cellsOf_enc, List.append_nil, List.nil_append, List.cons_append, List.set, List.take, List.drop, List.length, List.length_cons, List.length_nil, cellsOf, aval, List.getElem?_cons_zero, List.getElem?_cons_succ, Option.getD]) ?_
  refine w_opm (a := .ptr 2 0) rfl rfl rfl rfl (by dsimp only [aput, List.set]) (by dsimp only [cellsOf_enc, List.append_nil, List.nil_append, List.cons_append, List.set, List.take, List.drop, List.length, List.length_cons, List.length_nil, cellsOf, aval, List.getElem?_cons_zero, List.getElem?_cons_succ, Option.getD]) ?_
  refine w_seq (w_region ?_)
  refine w_op (a := .list 0 [] .full) rfl rfl rfl rfl (by dsimp only [aput, List.set, aval, List.getElem?_cons_zero, List.getElem?_cons_succ, Option.getD]) ?_
  refine w_seq ?_
  refine w_seq (w_region ?_)
  refine w_op (a := enc (Tr.mk ka sa mna mxa tsa)) rfl rfl rfl rfl (by dsimp only [aput, List.set]) ?_
  refine w_op (a := enc (Tr.mk kb sb mnb mxb tsb)) rfl rfl rfl rfl (by dsimp only [aput, List.set]) ?_
  refine w_op (a := .list 2 (cellsL [(Tr.mk ka sa mna mxa tsa), (Tr.mk kb sb mnb mxb tsb)]) .full) rfl rfl rfl rfl (by dsimp only [aput, List.set]) ?_
  refine w_op (a := .raw (.int .i64 (2 : Nat))) rfl rfl rfl rfl (by dsimp only [aput, List.set]) ?_
  refine w_op (a := .raw (.int .i64 0)) rfl rfl rfl rfl (by dsimp only [aput, List.set, aval, List.getElem?_cons_zero, List.getElem?_cons_succ, Option.getD]) ?_
  refine w_block ?_
  refine w_loopP (2) 3 (fun i => True) [7, 9, 14, 15, 16, 17, 18, 19, 20, 21, 22, 23, 24, 25, 26, 27, 28, 29, 30, 31, 32, 33, 34, 35, 36, 37, 38, 39] (fun i => [(7, (ownAV (flatJ kind (List.take i [(Tr.mk ka sa mna mxa tsa), (Tr.mk kb sb mnb mxb tsb)])).length (cellsL (flatJ kind (List.take i [(Tr.mk ka sa mna mxa tsa), (Tr.mk kb sb mnb mxb tsb)]))))), (14, .raw (.int .i64 (i : Nat)))]) (fun i => ownSt [(29, cells (Tr.mk ka sa mna mxa tsa)), (29, cells (Tr.mk kb sb mnb mxb tsb)), (29, [.raw (.int .u8 0), .raw (.int .u64 0), .raw (.int .u64 0), .raw (.int .u64 0), .raw (.int .u64 0), .raw (.int .i64 0), .raw (.int .i64 0), .list 0 [] .full])] 29 (flatJ kind (List.take i [(Tr.mk ka sa mna mxa tsa), (Tr.mk kb sb mnb mxb tsb)])).length 8) rfl trivial ?_ ?_
  · exact wm_of [true, true, true, true, true, true, true, true, true, false, true, true, true, true, true, false, false, false, false, false, false, false, false, false, false, false, false, false, false, false, false, false, false, false, false, false, false, false, false, false, true, true, true, true, true, true, true, true, true, true, true, true, true] (by kernel_rfl) (by kernel_rfl)
  · intro i hi hI
    refine w_start (by dsimp only [setAll, topAll, List.foldl, List.set]) rfl ?_
    refine w_seq (w_region ?_)
    refine w_opb rfl rfl rfl rfl (by dsimp only [aput, List.set]) (by dsimp only [aput, List.set]) (fun h1 => ?_) (fun h1 => ?_)
    ·
      refine w_seq ?_
      refine w_true rfl ?_
      refine w_seq ?_
      refine w_block ?_
      refine w_seq (w_region ?_)
      have hil : i < List.length [(Tr.mk ka sa mna mxa tsa), (Tr.mk kb sb mnb mxb tsb)] := by simp at h1; simp; omega
      refine w_op rfl rfl rfl (op_indexAddr rfl rfl rfl rfl rfl ⟨by omega, by simp at h1; omega, cellsL_ne (by simp)⟩) (by dsimp only [aput, List.set]) ?_
      obtain ⟨xy, hxy⟩ : ∃ xy, [(Tr.mk ka sa mna mxa tsa), (Tr.mk kb sb mnb mxb tsb)][i]'hil = xy := ⟨_, rfl⟩
      have hgety := cellsL_get [(Tr.mk ka sa mna mxa tsa), (Tr.mk kb sb mnb mxb tsb)] i hil
      rw [hxy] at hgety
      obtain ⟨ky, sy, mny, mxy, tsy⟩ := xy
      refine w_op rfl rfl rfl (op_load (a := enc (Tr.mk ky sy mny mxy tsy)) (.iptr ((cellsL [(Tr.mk ka sa mna mxa tsa), (Tr.mk kb sb mnb mxb tsb)]).drop (i * 8))) rfl rfl hgety) (by dsimp only [aput, List.set]) ?_
      refine w_opm (a := .ptr 3 0) rfl rfl rfl rfl (by dsimp only [aput, List.set]) (by dsimp only [cellsOf_enc, List.append_nil, List.nil_append, List.cons_append, List.set, List.take, List.drop, List.length, List.length_cons, List.length_nil, cellsOf, aval, List.getElem?_cons_zero, List.getElem?_cons_succ, Option.getD]) ?_
      refine w_opm rfl rfl rfl (op_storeW (n := 8) rfl rfl rfl rfl rfl rfl rfl rfl (by decide)) (by dsimp only [aput, List.set]) (by dsimp only [cellsOf_enc, List.append_nil, List.nil_append, List.cons_append, List.set, List.take, List.drop, List.length, List.length_cons, List.length_nil, cellsOf, aval, List.getElem?_cons_zero, List.getElem?_cons_succ, Option.getD]) ?_
      refine w_block ?_
      refine w_seq (w_region ?_)
      refine w_op (a := .ptr 3 0) rfl rfl rfl rfl (by dsimp only [aput, List.set]) ?_
      refine w_op rfl rfl rfl rfl (by dsimp only [aput, List.set]) ?_
      refine w_op rfl rfl rfl rfl (by dsimp only [aput, List.set, aval, List.getElem?_cons_zero, List.getElem?_cons_succ, Option.getD]) ?_
      refine w_opb rfl rfl rfl rfl (by dsimp only [aput, List.set]) (by dsimp only [aput, List.set]) (fun h2 => ?_) (fun h2 => ?_)
      ·
        refine w_op (a := .raw (.bool true)) rfl rfl rfl rfl (by dsimp only [aput, List.set]) ?_
        refine w_true rfl ?_
        refine w_region (id := 7) ?_
        refine w_op rfl rfl rfl rfl (by dsimp only [aput, List.set, aval, List.getElem?_cons_zero, List.getElem?_cons_succ, Option.getD]) ?_
        refine w_op (a := .ptr 3 7) rfl rfl rfl rfl (by dsimp only [aput, List.set]) ?_
        have hft : (flatJ kind (List.take (i + 1) [(Tr.mk ka sa mna mxa tsa), (Tr.mk kb sb mnb mxb tsb)])) = (flatJ kind (List.take i [(Tr.mk ka sa mna mxa tsa), (Tr.mk kb sb mnb mxb tsb)])) ++ tsy := by rw [flatJ_take _ _ i hil, hxy]; simp only [Tr.k, Tr.l, h2, Bool.true_and, Bool.and_true, Bool.false_and, Bool.and_false, Bool.true_or, Bool.or_true, Bool.false_or, Bool.or_false, Bool.not_true, Bool.not_false, cond_true, cond_false, Bool.false_eq_true, Bool.true_eq_false]
        have hlm := flatJ_take_len kind [(Tr.mk ka sa mna mxa tsa), (Tr.mk kb sb mnb mxb tsb)] (i + 1)
        rw [hft, List.length_append] at hlm
        refine w_op (a := .list tsy.length (cellsL tsy) .none) rfl rfl rfl rfl (by dsimp only [aput, List.set]) ?_
        refine w_opm (a := ownAV ((flatJ kind (List.take i [(Tr.mk ka sa mna mxa tsa), (Tr.mk kb sb mnb mxb tsb)])).length + tsy.length) (cellsL (flatJ kind (List.take i [(Tr.mk ka sa mna mxa tsa), (Tr.mk kb sb mnb mxb tsb)])) ++ cellsL tsy)) rfl rfl rfl (op_append rfl rfl rfl rfl (append_own (sz := 8) rfl rfl rfl rfl rfl (by decide) (cellsL_length _) (cellsL_length _) (by unfold maxLen; omega) (by show _ * 80 ≤ _; omega))) (by dsimp only [aput, List.set]) rfl ?_
        rw [show (flatJ kind (List.take i [(Tr.mk ka sa mna mxa tsa), (Tr.mk kb sb mnb mxb tsb)])).length + tsy.length = (flatJ kind (List.take (i + 1) [(Tr.mk ka sa mna mxa tsa), (Tr.mk kb sb mnb mxb tsb)])).length from by rw [hft, List.length_append], show cellsL (flatJ kind (List.take i [(Tr.mk ka sa mna mxa tsa), (Tr.mk kb sb mnb mxb tsb)])) ++ cellsL tsy = cellsL (flatJ kind (List.take (i + 1) [(Tr.mk ka sa mna mxa tsa), (Tr.mk kb sb mnb mxb tsb)])) from by rw [hft, cellsL_append]]
        refine w_op rfl rfl rfl rfl (by dsimp only [aput, List.set, aval, List.getElem?_cons_zero, List.getElem?_cons_succ, Option.getD]) ?_
        refine w_region (id := 9) ?_
        refine w_op rfl rfl rfl (op_q (q_add rfl rfl rfl rfl (by omega) (by omega))) (by dsimp only [aput, List.set]) ?_
        refine w_op rfl rfl rfl rfl (by dsimp only [aput, List.set, aval, List.getElem?_cons_zero, List.getElem?_cons_succ, Option.getD]) ?_
        refine ⟨by simp at h1; omega, trivial, ?_⟩
        refine wm_trim [true, true, true, true, true, true, true, true, true, false, true, true, true, true, true, false, false, false, false, false, false, false, false, false, false, false, false, false, false, false, false, false, false, false, false, false, false, false, false, false, true, true, true, true, true, true, true, true, true, true, true, true, true] 3 (by kernel_rfl) (by decide) (by simp [okSt, ownSt, okTrimL, okTrim, okTrim_cells, okTrim_cellsL, okTrim_enc, okTrim_own (clo_cellsL _)]) (by simp [okTrimL, okTrim, okTrim_cells, okTrim_cellsL, okTrim_enc, okTrim_own (clo_cellsL _), setAll, topAll]) (by kernel_rfl)
      ·
        refine w_op (a := .raw (.bool false)) rfl rfl rfl rfl (by dsimp only [aput, List.set]) ?_
        refine w_false rfl ?_
        refine w_seq (w_region ?_)
        refine w_op rfl rfl rfl rfl (by dsimp only [aput, List.set, aval, List.getElem?_cons_zero, List.getElem?_cons_succ, Option.getD]) ?_
        refine w_opb rfl rfl rfl rfl (by dsimp only [aput, List.set]) (by dsimp only [aput, List.set]) (fun h3 => ?_) (fun h3 => ?_)
        ·
          refine w_op (a := .raw (.bool true)) rfl rfl rfl rfl (by dsimp only [aput, List.set]) ?_
          refine w_met rfl rfl ?_
          refine w_op (a := .ptr 3 0) rfl rfl rfl rfl (by dsimp only [aput, List.set]) ?_
          refine w_met rfl rfl ?_
          refine w_op rfl rfl rfl rfl (by dsimp only [aput, List.set]) ?_
          refine w_met rfl rfl ?_
          refine w_opb rfl rfl rfl rfl (by dsimp only [aput, List.set]) (by dsimp only [aput, List.set]) (fun h4 => ?_) (fun h4 => ?_)
          ·
            refine w_op (a := .raw (.bool true)) rfl rfl rfl rfl (by dsimp only [aput, List.set]) ?_
            refine w_op (a := .raw (.bool true)) rfl rfl rfl rfl (by dsimp only [aput, List.set]) ?_
            refine w_true rfl ?_
            refine w_region (id := 9) ?_
            refine w_op rfl rfl rfl (op_q (q_add rfl rfl rfl rfl (by omega) (by omega))) (by dsimp only [aput, List.set]) ?_
            refine w_op rfl rfl rfl rfl (by dsimp only [aput, List.set, aval, List.getElem?_cons_zero, List.getElem?_cons_succ, Option.getD]) ?_
            refine ⟨by simp at h1; omega, trivial, ?_⟩
            rw [show (flatJ kind (List.take i [(Tr.mk ka sa mna mxa tsa), (Tr.mk kb sb mnb mxb tsb)])) = (flatJ kind (List.take (i + 1) [(Tr.mk ka sa mna mxa tsa), (Tr.mk kb sb mnb mxb tsb)])) from by rw [flatJ_take _ _ i hil, hxy]; simp only [Tr.k, h2, h3, h4, Bool.true_and, Bool.and_true, Bool.false_and, Bool.and_false, Bool.true_or, Bool.or_true, Bool.false_or, Bool.or_false, Bool.not_true, Bool.not_false, cond_true, cond_false, Bool.false_eq_true, Bool.true_eq_false, List.append_nil]]
            refine wm_trim [true, true, true, true, true, true, true, true, true, false, true, true, true, true, true, false, false, false, false, false, false, false, false, false, false, false, false, false, false, false, false, false, false, false, false, false, false, false, false, false, true, true, true, true, true, true, true, true, true, true, true, true, true] 3 (by kernel_rfl) (by decide) (by simp [okSt, ownSt, okTrimL, okTrim, okTrim_cells, okTrim_cellsL, okTrim_enc, okTrim_own (clo_cellsL _)]) (by simp [okTrimL, okTrim, okTrim_cells, okTrim_cellsL, okTrim_enc, okTrim_own (clo_cellsL _), setAll, topAll]) (by kernel_rfl)
          ·
            refine w_op (a := .raw (.bool false)) rfl rfl rfl rfl (by dsimp only [aput, List.set]) ?_
            refine w_op (a := .raw (.bool false)) rfl rfl rfl rfl (by dsimp only [aput, List.set]) ?_
            refine w_false rfl ?_
            refine w_region (id := 5) ?_
            refine w_op rfl rfl rfl rfl (by dsimp only [aput, List.set, aval, List.getElem?_cons_zero, List.getElem?_cons_succ, Option.getD]) ?_
            have hft : (flatJ kind (List.take (i + 1) [(Tr.mk ka sa mna mxa tsa), (Tr.mk kb sb mnb mxb tsb)])) = (flatJ kind (List.take i [(Tr.mk ka sa mna mxa tsa), (Tr.mk kb sb mnb mxb tsb)])) ++ [(Tr.mk ky sy mny mxy tsy)] := by rw [flatJ_take _ _ i hil, hxy]; simp only [Tr.k, h2, h3, h4, Bool.true_and, Bool.and_true, Bool.false_and, Bool.and_false, Bool.true_or, Bool.or_true, Bool.false_or, Bool.or_false, Bool.not_true, Bool.not_false, cond_true, cond_false, Bool.false_eq_true, Bool.true_eq_false]
            have hlm := flatJ_take_len kind [(Tr.mk ka sa mna mxa tsa), (Tr.mk kb sb mnb mxb tsb)] (i + 1)
            rw [hft, List.length_append] at hlm
            refine w_op (a := enc (Tr.mk ky sy mny mxy tsy)) rfl rfl rfl rfl (by dsimp only [aput, List.set]) ?_
            refine w_op (a := .list 1 (cellsL [(Tr.mk ky sy mny mxy tsy)]) .full) rfl rfl rfl rfl (by dsimp only [aput, List.set]) ?_
            refine w_opm (a := ownAV ((flatJ kind (List.take i [(Tr.mk ka sa mna mxa tsa), (Tr.mk kb sb mnb mxb tsb)])).length + 1) (cellsL (flatJ kind (List.take i [(Tr.mk ka sa mna mxa tsa), (Tr.mk kb sb mnb mxb tsb)])) ++ cellsL [(Tr.mk ky sy mny mxy tsy)])) rfl rfl rfl (op_append rfl rfl rfl rfl (append_own (sz := 8) rfl rfl rfl rfl rfl (by decide) (cellsL_length _) (cellsL_length _) (by unfold maxLen; omega) (by show _ * 80 ≤ _; omega))) (by dsimp only [aput, List.set]) rfl ?_
            rw [show (flatJ kind (List.take i [(Tr.mk ka sa mna mxa tsa), (Tr.mk kb sb mnb mxb tsb)])).length + 1 = (flatJ kind (List.take (i + 1) [(Tr.mk ka sa mna mxa tsa), (Tr.mk kb sb mnb mxb tsb)])).length from by rw [hft, List.length_append]; rfl, show cellsL (flatJ kind (List.take i [(Tr.mk ka sa mna mxa tsa), (Tr.mk kb sb mnb mxb tsb)])) ++ cellsL [(Tr.mk ky sy mny mxy tsy)] = cellsL (flatJ kind (List.take (i + 1) [(Tr.mk ka sa mna mxa tsa), (Tr.mk kb sb mnb mxb tsb)])) from by rw [hft, cellsL_append]]
            refine w_op rfl rfl rfl rfl (by dsimp only [aput, List.set, aval, List.getElem?_cons_zero, List.getElem?_cons_succ, Option.getD]) ?_
            refine w_region (id := 9) ?_
            refine w_op rfl rfl rfl (op_q (q_add rfl rfl rfl rfl (by omega) (by omega))) (by dsimp only [aput, List.set]) ?_
            refine w_op rfl rfl rfl rfl (by dsimp only [aput, List.set, aval, List.getElem?_cons_zero, List.getElem?_cons_succ, Option.getD]) ?_
            refine ⟨by simp at h1; omega, trivial, ?_⟩
            refine wm_trim [true, true, true, true, true, true, true, true, true, false, true, true, true, true, true, false, false, false, false, false, false, false, false, false, false, false, false, false, false, false, false, false, false, false, false, false, false, false, false, false, true, true, true, true, true, true, true, true, true, true, true, true, true] 3 (by kernel_rfl) (by decide) (by simp [okSt, ownSt, okTrimL, okTrim, okTrim_cells, okTrim_cellsL, okTrim_enc, okTrim_own (clo_cellsL _)]) (by simp [okTrimL, okTrim, okTrim_cells, okTrim_cellsL, okTrim_enc, okTrim_own (clo_cellsL _), setAll, topAll]) (by kernel_rfl)
        ·
          refine w_op (a := .raw (.bool false)) rfl rfl rfl rfl (by dsimp only [aput, List.set]) ?_
          refine w_pass rfl rfl (by decide) (by dsimp only [aput, List.set]) ?_
          refine w_pass rfl rfl (by decide) (by dsimp only [aput, List.set]) ?_
          refine w_pass rfl rfl (by decide) (by dsimp only [aput, List.set]) ?_
          refine w_op (a := .raw (.bool false)) rfl rfl rfl rfl (by dsimp only [aput, List.set]) ?_
          refine w_op (a := .raw (.bool false)) rfl rfl rfl rfl (by dsimp only [aput, List.set]) ?_
          refine w_false rfl ?_
          refine w_region (id := 5) ?_
          refine w_op rfl rfl rfl rfl (by dsimp only [aput, List.set, aval, List.getElem?_cons_zero, List.getElem?_cons_succ, Option.getD]) ?_
          have hft : (flatJ kind (List.take (i + 1) [(Tr.mk ka sa mna mxa tsa), (Tr.mk kb sb mnb mxb tsb)])) = (flatJ kind (List.take i [(Tr.mk ka sa mna mxa tsa), (Tr.mk kb sb mnb mxb tsb)])) ++ [(Tr.mk ky sy mny mxy tsy)] := by rw [flatJ_take _ _ i hil, hxy]; simp only [Tr.k, h2, h3, Bool.true_and, Bool.and_true, Bool.false_and, Bool.and_false, Bool.true_or, Bool.or_true, Bool.false_or, Bool.or_false, Bool.not_true, Bool.not_false, cond_true, cond_false, Bool.false_eq_true, Bool.true_eq_false]
          have hlm := flatJ_take_len kind [(Tr.mk ka sa mna mxa tsa), (Tr.mk kb sb mnb mxb tsb)] (i + 1)
          rw [hft, List.length_append] at hlm
          refine w_op (a := enc (Tr.mk ky sy mny mxy tsy)) rfl rfl rfl rfl (by dsimp only [aput, List.set]) ?_
          refine w_op (a := .list 1 (cellsL [(Tr.mk ky sy mny mxy tsy)]) .full) rfl rfl rfl rfl (by dsimp only [aput, List.set]) ?_
          refine w_opm (a := ownAV ((flatJ kind (List.take i [(Tr.mk ka sa mna mxa tsa), (Tr.mk kb sb mnb mxb tsb)])).length + 1) (cellsL (flatJ kind (List.take i [(Tr.mk ka sa mna mxa tsa), (Tr.mk kb sb mnb mxb tsb)])) ++ cellsL [(Tr.mk ky sy mny mxy tsy)])) rfl rfl rfl (op_append rfl rfl rfl rfl (append_own (sz := 8) rfl rfl rfl rfl rfl (by decide) (cellsL_length _) (cellsL_length _) (by unfold maxLen; omega) (by show _ * 80 ≤ _; omega))) (by dsimp only [aput, List.set]) rfl ?_
          rw [show (flatJ kind (List.take i [(Tr.mk ka sa mna mxa tsa), (Tr.mk kb sb mnb mxb tsb)])).length + 1 = (flatJ kind (List.take (i + 1) [(Tr.mk ka sa mna mxa tsa), (Tr.mk kb sb mnb mxb tsb)])).length from by rw [hft, List.length_append]; rfl, show cellsL (flatJ kind (List.take i [(Tr.mk ka sa mna mxa tsa), (Tr.mk kb sb mnb mxb tsb)])) ++ cellsL [(Tr.mk ky sy mny mxy tsy)] = cellsL (flatJ kind (List.take (i + 1) [(Tr.mk ka sa mna mxa tsa), (Tr.mk kb sb mnb mxb tsb)])) from by rw [hft, cellsL_append]]
          refine w_op rfl rfl rfl rfl (by dsimp only [aput, List.set, aval, List.getElem?_cons_zero, List.getElem?_cons_succ, Option.getD]) ?_
          refine w_region (id := 9) ?_
          refine w_op rfl rfl rfl (op_q (q_add rfl rfl rfl rfl (by omega) (by omega))) (by dsimp only [aput, List.set]) ?_
          refine w_op rfl rfl rfl rfl (by dsimp only [aput, List.set, aval, List.getElem?_cons_zero, List.getElem?_cons_succ, Option.getD]) ?_
          refine ⟨by simp at h1; omega, trivial, ?_⟩
          refine wm_trim [true, true, true, true, true, true, true, true, true, false, true, true, true, true, true, false, false, false, false, false, false, false, false, false, false, false, false, false, false, false, false, false, false, false, false, false, false, false, false, false, true, true, true, true, true, true, true, true, true, true, true, true, true] 3 (by kernel_rfl) (by decide) (by simp [okSt, ownSt, okTrimL, okTrim, okTrim_cells, okTrim_cellsL, okTrim_enc, okTrim_own (clo_cellsL _)]) (by simp [okTrimL, okTrim, okTrim_cells, okTrim_cellsL, okTrim_enc, okTrim_own (clo_cellsL _), setAll, topAll]) (by kernel_rfl)
    ·
      refine w_seq ?_
      refine w_false rfl ?_
      refine w_seq ?_
      refine w_seq (w_region ?_)
      have hie : i = 2 := by simp at h1; omega
      obtain ⟨FF, hFF⟩ : ∃ FF, flatJ kind [(Tr.mk ka sa mna mxa tsa), (Tr.mk kb sb mnb mxb tsb)] = FF := ⟨_, rfl⟩
      have hFL := flatJ_take_len kind [(Tr.mk ka sa mna mxa tsa), (Tr.mk kb sb mnb mxb tsb)] 2
      rw [show List.take 2 [(Tr.mk ka sa mna mxa tsa), (Tr.mk kb sb mnb mxb tsb)] = [(Tr.mk ka sa mna mxa tsa), (Tr.mk kb sb mnb mxb tsb)] from rfl, hFF] at hFL
      rw [hie, show List.take 2 [(Tr.mk ka sa mna mxa tsa), (Tr.mk kb sb mnb mxb tsb)] = [(Tr.mk ka sa mna mxa tsa), (Tr.mk kb sb mnb mxb tsb)] from rfl, hFF]
      refine w_op (a := ownAV FF.length (cellsL FF)) rfl rfl rfl rfl (by dsimp only [aput, List.set]) ?_
      refine w_op (a := .raw (.int .i64 FF.length)) rfl rfl rfl (op_q (q_lenOwn rfl rfl rfl rfl rfl rfl)) (by dsimp only [aput, List.set]) ?_
      refine w_block ?_
      refine w_seq (w_region ?_)
      refine w_opb rfl rfl rfl rfl (by dsimp only [aput, List.set]) (by dsimp only [aput, List.set]) (fun h5 => ?_) (fun h5 => ?_)
      ·
        refine w_op (a := .raw (.bool true)) rfl rfl rfl rfl (by dsimp only [aput, List.set]) ?_
        refine w_true rfl ?_
        refine w_seq (w_region ?_)
        refine w_op (a := nodeF 1 0 0 [] .full) rfl rfl rfl rfl (by dsimp only [aput, List.set]) ?_
        refine w_opm rfl rfl rfl (op_storeW (n := 8) rfl rfl rfl rfl rfl rfl rfl rfl (by decide)) (by dsimp only [aput, List.set]) (by dsimp only [cellsOf_enc, List.append_nil, List.nil_append, List.cons_append, List.set, List.take, List.drop, List.length, List.length_cons, List.length_nil, cellsOf, aval, List.getElem?_cons_zero, List.getElem?_cons_succ, Option.getD]) ?_
        refine end_pure (a := nodeF 1 0 0 [] .full) rfl (okTrim_nodeF _ _ _ _ _ _) ?_
        rw [← hres, show joinsT kind (Tr.mk ka sa mna mxa tsa) (Tr.mk kb sb mnb mxb tsb) = emptyT from by rw [joinsT, hFF, endJ]; simp only [h5, Bool.true_and, Bool.and_true, Bool.false_and, Bool.and_false, Bool.true_or, Bool.or_true, Bool.false_or, Bool.or_false, Bool.not_true, Bool.not_false, cond_true, cond_false, Bool.false_eq_true, Bool.true_eq_false]]; exact strip_empty
      ·
        have hne0 : ¬ FF.length = 0 := by simp at h5; simpa using h5
        rw [show ownAV FF.length (cellsL FF) = .list FF.length (cellsL FF) (.own 0) from if_neg hne0]
        refine w_op (a := .raw (.bool false)) rfl rfl rfl rfl (by dsimp only [aput, List.set]) ?_
        refine w_false rfl ?_
        refine w_seq (w_region ?_)
        refine w_opb rfl rfl rfl rfl (by dsimp only [aput, List.set]) (by dsimp only [aput, List.set]) (fun h6 => ?_) (fun h6 => ?_)
        ·
          refine w_op (a := .raw (.bool true)) rfl rfl rfl rfl (by dsimp only [aput, List.set]) ?_
          refine w_true rfl ?_
          refine w_seq (w_region ?_)
          refine w_op (a := .list FF.length (cellsL FF) (.own 0)) rfl rfl rfl rfl (by dsimp only [aput, List.set]) ?_
          have hl1 : FF.length = 1 := by simp at *; omega
          refine w_op (a := .iptr ((cellsL FF).drop (0 * 8))) rfl rfl rfl (op_indexAddr (n := 0) (len := FF.length) rfl rfl rfl rfl rfl ⟨by omega, by omega, cellsL_ne (List.ne_nil_of_length_pos (by omega))⟩) (by dsimp only [aput, List.set]) ?_
          obtain ⟨xy, hxy⟩ : ∃ xy, FF[0] = xy := ⟨_, rfl⟩
          have hgety := cellsL_get FF 0 (by omega)
          rw [hxy] at hgety
          obtain ⟨ky, sy, mny, mxy, tsy⟩ := xy
          refine w_op rfl rfl rfl (op_load (a := enc (Tr.mk ky sy mny mxy tsy)) (.iptr ((cellsL FF).drop (0 * 8))) rfl rfl hgety) (by dsimp only [aput, List.set]) ?_
          have hhd : FF.headD emptyT = (Tr.mk ky sy mny mxy tsy) := by rw [← hxy]; cases FF with | nil => simp at hl1 | cons x l => rfl
          refine w_opm rfl rfl rfl (op_storeW (n := 8) rfl rfl rfl rfl rfl rfl rfl rfl (by decide)) (by dsimp only [aput, List.set]) (by dsimp only [cellsOf_enc, List.append_nil, List.nil_append, List.cons_append, List.set, List.take, List.drop, List.length, List.length_cons, List.length_nil, cellsOf, aval, List.getElem?_cons_zero, List.getElem?_cons_succ, Option.getD]) ?_
          refine end_pure (a := enc (Tr.mk ky sy mny mxy tsy)) rfl (okTrim_enc _ _) ?_
          rw [← hres, show joinsT kind (Tr.mk ka sa mna mxa tsa) (Tr.mk kb sb mnb mxb tsb) = (Tr.mk ky sy mny mxy tsy) from by rw [joinsT, hFF, endJ]; simp only [h5, h6, Bool.true_and, Bool.and_true, Bool.false_and, Bool.and_false, Bool.true_or, Bool.or_true, Bool.false_or, Bool.or_false, Bool.not_true, Bool.not_false, cond_true, cond_false, Bool.false_eq_true, Bool.true_eq_false]; exact hhd]; exact strip_enc _
        ·
          refine w_op (a := .raw (.bool false)) rfl rfl rfl rfl (by dsimp only [aput, List.set]) ?_
          refine w_false rfl ?_
          refine w_seq (w_region ?_)
          refine w_op rfl rfl rfl rfl (by dsimp only [aput, List.set, aval, List.getElem?_cons_zero, List.getElem?_cons_succ, Option.getD]) ?_
          refine w_op (a := .list FF.length (cellsL FF) (.own 0)) rfl rfl rfl rfl (by dsimp only [aput, List.set]) ?_
          refine w_op (a := nodeF kind 0 0 FF (.own 0)) rfl rfl rfl rfl (by dsimp only [aput, List.set]) ?_
          refine w_opm rfl rfl rfl (op_storeW (n := 8) rfl rfl rfl rfl rfl rfl rfl rfl (by decide)) (by dsimp only [aput, List.set]) (by dsimp only [cellsOf_enc, List.append_nil, List.nil_append, List.cons_append, List.set, List.take, List.drop, List.length, List.length_cons, List.length_nil, cellsOf, aval, List.getElem?_cons_zero, List.getElem?_cons_succ, Option.getD]) ?_
          refine end_pure (a := nodeF kind 0 0 FF (.own 0)) rfl (okTrim_nodeF _ _ _ _ _ _) ?_
          rw [← hres, show joinsT kind (Tr.mk ka sa mna mxa tsa) (Tr.mk kb sb mnb mxb tsb) = Tr.mk kind 0#256 0 0 FF from by rw [joinsT, hFF, endJ]; simp only [h5, h6, Bool.true_and, Bool.and_true, Bool.false_and, Bool.and_false, Bool.true_or, Bool.or_true, Bool.false_or, Bool.or_false, Bool.not_true, Bool.not_false, cond_true, cond_false, Bool.false_eq_true, Bool.true_eq_false]]; exact strip_nodeF _ _ _ _ _
/-! ### closed runs -/
theorem ents (f : Nat) (fn : Func) (hf : Try.prog.funcs[f]? = some fn) (hb : fn.body.isSome = true) : Ent Try.prog f := by
  obtain ⟨c, hc⟩ := Option.isSome_iff_exists.1 hb
  have hall : (Try.prog.funcs.toList.all fun fn => !(fn.name == "runtime.NumGoroutine")) = true := by kernel_rfl
  have := List.all_eq_true.1 hall fn (Array.mem_toList_iff.2 (Array.mem_of_getElem? hf))
  exact enters_of hf (by simpa using this) hc
theorem goodTry : Good Try.prog (fun _ _ => none) := ⟨mix, ents, fun _ _ _ h => by cases h⟩
def bsOf (l : List Nat) : BS := l.foldl (fun s b => s ||| (1#256 <<< b)) 0#256
def clsT (l : List Nat) : Tr := .mk 2 (bsOf l) 0 0 []
def lbytes : Nat → List Nat
  | 0 => [97] | 1 => [98] | 2 => [97, 98] | 3 => [97] | 4 => [98] | 5 => [99] | 6 => [97, 98, 99] | 7 => [98, 99] | 8 => [10] | 9 => [0, 255] | 10 => [97] | _ => [98]
def lstr (l : List Nat) : ByteArray := ⟨(l.map fun b => UInt8.ofNat b).toArray⟩
theorem class_97 : Pure (ITP Try.prog) Try.prog 20 [.raw (.string {data := #[97]})] (enc (clsT [97])) := run_pure_call goodTry 100 (by kernel_rfl)
theorem class_98 : Pure (ITP Try.prog) Try.prog 20 [.raw (.string {data := #[98]})] (enc (clsT [98])) := run_pure_call goodTry 100 (by kernel_rfl)
theorem class_97_98 : Pure (ITP Try.prog) Try.prog 20 [.raw (.string {data := #[97, 98]})] (enc (clsT [97, 98])) := run_pure_call goodTry 100 (by kernel_rfl)
theorem class_99 : Pure (ITP Try.prog) Try.prog 20 [.raw (.string {data := #[99]})] (enc (clsT [99])) := run_pure_call goodTry 100 (by kernel_rfl)
theorem class_97_98_99 : Pure (ITP Try.prog) Try.prog 20 [.raw (.string {data := #[97, 98, 99]})] (enc (clsT [97, 98, 99])) := run_pure_call goodTry 100 (by kernel_rfl)
theorem class_98_99 : Pure (ITP Try.prog) Try.prog 20 [.raw (.string {data := #[98, 99]})] (enc (clsT [98, 99])) := run_pure_call goodTry 100 (by kernel_rfl)
theorem class_10 : Pure (ITP Try.prog) Try.prog 20 [.raw (.string {data := #[10]})] (enc (clsT [10])) := run_pure_call goodTry 100 (by kernel_rfl)
theorem class_0_255 : Pure (ITP Try.prog) Try.prog 20 [.raw (.string {data := #[0, 255]})] (enc (clsT [0, 255])) := run_pure_call goodTry 100 (by kernel_rfl)
theorem class_empty : Pure (ITP Try.prog) Try.prog 20 [.raw (.string {data := #[]})] (enc (clsT [])) := run_pure_call goodTry 100 (by kernel_rfl)
theorem class_113 : Pure (ITP Try.prog) Try.prog 20 [.raw (.string {data := #[113]})] (enc (clsT [113])) := run_pure_call goodTry 100 (by kernel_rfl)
theorem class_114 : Pure (ITP Try.prog) Try.prog 20 [.raw (.string {data := #[114]})] (enc (clsT [114])) := run_pure_call goodTry 100 (by kernel_rfl)
theorem class_0 : Pure (ITP Try.prog) Try.prog 20 [.raw (.string {data := #[0]})] (enc (clsT [0])) := run_pure_call goodTry 100 (by kernel_rfl)
theorem class_letters : ∀ j, j < 12 → Pure (ITP Try.prog) Try.prog 20 [.raw (.string (lstr (lbytes j)))] (enc (clsT (lbytes j)))
  | 0, _ => class_97 | 1, _ => class_98 | 2, _ => class_97_98 | 3, _ => class_97 | 4, _ => class_98 | 5, _ => class_99 | 6, _ => class_97_98_99 | 7, _ => class_98_99 | 8, _ => class_10 | 9, _ => class_0_255 | 10, _ => class_97 | 11, _ => class_98
  | n + 12, h => by omega
def lcells : List AV := [.raw (.string {data := #[97]}), .raw (.string {data := #[98]}), .raw (.string {data := #[97, 98]}), .raw (.string {data := #[97]}), .raw (.string {data := #[98]}), .raw (.string {data := #[99]}), .raw (.string {data := #[97, 98, 99]}), .raw (.string {data := #[98, 99]}), .raw (.string {data := #[10]}), .raw (.string {data := #[0, 255]}), .raw (.string {data := #[97]}), .raw (.string {data := #[98]})]
theorem lcells_get : ∀ j, j < 12 → rd Try.prog 9 (lcells.drop (j * 1)) = some (.raw (.string (lstr (lbytes j))))
  | 0, _ => rfl | 1, _ => rfl | 2, _ => rfl | 3, _ => rfl | 4, _ => rfl | 5, _ => rfl | 6, _ => rfl | 7, _ => rfl | 8, _ => rfl | 9, _ => rfl | 10, _ => rfl | 11, _ => rfl
  | n + 12, h => by omega
theorem q_rem {P : Program} {ρ : Operand → AV} {σ : St} {o : Oper} {x y : Operand} {t t' : TypeId} {k k' : IntKind} {a b : Nat} (ho : o.op = .binOp .rem t x y t') (hx : ρ x = .raw (.int k (a : Nat))) (hy : ρ y = .raw (.int k' (b : Nat))) (hk : k = k') (hb : b ≠ 0) : qop P ρ σ o = some (.raw (.int k ((a % b : Nat) : Int))) := by
  subst hk
  have hb' : ¬ ((b : Int) = 0) := by omega
  have e : Int.tmod (a : Int) (b : Int) = ((a % b : Nat) : Int) := rfl
  simp [qop, rawOp, ho, Op.operands, hx, hy, toVal, execOp, rawEnv, eqGuard, binOp, Op.intArith, Op.intDiv, hb', e, val?, okVal, ofVal, ofCell]
  simp [Functor.map, Pure.pure, Bind.bind, Sem.bind, val?, hb]
theorem ent31 : Ent Try.prog 31 := enters_of Try.func31 (by kernel_rfl) rfl
set_option maxRecDepth 100000 in
set_option maxHeartbeats 4000000 in
theorem letters_pure (n : Nat) : Pure (ITP Try.prog) Try.prog 31 [.raw (.int .u8 n)] (.raw (.string (lstr (lbytes (n % 12))))) := by
  obtain ⟨d, hd⟩ : ∃ d, Try.f31.body = some d := ⟨_, rfl⟩
  refine pure_of mix Try.func31 hd ent31 ?_
  cases hd
  generalize hres : AV.raw (.string (lstr (lbytes (n % 12)))) = res
  refine w_start (by dsimp only [abeginS, Try.f31, List.length_cons, List.length_nil, Nat.zero_add, Nat.reduceAdd, Nat.reduceSub, List.replicate, List.cons_append, List.nil_append]) (by dsimp only [St.empty]) ?_
  refine w_seq (w_region ?_)
  refine w_op rfl rfl rfl rfl (by dsimp only [aput, List.set, aval, List.getElem?_cons_zero, List.getElem?_cons_succ, Option.getD]) ?_
  refine w_seq (w_region ?_)
  refine w_op (a := .list 12 lcells .full) rfl rfl rfl (op_q (by kernel_rfl)) (by dsimp only [aput, List.set]) ?_
  refine w_op rfl rfl rfl rfl (by dsimp only [aput, List.set, aval, List.getElem?_cons_zero, List.getElem?_cons_succ, Option.getD]) ?_
  refine w_op (a := .raw (.int .u8 ((n % 12 : Nat) : Int))) rfl rfl rfl (op_q (q_rem (b := 12) rfl rfl rfl rfl (by decide))) (by dsimp only [aput, List.set]) ?_
  have hn : n % 12 < 12 := Nat.mod_lt _ (by decide)
  refine w_op rfl rfl rfl (op_indexAddr rfl rfl rfl rfl rfl ⟨by omega, by omega, by unfold lcells; simp⟩) (by dsimp only [aput, List.set]) ?_
  refine w_op rfl rfl rfl (op_load (a := .raw (.string (lstr (lbytes (n % 12))))) (.iptr (lcells.drop (n % 12 * 1))) rfl rfl (lcells_get _ hn)) (by dsimp only [aput, List.set]) ?_
  refine w_op rfl rfl rfl rfl (by dsimp only [aput, List.set, aval, List.getElem?_cons_zero, List.getElem?_cons_succ, Option.getD]) ?_
  refine end_pure (a := .raw (.string (lstr (lbytes (n % 12))))) rfl rfl ?_
  rw [← hres]; rfl
end Go.Ab
