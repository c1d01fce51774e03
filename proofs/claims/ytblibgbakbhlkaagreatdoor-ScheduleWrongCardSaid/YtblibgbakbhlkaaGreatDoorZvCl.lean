/-
  bytes.Clone: a new list.
-/
import Derived.Test.YtblibgbakbhlkaaGreatDoorZvBd
import Derived.Test.YtblibgbakbhlkaaGreatDoorZvQc
set_option linter.unusedSimpArgs false
set_option linter.unusedVariables false
namespace Go.Ab
open Go Go.RowKit Go.Fwd Go.Proofs
def ckR (t : Ck) (st : Room) : AV := .agg [.raw (.int .u8 t.k), .list t.l.length (Enc.cellsL t.l) st]
theorem strip_ckR (t : Ck) (st : Room) : strip (ckR t st) = .agg (Enc.cells t) := by
  simp only [ckR, strip, stripL, Enc.stripL]; rfl
theorem ent60 : Ent Tryz.prog 60 := enters_of Tryz.func60 (by kernel_rfl) rfl
set_option maxRecDepth 100000 in
set_option maxHeartbeats 4000000 in
theorem bclone_pure (l : List UInt8) (g : l.length ≤ 140737488355328) : Pure (ITP Tryz.prog) Tryz.prog 60 [.list l.length (Enc.cellsL l) .none] (.list l.length (Enc.cellsL l) .none) := by
  obtain ⟨d, hd⟩ : ∃ d, Tryz.f60.body = some d := ⟨_, rfl⟩
  refine pure_of mix Tryz.func60 hd ent60 ?_
  cases hd
  refine w_start (by dsimp only [abeginS, Tryz.f60, List.length_cons, List.length_nil, Nat.zero_add, Nat.reduceAdd, Nat.reduceSub, List.replicate, List.cons_append, List.nil_append]) (by dsimp only [St.empty]) ?_
  refine w_seq (w_region ?_)
  refine w_op (a := .list 0 [] .full) rfl rfl rfl rfl (by dsimp only [aput, List.set]) ?_
  refine w_seq ?_
  refine w_seq (w_region ?_)
  refine w_op (a := .list l.length (Enc.cellsL l) .none) rfl rfl rfl rfl (by dsimp only [aput, List.set]) ?_
  refine w_nil l.length false rfl rfl rfl ⟨_, _, _, _, _, rfl, .inl ⟨rfl, rfl⟩, rfl, .inl ⟨_, _, rfl⟩⟩ (by dsimp only [aput, List.set]) (by dsimp only [aput, List.set]) (fun h1 => ?_) ?_
  · obtain rfl := List.length_eq_zero_iff.1 h1
    refine w_true rfl ?_
    refine w_seq (w_region ?_)
    refine w_op (a := .list 0 [] .full) rfl rfl rfl rfl (by dsimp only [aput, List.set]) ?_
    exact end_pure rfl rfl rfl
  · refine w_false rfl ?_
    refine w_seq (w_region ?_)
    by_cases h0 : l = []
    · subst h0
      refine w_op (a := .list 0 [] .full) rfl rfl rfl rfl (by dsimp only [aput, List.set]) ?_
      refine w_op (a := .list 0 [] .none) rfl rfl rfl rfl (by dsimp only [aput, List.set]) ?_
      refine w_op (a := .list 0 [] .full) rfl rfl rfl rfl (by dsimp only [aput, List.set]) ?_
      refine w_op (a := .list 0 [] .full) rfl rfl rfl rfl (by dsimp only [aput, List.set]) ?_
      exact end_pure rfl rfl rfl
    · have hp := List.length_pos_iff.2 h0
      refine w_op (a := .list 0 [] .full) rfl rfl rfl rfl (by dsimp only [aput, List.set]) ?_
      refine w_op (a := .list l.length (Enc.cellsL l) .none) rfl rfl rfl rfl (by dsimp only [aput, List.set]) ?_
      refine w_opB rfl rfl rfl (opB_list rfl rfl rfl rfl rfl rfl rfl rfl rfl (aSrc_list ⟨rfl, Enc.lenL l, by decide⟩) ⟨by decide, rfl, hp⟩ ⟨rfl, by unfold maxLen; omega, by show (0 + l.length) * 1 ≤ _; omega⟩) (by dsimp only [aput, List.set]) rfl ?_
      refine w_op rfl rfl rfl rfl (by dsimp only [aput, List.set, aval, List.getElem?_cons_zero, List.getElem?_cons_succ, Option.getD]) ?_
      refine end_frz 1 rfl ?_
      exact frz_bsl (α := UInt8) (t := 5) (l := l) (Nat.zero_add _).symm rfl
end Go.Ab

