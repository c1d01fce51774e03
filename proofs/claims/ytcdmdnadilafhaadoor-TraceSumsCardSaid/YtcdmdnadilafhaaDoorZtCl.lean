/-
  trace: slices.Clone of entries: a new list, or a box.
-/
import Derived.Test.YtcdmdnadilafhaaDoorZdZ
import Derived.Test.YtcdmdnadilafhaaDoorZtEn2
import Derived.Test.YtcdmdnadilafhaaDoorZtQs
set_option linter.unusedSimpArgs false
set_option linter.unusedVariables false
namespace Go.Ab
open Go Go.RowKit Go.Fwd Go.Proofs
theorem ent19 : Ent Tryd.prog 19 := enters_of Tryd.func19 (by kernel_rfl) rfl
set_option maxRecDepth 100000 in
set_option maxHeartbeats 4000000 in
theorem clone_pure (l : List En) (g : l.length * 40 ≤ 140737488355328) : Pure (ITP Tryd.prog) Tryd.prog 19 [.list l.length (Enc.cellsL l) .none] (.list l.length (Enc.cellsL l) .none) := by
  obtain ⟨d, hd⟩ : ∃ d, Tryd.f19.body = some d := ⟨_, rfl⟩
  refine pure_of mix Tryd.func19 hd ent19 ?_
  cases hd
  refine w_start (by dsimp only [abeginS, Tryd.f19, List.length_cons, List.length_nil, Nat.zero_add, Nat.reduceAdd, Nat.reduceSub, List.replicate, List.cons_append, List.nil_append]) (by dsimp only [St.empty]) ?_
  refine w_seq (w_region ?_)
  refine w_op (a := .list 0 [] .full) rfl rfl rfl rfl (by dsimp only [aput, List.set]) ?_
  refine w_seq ?_
  refine w_seq (w_region ?_)
  refine w_op (a := .list l.length (Enc.cellsL l) .none) rfl rfl rfl rfl (by dsimp only [aput, List.set]) ?_
  refine w_nil l.length false rfl rfl rfl ⟨_, _, _, _, _, rfl, .inl ⟨rfl, rfl⟩, rfl, .inl ⟨_, _, rfl⟩⟩ (by dsimp only [aput, List.set]) (by dsimp only [aput, List.set]) (fun h1 => ?_) ?_
  · obtain rfl := List.length_eq_zero_iff.1 h1
    refine w_true rfl ?_
    refine w_seq (w_region ?_)
    refine w_op (a := .list 0 [] .full) rfl rfl rfl rfl (by dsimp only [aput, List.set]) ?_
    exact end_pure rfl rfl rfl
  · refine w_false rfl ?_
    refine w_seq (w_region ?_)
    by_cases h0 : l = []
    · subst h0
      refine w_op (a := .list 0 [] .full) rfl rfl rfl rfl (by dsimp only [aput, List.set]) ?_
      refine w_op (a := .list 0 [] .none) rfl rfl rfl rfl (by dsimp only [aput, List.set]) ?_
      refine w_op (a := .list 0 [] .full) rfl rfl rfl rfl (by dsimp only [aput, List.set]) ?_
      refine w_op (a := .list 0 [] .full) rfl rfl rfl rfl (by dsimp only [aput, List.set]) ?_
      exact end_pure rfl rfl rfl
    · have hp := List.length_pos_iff.2 h0
      refine w_op (a := .list 0 [] .full) rfl rfl rfl rfl (by dsimp only [aput, List.set]) ?_
      refine w_op (a := .list l.length (Enc.cellsL l) .none) rfl rfl rfl rfl (by dsimp only [aput, List.set]) ?_
      refine w_opB rfl rfl rfl (opB_list rfl rfl rfl rfl rfl rfl rfl rfl rfl (aSrc_list ⟨rfl, Enc.lenL l, by decide⟩) ⟨by decide, rfl, hp⟩ ⟨rfl, by unfold maxLen; omega, by show (0 + l.length) * 40 ≤ _; omega⟩) (by dsimp only [aput, List.set]) rfl ?_
      refine w_op rfl rfl rfl rfl (by dsimp only [aput, List.set, aval, List.getElem?_cons_zero, List.getElem?_cons_succ, Option.getD]) ?_
      refine end_frz 1 rfl ?_
      exact frz_bsl (α := En) (t := 43) (l := l) (Nat.zero_add _).symm rfl
set_option maxRecDepth 100000 in
set_option maxHeartbeats 4000000 in
theorem clone_cons0 (l : List En) (h0 : 0 < l.length) (g : l.length * 40 ≤ 140737488355328) : Snd (ITP Tryd.prog) Tryd.prog 19 [.list l.length (Enc.cellsL l) .none] St.empty (.bsl 0 0 l.length 4 false) ⟨[(43, Enc.cellsL l)], [], [], 0, false⟩ := by
  obtain ⟨d, hd⟩ : ∃ d, Tryd.f19.body = some d := ⟨_, rfl⟩
  refine snd_of mix Tryd.func19 hd ent19 ?_
  cases hd
  refine w_start (by dsimp only [abeginS, Tryd.f19, List.length_cons, List.length_nil, Nat.zero_add, Nat.reduceAdd, Nat.reduceSub, List.replicate, List.cons_append, List.nil_append]) (by dsimp only [St.empty]) ?_
  refine w_seq (w_region ?_)
  refine w_op (a := .list 0 [] .full) rfl rfl rfl rfl (by dsimp only [aput, List.set]) ?_
  refine w_seq ?_
  refine w_seq (w_region ?_)
  refine w_op (a := .list l.length (Enc.cellsL l) .none) rfl rfl rfl rfl (by dsimp only [aput, List.set]) ?_
  refine w_nil l.length false rfl rfl rfl ⟨_, _, _, _, _, rfl, .inl ⟨rfl, rfl⟩, rfl, .inl ⟨_, _, rfl⟩⟩ (by dsimp only [aput, List.set]) (by dsimp only [aput, List.set]) (fun h1 => ?_) ?_
  · exact absurd h1 (by omega)
  · refine w_false rfl ?_
    refine w_seq (w_region ?_)
    refine w_op (a := .list 0 [] .full) rfl rfl rfl rfl (by dsimp only [aput, List.set]) ?_
    refine w_op (a := .list l.length (Enc.cellsL l) .none) rfl rfl rfl rfl (by dsimp only [aput, List.set]) ?_
    refine w_opB rfl rfl rfl (opB_list rfl rfl rfl rfl rfl rfl rfl rfl rfl (aSrc_list ⟨rfl, Enc.lenL l, by decide⟩) ⟨by decide, rfl, h0⟩ ⟨rfl, by unfold maxLen; omega, by show (0 + l.length) * 40 ≤ _; omega⟩) (by dsimp only [aput, List.set]) rfl ?_
    refine w_op rfl rfl rfl rfl (by dsimp only [aput, List.set, aval, List.getElem?_cons_zero, List.getElem?_cons_succ, Option.getD]) ?_
    refine end_keep (n := 0) (m := 0) [] [0] 0 rfl rfl ?_ ?_
    · show AV.bsl 0 0 (0 + l.length) 4 false = _; rw [Nat.zero_add]
    · simp [keepSt, keepBoxes, mapKL_clo _ _ _ (Enc.cloL l), St.empty]
theorem clone_cons (l : List En) (h0 : 0 < l.length) (g : l.length * 40 ≤ 140737488355328) (n : Nat) (σ : St) (hσ : σ.boxes.length = n) : Snd (ITP Tryd.prog) Tryd.prog 19 [.list l.length (Enc.cellsL l) .none] σ (.bsl n 0 l.length 4 false) { σ with boxes := σ.boxes ++ [(43, Enc.cellsL l)] } := by
  subst hσ
  have h := snd_lift (itp_mono _) (clone_cons0 l h0 g) (args := [.list l.length (Enc.cellsL l) .none]) (by rw [stripL, strip, Enc.stripL]; rfl) (by rw [okTrimL, okTrim, okTrimL_clo _ _ (Enc.cloL l)]; rfl) σ
  simpa [mapK, shz, shBoxes, mapKL_clo _ _ _ (Enc.cloL l)] using h
section
variable {P : Program} {ρ : Operand → AV} {σ : St} {o : Oper}
theorem q_subL_ {α : Type} [Enc α] {l : List α} {x y : Operand} {t e : TypeId} {st : Room} {i : Int} (g : 0 ≤ i ∧ i ≤ (l.length : Int) ∧ (l.length : Int) ≤ (l.length : Int)) (ho : o.op = .slice t x (some y) none none) (hx : ρ x = .list l.length (Enc.cellsL l) st) (hy : ρ y = .raw (.int .i64 i)) (hu : P.underlying t = some (.slice e)) (hs : sizeT P e = some (Enc.sz α)) :
    qop P ρ σ o = some (.list (sub l i l.length).length (Enc.cellsL (sub l i l.length)) (subRoom l.length i l.length st)) := by
  have h1 : aSlice P t (ρ x) (some (ρ y)) none none = some (.list (sub l i l.length).length (Enc.cellsL (sub l i l.length)) (subRoom l.length i l.length st)) := by
    have hj := g.1
    have hk := g.2.1
    rw [sub_lenI l g, ← sub_cells l g, hx, hy]
    simp [aSlice, hu, hs, aBounds, aBound, Enc.lenL, subRoom, hj, hk]
  simp only [qop, ho, Option.map, h1]
end
end Go.Ab
