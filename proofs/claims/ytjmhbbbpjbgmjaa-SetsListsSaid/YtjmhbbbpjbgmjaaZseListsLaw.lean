/-
  The law SetsLists of the given program returns true, whatever the spans and the sets, and what came in reads as it did. No condition.
-/
import Derived.Test.YtjmhbbbpjbgmjaaZseTm
import Derived.Test.YtjmhbbbpjbgmjaaZseFs
set_option linter.unusedSimpArgs false
set_option linter.unusedVariables false
namespace Go.Ab
open Go Go.RowKit Go.Fwd Go.Proofs Go.Proofs.Ytjmhbbbpjbgmjaa
theorem k_lists (spans : List Sp) (l : List BS) : Pure (ITP Try.prog) Try.prog 25 [.list (List.length spans) (Enc.cellsL spans) .none, .list (List.length l) (Enc.cellsL l) .none] (.raw (.bool true)) := lists_sh 401 spans l true (lists_eq 401 (by omega) spans l)
def F_setslists (spans : (List Sp)) (l : (List BS)) : Option Bool :=
  (some true)
theorem ent7 : Ent Try.prog 7 := enters_of Try.func7 (by kernel_rfl) rfl
set_option maxRecDepth 100000 in
set_option maxHeartbeats 4000000 in
theorem setslists_sh (spans : (List Sp)) (l : (List BS)) (r : Bool) (h : F_setslists spans l = some r) : Pure (ITP Try.prog) Try.prog 7 [.list (List.length (spans : List Sp)) (Enc.cellsL (spans : List Sp)) .none, .list (List.length (l : List BS)) (Enc.cellsL (l : List BS)) .none] (.raw (.bool r)) := by
  obtain ⟨d, hd⟩ : ∃ d, Try.f7.body = some d := ⟨_, rfl⟩
  refine pure_of mix Try.func7 hd ent7 ?_
  cases hd
  unfold F_setslists at h
  refine w_start (by dsimp only [abeginS, Try.f7, List.length_cons, List.length_nil, Nat.zero_add, Nat.reduceAdd, Nat.reduceSub, List.replicate, List.cons_append, List.nil_append]) (by dsimp only [St.empty]) ?_
  refine w_seq (w_region ?_)
  refine w_op (a := .raw (.bool false)) rfl rfl rfl rfl (by dsimp only [aput, List.set]) ?_
  refine w_seq (w_region ?_)
  refine w_op (a := .list (List.length (spans : List Sp)) (Enc.cellsL (spans : List Sp)) .none) rfl rfl rfl rfl (by dsimp only [aput, List.set]) ?_
  refine w_op (a := .list (List.length (l : List BS)) (Enc.cellsL (l : List BS)) .none) rfl rfl rfl rfl (by dsimp only [aput, List.set]) ?_
  refine w_callc (args' := [.list (List.length (spans : List Sp)) (Enc.cellsL (spans : List Sp)) .none, .list (List.length (l : List BS)) (Enc.cellsL (l : List BS)) .none]) (r := .raw (.bool true)) (k_lists spans l) rfl rfl (stripL_cons (strip_l (Enc.cloL _)) (stripL_cons (strip_l (Enc.cloL _)) rfl)) (okTrimL_cons (okTrim_l (Enc.cloL _)) (okTrimL_cons (okTrim_l (Enc.cloL _)) rfl)) (by dsimp only [aput, List.set]) ?_
  refine w_op (a := .raw (.bool true)) rfl rfl rfl rfl (by dsimp only [aput, List.set]) ?_
  refine w_met rfl rfl ?_
  refine w_callc (args' := []) (r := .raw (.bool true)) k_awake rfl rfl rfl rfl (by dsimp only [aput, List.set]) ?_
  refine w_op (a := .raw (.bool true)) rfl rfl rfl rfl (by dsimp only [aput, List.set]) ?_
  refine w_op (a := .raw (.bool true)) rfl rfl rfl rfl (by dsimp only [aput, List.set]) ?_
  exact end_pureF (fun (r : Bool) => (.raw (.bool r) : AV)) h (a := .raw (.bool true)) rfl rfl rfl
theorem setslists_pure (spans : List Sp) (l : List BS) : Pure (ITP Try.prog) Try.prog 7 [.list (List.length spans) (Enc.cellsL spans) .none, .list (List.length l) (Enc.cellsL l) .none] (.raw (.bool true)) := setslists_sh spans l true rfl
end Go.Ab
set_option linter.unusedSimpArgs false
set_option linter.unusedVariables false
namespace Go.Proofs.Ytjmhbbbpjbgmjaa
open Go Go.Ab Go.ChangeShapes Go.WideShapes Go.ChangeAt Go.RowKit Go.Fwd

set_option maxRecDepth 100000 in
theorem setsLists_lifted (os : Os) (started : os.Started) (H : Type) (enc : TypeId × Value → H) :
    ReturnsInHanded {} Try.checked os 7 .any (Rows.setsListsSpec.pre6 enc Try.prog Try.f7 Rows.setsListsRow.domain false) (Rows.setsListsSpec.post enc Try.prog Try.f7 false true false false) := by
  refine returnsInHanded_of_change (C := Try.checked) Ytjmhbbbpjbgmjaa.ownLess started (by kernel_rfl) Try.func7
    (ChangeSpec.witness6 (enc := enc) (C := Try.checked) false ⟨#[], #[.slice .none 0 0, .slice .none 0 0], []⟩ 8 (by kernel_rfl) (by kernel_rfl) (by kernel_rfl) (by kernel_rfl)) ?_
  intro W base args ds gs before hval0 hW _ _
  have hval : ∀ (j : Nat) t v, Try.f7.params[j]? = some t → args[j]? = some v → Value.okWide Try.prog W .any base t v := hval0
  have hW' := hW
  obtain ⟨p, q, hA0, hV, rfl, _, _⟩ := hW
  have hA : DataW.TrodAll enc Try.prog W 0 (fun _ => true) true Try.f7.params.toList args.toList ds p := hA0
  rw [show Try.f7.params.toList = [42, 37] from by kernel_rfl] at hA
  obtain ⟨v0, v1, d0, d1, p0, p1, rfl, rfl, rfl, h0, h1⟩ := trodAll_two hA
  obtain ⟨rfl, rfl⟩ := trodVars_none hV
  obtain ⟨spans, _, hr0⟩ := open_spans (hval 0 42 v0 (by kernel_rfl) rfl) h0
  obtain ⟨l, _, hr1⟩ := open_sets (hval 1 37 v1 (by kernel_rfl) rfl) h1
  clear hA0 hval0
  simp only [List.append_nil] at hW'
  have hlt : ∀ y ∈ p0 ++ p1, y.block < W.heap.size := fun y hy => by simpa using hW'.lt y hy
  refine (frame_of (setslists_pure spans l) W (vs := [v0, v1]) ⟨_, _, rfl, hr0, _, _, rfl, hr1, rfl⟩).mono fun e W' ⟨he, hw⟩ => ?_
  subst he
  refine ⟨_, rfl, ?_⟩
  refine ⟨_, _, _, [] ++ [], p0 ++ p1, [], hW', ?_, ?_, rfl, hw.toBelow.frame _, fun h => by cases h⟩
  · exact trodAll_mk1 (shut_bool (show Try.prog.underlying 4 = some .bool from by kernel_rfl) true)
  · have t42 : ∀ {v : Value} {d : DataW H} {p : List MemPlace}, DataW.Trod enc Try.prog W 0 (fun _ => true) true 42 v d p → (∀ y ∈ p, y.block < W.heap.size) → DataW.Trod enc Try.prog W' 0 (fun b => decide (b < W.heap.size)) true 42 v d p := fun h hl => Below.trod Ytjmhbbbpjbgmjaa.laidOut (by kernel_rfl) (of_decide_eq_true (by kernel_rfl)) h hw.toBelow hl
    have t37 : ∀ {v : Value} {d : DataW H} {p : List MemPlace}, DataW.Trod enc Try.prog W 0 (fun _ => true) true 37 v d p → (∀ y ∈ p, y.block < W.heap.size) → DataW.Trod enc Try.prog W' 0 (fun b => decide (b < W.heap.size)) true 37 v d p := fun h hl => Below.trod Ytjmhbbbpjbgmjaa.laidOut (by kernel_rfl) (of_decide_eq_true (by kernel_rfl)) h hw.toBelow hl
    exact trodAll_mk2 (t42 h0 fun y hy => hlt y (by simp [hy])) (t37 h1 fun y hy => hlt y (by simp [hy]))

theorem setsLists_holds : Rows.SetsListsSaid :=
  OpenClaim.holds_of_wide 7 Try.f7 rfl rfl rfl rfl rfl rfl rfl ⟨rfl, rfl, rfl, rfl, rfl⟩ rfl rfl rfl rfl rfl (by kernel_rfl) Try.func7 (by kernel_rfl)
    (of_decide_eq_true (by kernel_rfl)) (by unfold Func.isWrapper; rw [if_neg (by decide +kernel)]; exact ⟨rfl, rfl⟩)
    (fun os started H enc _ => setsLists_lifted os started H enc)
end Go.Proofs.Ytjmhbbbpjbgmjaa
