/-
  The law SetsParts of the given program returns true, whatever the sets, and what came in reads as it did. No condition.
-/
import Derived.Test.YtjmhbbbpjbgmjaaZsePl
import Derived.Test.YtjmhbbbpjbgmjaaZseFr
set_option linter.unusedSimpArgs false
set_option linter.unusedVariables false
namespace Go.Proofs.Ytjmhbbbpjbgmjaa
open Go Go.Ab Go.ChangeShapes Go.WideShapes Go.ChangeAt Go.RowKit Go.Fwd

set_option maxRecDepth 100000 in
theorem setsParts_lifted (os : Os) (started : os.Started) (H : Type) (enc : TypeId × Value → H) :
    ReturnsInHanded {} Try.checked os 6 .any (Rows.setsPartsSpec.pre6 enc Try.prog Try.f6 Rows.setsPartsRow.domain false) (Rows.setsPartsSpec.post enc Try.prog Try.f6 false true false false) := by
  refine returnsInHanded_of_change (C := Try.checked) Ytjmhbbbpjbgmjaa.ownLess started (by kernel_rfl) Try.func6
    (ChangeSpec.witness6 (enc := enc) (C := Try.checked) false ⟨#[], #[.slice .none 0 0], []⟩ 8 (by kernel_rfl) (by kernel_rfl) (by kernel_rfl) (by kernel_rfl)) ?_
  intro W base args ds gs before hval0 hW _ _
  have hval : ∀ (j : Nat) t v, Try.f6.params[j]? = some t → args[j]? = some v → Value.okWide Try.prog W .any base t v := hval0
  have hW' := hW
  obtain ⟨p, q, hA0, hV, rfl, _, _⟩ := hW
  have hA : DataW.TrodAll enc Try.prog W 0 (fun _ => true) true Try.f6.params.toList args.toList ds p := hA0
  rw [show Try.f6.params.toList = [37] from by kernel_rfl] at hA
  obtain ⟨v0, d0, rfl, rfl, h0⟩ := trodAll_one hA
  obtain ⟨rfl, rfl⟩ := trodVars_none hV
  obtain ⟨l, hl, hr⟩ := open_sets (hval 0 37 v0 (by kernel_rfl) rfl) h0
  clear hA0 hval0
  simp only [List.append_nil] at hW'
  have hlt : ∀ y ∈ p, y.block < W.heap.size := fun y hy => by simpa using hW'.lt y (by simpa using hy)
  obtain ⟨fuel, hF⟩ := parts_law l
  refine (frame_of (setsparts_sh fuel l true hF) W (vs := [v0]) ⟨_, _, rfl, hr, rfl⟩).mono fun e W' ⟨he, hw⟩ => ?_
  subst he
  refine ⟨_, rfl, ?_⟩
  refine ⟨_, _, _, [] ++ [], p, [], hW', ?_, ?_, rfl, hw.toBelow.frame _, fun h => by cases h⟩
  · exact trodAll_mk1 (shut_bool (show Try.prog.underlying 4 = some .bool from by kernel_rfl) true)
  · have td : ∀ {v : Value} {d : DataW H} {p : List MemPlace}, DataW.Trod enc Try.prog W 0 (fun _ => true) true 37 v d p → (∀ y ∈ p, y.block < W.heap.size) → DataW.Trod enc Try.prog W' 0 (fun b => decide (b < W.heap.size)) true 37 v d p := fun h hl => Below.trod Ytjmhbbbpjbgmjaa.laidOut (by kernel_rfl) (of_decide_eq_true (by kernel_rfl)) h hw.toBelow hl
    exact trodAll_mk1 (td h0 hlt)

theorem setsParts_holds : Rows.SetsPartsSaid :=
  OpenClaim.holds_of_wide 6 Try.f6 rfl rfl rfl rfl rfl rfl rfl ⟨rfl, rfl, rfl, rfl, rfl⟩ rfl rfl rfl rfl rfl (by kernel_rfl) Try.func6 (by kernel_rfl)
    (of_decide_eq_true (by kernel_rfl)) (by unfold Func.isWrapper; rw [if_neg (by decide +kernel)]; exact ⟨rfl, rfl⟩)
    (fun os started H enc _ => setsParts_lifted os started H enc)
end Go.Proofs.Ytjmhbbbpjbgmjaa
