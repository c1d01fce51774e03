/-
  The law RxOrder of the given program returns true, whatever the three slices, and what came in reads as it did. No condition.
-/
import Derived.Test.YtaocggpaiafeeaaZrxO7
import Derived.Test.YtaocggpaiafeeaaZrxFr
set_option linter.unusedSimpArgs false
set_option linter.unusedVariables false
namespace Go.Proofs.Ytaocggpaiafeeaa
open Go Go.Ab Go.ChangeShapes Go.WideShapes Go.ChangeAt Go.RowKit Go.Fwd

set_option maxRecDepth 100000 in
theorem rxOrder_lifted (os : Os) (started : os.Started) (H : Type) (enc : TypeId × Value → H) :
    ReturnsInHanded {} Try.checked os 7 .any (Rows.rxOrderSpec.pre6 enc Try.prog Try.f7 Rows.rxOrderRow.domain false) (Rows.rxOrderSpec.post enc Try.prog Try.f7 false true false false) := by
  refine returnsInHanded_of_change (C := Try.checked) ownLess started (by kernel_rfl) Try.func7
    (ChangeSpec.witness6 (enc := enc) (C := Try.checked) false ⟨#[], #[.slice .none 0 0, .slice .none 0 0, .slice .none 0 0], []⟩ 8 (by kernel_rfl) (by kernel_rfl) (by kernel_rfl) (by kernel_rfl)) ?_
  intro W base args ds gs before hval0 hW _ _
  have hval : ∀ (j : Nat) t v, Try.f7.params[j]? = some t → args[j]? = some v → Value.okWide Try.prog W .any base t v := hval0
  have hW' := hW
  obtain ⟨p, q, hA0, hV, rfl, _, _⟩ := hW
  have hA : DataW.TrodAll enc Try.prog W 0 (fun _ => true) true Try.f7.params.toList args.toList ds p := hA0
  rw [show Try.f7.params.toList = [22, 22, 22] from by kernel_rfl] at hA
  obtain ⟨v0, v1, v2, d0, d1, d2, p0, p1, p2, rfl, rfl, rfl, h0, h1, h2⟩ := trodAll_three hA
  obtain ⟨rfl, rfl⟩ := trodVars_none hV
  obtain ⟨l, hl, hr⟩ := open_small (hval 0 22 v0 (by kernel_rfl) rfl) h0
  obtain ⟨l1, hl1, hr1⟩ := open_small (hval 1 22 v1 (by kernel_rfl) rfl) h1
  obtain ⟨l2, hl2, hr2⟩ := open_small (hval 2 22 v2 (by kernel_rfl) rfl) h2
  clear hA0 hval0
  simp only [List.append_nil] at hW'
  have hlt : ∀ y ∈ p0 ++ p1 ++ p2, y.block < W.heap.size := fun y hy => by simpa using hW'.lt y hy
  refine (frame_of (rxorder_pure l l1 l2 hl hl1 hl2) W (vs := [v0, v1, v2]) ⟨_, _, rfl, hr, _, _, rfl, hr1, _, _, rfl, hr2, rfl⟩).mono fun e W' ⟨he, hw⟩ => ?_
  subst he
  refine ⟨_, rfl, ?_⟩
  refine ⟨_, _, _, [] ++ [], p0 ++ p1 ++ p2, [], hW', ?_, ?_, rfl, hw.toBelow.frame _, fun h => by cases h⟩
  · exact trodAll_mk1 (shut_bool (show Try.prog.underlying 4 = some .bool from by kernel_rfl) true)
  · have td : ∀ {v : Value} {d : DataW H} {p : List MemPlace}, DataW.Trod enc Try.prog W 0 (fun _ => true) true 22 v d p → (∀ y ∈ p, y.block < W.heap.size) → DataW.Trod enc Try.prog W' 0 (fun b => decide (b < W.heap.size)) true 22 v d p := fun h hl => Below.trod laidOut (by kernel_rfl) (of_decide_eq_true (by kernel_rfl)) h hw.toBelow hl
    have := trodAll_mk3 (td h0 fun y hy => hlt y (by simp [hy])) (td h1 fun y hy => hlt y (by simp [hy])) (td h2 fun y hy => hlt y (by simp [hy]))
    rw [show p0 ++ p1 ++ p2 = p0 ++ (p1 ++ p2) by simp]
    exact this

theorem rxOrder_holds : Rows.RxOrderSaid :=
  OpenClaim.holds_of_wide 7 Try.f7 rfl rfl rfl rfl rfl rfl rfl ⟨rfl, rfl, rfl, rfl, rfl⟩ rfl rfl rfl rfl rfl (by kernel_rfl) Try.func7 (by kernel_rfl)
    (of_decide_eq_true (by kernel_rfl)) (by unfold Func.isWrapper; rw [if_neg (by decide +kernel)]; exact ⟨rfl, rfl⟩)
    (fun os started H enc _ => rxOrder_lifted os started H enc)
end Go.Proofs.Ytaocggpaiafeeaa
