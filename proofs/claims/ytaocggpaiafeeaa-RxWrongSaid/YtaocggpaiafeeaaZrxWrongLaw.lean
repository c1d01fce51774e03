/-
  The law RxWrong of the given program returns true, whatever the two slices and the number, and what came in reads as it did. No condition.
-/
import Derived.Test.YtaocggpaiafeeaaZrxP5
import Derived.Test.YtaocggpaiafeeaaZrxFr
set_option linter.unusedSimpArgs false
set_option linter.unusedVariables false
namespace Go.Proofs.Ytaocggpaiafeeaa
open Go Go.Ab Go.ChangeShapes Go.WideShapes Go.ChangeAt Go.RowKit Go.Fwd

set_option maxRecDepth 100000 in
theorem rxWrong_lifted (os : Os) (started : os.Started) (H : Type) (enc : TypeId × Value → H) :
    ReturnsInHanded {} Try.checked os 5 .any (Rows.rxWrongSpec.pre6 enc Try.prog Try.f5 Rows.rxWrongRow.domain false) (Rows.rxWrongSpec.post enc Try.prog Try.f5 false true false false) := by
  refine returnsInHanded_of_change (C := Try.checked) ownLess started (by kernel_rfl) Try.func5
    (ChangeSpec.witness6 (enc := enc) (C := Try.checked) false ⟨#[], #[.slice .none 0 0, .slice .none 0 0, .int .u8 0], []⟩ 8 (by kernel_rfl) (by kernel_rfl) (by kernel_rfl) (by kernel_rfl)) ?_
  intro W base args ds gs before hval0 hW _ _
  have hval : ∀ (j : Nat) t v, Try.f5.params[j]? = some t → args[j]? = some v → Value.okWide Try.prog W .any base t v := hval0
  have hW' := hW
  obtain ⟨p, q, hA0, hV, rfl, _, _⟩ := hW
  have hA : DataW.TrodAll enc Try.prog W 0 (fun _ => true) true Try.f5.params.toList args.toList ds p := hA0
  rw [show Try.f5.params.toList = [22, 22, 5] from by kernel_rfl] at hA
  obtain ⟨v0, v1, v2, d0, d1, d2, p0, p1, p2, rfl, rfl, rfl, h0, h1, h2⟩ := trodAll_three hA
  obtain ⟨rfl, rfl⟩ := trodVars_none hV
  obtain ⟨l, hl, hr⟩ := open_small (hval 0 22 v0 (by kernel_rfl) rfl) h0
  obtain ⟨l1, hl1, hr1⟩ := open_small (hval 1 22 v1 (by kernel_rfl) rfl) h1
  obtain ⟨wi, rfl, _, _, wb⟩ := open_int (show Try.prog.underlying 5 = some (.int .u8) from by kernel_rfl) (hval 2 5 v2 (by kernel_rfl) rfl) h2
  have wb := bnd_u8 wb
  obtain ⟨w, rfl⟩ : ∃ w : Nat, wi = (w : Int) := ⟨wi.toNat, by omega⟩
  have hw : w < 256 := by omega
  clear hA0 hval0
  simp only [List.append_nil] at hW'
  have hlt : ∀ y ∈ p0 ++ p1 ++ p2, y.block < W.heap.size := fun y hy => by simpa using hW'.lt y hy
  refine (frame_of (rxwrong_pure l l1 hl hl1 w hw) W (vs := [v0, v1, .int .u8 w]) ⟨_, _, rfl, hr, _, _, rfl, hr1, _, _, rfl, rfl, rfl⟩).mono fun e W' ⟨he, hw⟩ => ?_
  subst he
  refine ⟨_, rfl, ?_⟩
  refine ⟨_, _, _, [] ++ [], p0 ++ p1 ++ p2, [], hW', ?_, ?_, rfl, hw.toBelow.frame _, fun h => by cases h⟩
  · exact trodAll_mk1 (shut_bool (show Try.prog.underlying 4 = some .bool from by kernel_rfl) true)
  · have td : ∀ {t : TypeId} {v : Value} {d : DataW H} {p : List MemPlace}, t ∈ [22, 5] → DataW.Trod enc Try.prog W 0 (fun _ => true) true t v d p → (∀ y ∈ p, y.block < W.heap.size) → DataW.Trod enc Try.prog W' 0 (fun b => decide (b < W.heap.size)) true t v d p := fun ht h hl => by
      rcases List.mem_cons.1 ht with rfl | ht
      · exact Below.trod laidOut (by kernel_rfl) (of_decide_eq_true (by kernel_rfl)) h hw.toBelow hl
      · simp at ht; subst ht
        exact Below.trod laidOut (by kernel_rfl) (of_decide_eq_true (by kernel_rfl)) h hw.toBelow hl
    have := trodAll_mk3 (td (by simp) h0 fun y hy => hlt y (by simp [hy])) (td (by simp) h1 fun y hy => hlt y (by simp [hy])) (td (by simp) h2 fun y hy => hlt y (by simp [hy]))
    rw [show p0 ++ p1 ++ p2 = p0 ++ (p1 ++ p2) by simp]
    exact this

theorem rxWrong_holds : Rows.RxWrongSaid :=
  OpenClaim.holds_of_wide 5 Try.f5 rfl rfl rfl rfl rfl rfl rfl ⟨rfl, rfl, rfl, rfl, rfl⟩ rfl rfl rfl rfl rfl (by kernel_rfl) Try.func5 (by kernel_rfl)
    (of_decide_eq_true (by kernel_rfl)) (by unfold Func.isWrapper; rw [if_neg (by decide +kernel)]; exact ⟨rfl, rfl⟩)
    (fun os started H enc _ => rxWrong_lifted os started H enc)
end Go.Proofs.Ytaocggpaiafeeaa
