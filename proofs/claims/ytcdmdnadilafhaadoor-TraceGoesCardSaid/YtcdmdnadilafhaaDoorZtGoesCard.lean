/-
  The law TraceGoes of the given program returns true, whatever the entries and the numbers, and what came in reads as it did; what it lists is tied to the program's text. No condition.
-/
import Derived.Test.YtcdmdnadilafhaaDoorZtGoesLaw
import Derived.Test.YtcdmdnadilafhaaDoorCards
import Derived.Test.YtcdmdnadilafhaaDoorTie
import Derived.SevenTiedAt
namespace Go.Proofs.YtcdmdnadilafhaaDoor
open Go
theorem traceGoes_card : Rows.TraceGoesCardSaid :=
  Claim7.holds_tied_plain_at .later [] [.data, .data, .data, .sentinel, .sentinel] true (true, "6adc477c2da4368bf170d021dffc172f579d8c3b61be681be56638f3f14cc3cb") true
    traceGoes_holds (fun _ h => by cases h) (by kernel_rfl) (fun _ h => by cases h) traceGoes_row_tie rfl ⟨rfl, rfl⟩ (by kernel_rfl) rfl
    (fun f fn hf hfn => by
      obtain rfl : f = 5 := Option.some.inj ((show Tryd.prog.funcNamed "repartee/reparteelaw33.TraceGoes" = some 5 by kernel_rfl).symm.trans hf) |>.symm
      obtain rfl : fn = Tryd.f5 := (Option.some.inj (Tryd.func5.symm.trans hfn)).symm
      exact ⟨by kernel_rfl, fun j t ht => by
        have hm : t ∈ [32, 5, 5, 5, 5] := by
          have h := Array.mem_of_getElem? ht
          rw [← Array.mem_toList_iff, show Tryd.f5.params.toList = [32, 5, 5, 5, 5] from by kernel_rfl] at h
          exact h
        have hall : ([32, 5, 5, 5, 5].all fun u => !Tryd.prog.wantsStandIn u) = true := by kernel_rfl
        exact (show Tryd.prog.wantsStandIn t = false by simpa using List.all_eq_true.1 hall t hm)⟩)
    (by kernel_rfl)
#print axioms traceGoes_card
end Go.Proofs.YtcdmdnadilafhaaDoor
