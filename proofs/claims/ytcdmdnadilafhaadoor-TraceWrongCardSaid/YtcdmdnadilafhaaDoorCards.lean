/-
  DERIVED. GIVEN WITH THE SEED: THE CARDS: each row of YtcdmdnadilafhaaDoorRows.lean that lists a variable, with what it lists TIED to the program's text (the seventh form; the later family's looks); each row that meets fmt, with fmt's text TOLD by the authors' own Lean function (tested against real Go, not proved from fmt's source: count such statements apart). THE CARD IS WHAT COUNTS. Prove the row's statement (the work); the ties are given (YtcdmdnadilafhaaDoorTie.lean); close each card by the builder's one call (the guide's Derived/Test/ToyasCard.lean, 'card_holds'). Laid BY PROGRAM, IN A SANDBOX (cutbox-door.mjs). By AI agents, Wed Nov 11 2026. No macro, syntax, notation, axiom, sorry.
-/
import Derived.Test.YtcdmdnadilafhaaDoorRows
import GoSem.ClaimSeven
namespace Go.Proofs.YtcdmdnadilafhaaDoor
namespace Rows

/-- THE TIED CARD OF 'reparteelaw33.TracePairs'. -/
def tracePairsCard : Claim7 := { stood := { row := tracePairsRow, standIns := [], harness := (true, "6adc477c2da4368bf170d021dffc172f579d8c3b61be681be56638f3f14cc3cb"), looks := true }, kinds := [], alts := [], laidByText := true, laidKinds := [.data, .data, .data, .sentinel, .sentinel], laidTests := true, laidLooks := .later }
def TracePairsCardSaid : Prop := Claim7.holds Tryd.pinned (.plain (OpenSpec.ofChange tracePairsSpec)) tracePairsCard

/-- THE TIED CARD OF 'reparteelaw33.TraceText'. -/
def traceTextCard : Claim7 := { stood := { row := traceTextRow, standIns := [], harness := (true, "6adc477c2da4368bf170d021dffc172f579d8c3b61be681be56638f3f14cc3cb"), looks := true }, kinds := [], alts := [], laidByText := true, laidKinds := [.data, .data, .data, .sentinel, .sentinel], laidTests := true, laidLooks := .later }
def TraceTextCardSaid : Prop := Claim7.holds Tryd.pinned (.plain (OpenSpec.ofChange traceTextSpec)) traceTextCard

/-- THE TIED CARD OF 'reparteelaw33.TraceGoes'. -/
def traceGoesCard : Claim7 := { stood := { row := traceGoesRow, standIns := [], harness := (true, "6adc477c2da4368bf170d021dffc172f579d8c3b61be681be56638f3f14cc3cb"), looks := true }, kinds := [], alts := [], laidByText := true, laidKinds := [.data, .data, .data, .sentinel, .sentinel], laidTests := true, laidLooks := .later }
def TraceGoesCardSaid : Prop := Claim7.holds Tryd.pinned (.plain (OpenSpec.ofChange traceGoesSpec)) traceGoesCard

/-- THE TIED CARD OF 'reparteelaw33.TraceSums'. -/
def traceSumsCard : Claim7 := { stood := { row := traceSumsRow, standIns := [], harness := (true, "6adc477c2da4368bf170d021dffc172f579d8c3b61be681be56638f3f14cc3cb"), looks := true }, kinds := [], alts := [], laidByText := true, laidKinds := [.data, .data, .data, .sentinel, .sentinel], laidTests := true, laidLooks := .later }
def TraceSumsCardSaid : Prop := Claim7.holds Tryd.pinned (.plain (OpenSpec.ofChange traceSumsSpec)) traceSumsCard

/-- THE TIED CARD OF 'reparteelaw33.TraceDiffers'. -/
def traceDiffersCard : Claim7 := { stood := { row := traceDiffersRow, standIns := [], harness := (true, "6adc477c2da4368bf170d021dffc172f579d8c3b61be681be56638f3f14cc3cb"), looks := true }, kinds := [], alts := [], laidByText := true, laidKinds := [.data, .data, .data, .sentinel, .sentinel], laidTests := true, laidLooks := .later }
def TraceDiffersCardSaid : Prop := Claim7.holds Tryd.pinned (.plain (OpenSpec.ofChange traceDiffersSpec)) traceDiffersCard

/-- THE TIED CARD OF 'reparteelaw33.TraceWrong'. -/
def traceWrongCard : Claim7 := { stood := { row := traceWrongRow, standIns := [], harness := (true, "6adc477c2da4368bf170d021dffc172f579d8c3b61be681be56638f3f14cc3cb"), looks := true }, kinds := [], alts := [], laidByText := true, laidKinds := [.data, .data, .data, .sentinel, .sentinel], laidTests := true, laidLooks := .later }
def TraceWrongCardSaid : Prop := Claim7.holds Tryd.pinned (.plain (OpenSpec.ofChange traceWrongSpec)) traceWrongCard

/-- THE SECOND FORM's CARD OF 'reparteelaw33.TracePairs'. -/
def tracePairsUptoCard : Claim7 := { stood := { row := tracePairsUptoRow, standIns := [], harness := (true, "6adc477c2da4368bf170d021dffc172f579d8c3b61be681be56638f3f14cc3cb"), looks := true }, kinds := [], alts := [], laidByText := true, laidKinds := [.data, .data, .data, .sentinel, .sentinel], laidTests := true, laidLooks := .later }
def TracePairsUptoCardSaid : Prop := Claim7.holds Tryd.pinned (.plain (OpenSpec.upto tracePairsSpec)) tracePairsUptoCard

/-- THE SECOND FORM's CARD OF 'reparteelaw33.TraceText'. -/
def traceTextUptoCard : Claim7 := { stood := { row := traceTextUptoRow, standIns := [], harness := (true, "6adc477c2da4368bf170d021dffc172f579d8c3b61be681be56638f3f14cc3cb"), looks := true }, kinds := [], alts := [], laidByText := true, laidKinds := [.data, .data, .data, .sentinel, .sentinel], laidTests := true, laidLooks := .later }
def TraceTextUptoCardSaid : Prop := Claim7.holds Tryd.pinned (.plain (OpenSpec.upto traceTextSpec)) traceTextUptoCard

/-- THE SECOND FORM's CARD OF 'reparteelaw33.TraceGoes'. -/
def traceGoesUptoCard : Claim7 := { stood := { row := traceGoesUptoRow, standIns := [], harness := (true, "6adc477c2da4368bf170d021dffc172f579d8c3b61be681be56638f3f14cc3cb"), looks := true }, kinds := [], alts := [], laidByText := true, laidKinds := [.data, .data, .data, .sentinel, .sentinel], laidTests := true, laidLooks := .later }
def TraceGoesUptoCardSaid : Prop := Claim7.holds Tryd.pinned (.plain (OpenSpec.upto traceGoesSpec)) traceGoesUptoCard

/-- THE SECOND FORM's CARD OF 'reparteelaw33.TraceSums'. -/
def traceSumsUptoCard : Claim7 := { stood := { row := traceSumsUptoRow, standIns := [], harness := (true, "6adc477c2da4368bf170d021dffc172f579d8c3b61be681be56638f3f14cc3cb"), looks := true }, kinds := [], alts := [], laidByText := true, laidKinds := [.data, .data, .data, .sentinel, .sentinel], laidTests := true, laidLooks := .later }
def TraceSumsUptoCardSaid : Prop := Claim7.holds Tryd.pinned (.plain (OpenSpec.upto traceSumsSpec)) traceSumsUptoCard

/-- THE SECOND FORM's CARD OF 'reparteelaw33.TraceDiffers'. -/
def traceDiffersUptoCard : Claim7 := { stood := { row := traceDiffersUptoRow, standIns := [], harness := (true, "6adc477c2da4368bf170d021dffc172f579d8c3b61be681be56638f3f14cc3cb"), looks := true }, kinds := [], alts := [], laidByText := true, laidKinds := [.data, .data, .data, .sentinel, .sentinel], laidTests := true, laidLooks := .later }
def TraceDiffersUptoCardSaid : Prop := Claim7.holds Tryd.pinned (.plain (OpenSpec.upto traceDiffersSpec)) traceDiffersUptoCard

/-- THE SECOND FORM's CARD OF 'reparteelaw33.TraceWrong'. -/
def traceWrongUptoCard : Claim7 := { stood := { row := traceWrongUptoRow, standIns := [], harness := (true, "6adc477c2da4368bf170d021dffc172f579d8c3b61be681be56638f3f14cc3cb"), looks := true }, kinds := [], alts := [], laidByText := true, laidKinds := [.data, .data, .data, .sentinel, .sentinel], laidTests := true, laidLooks := .later }
def TraceWrongUptoCardSaid : Prop := Claim7.holds Tryd.pinned (.plain (OpenSpec.upto traceWrongSpec)) traceWrongUptoCard
end Rows
end Go.Proofs.YtcdmdnadilafhaaDoor
