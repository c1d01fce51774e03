/-
  DERIVED. GIVEN WITH THE SEED: THE CARDS: each row of YtcdmdnadilafhaaGreatDoorRows.lean that lists a variable, with what it lists TIED to the program's text (the seventh form; the later family's looks); each row that meets fmt, with fmt's text TOLD by the authors' own Lean function (tested against real Go, not proved from fmt's source: count such statements apart). THE CARD IS WHAT COUNTS. Prove the row's statement (the work); the ties are given (YtcdmdnadilafhaaGreatDoorTie.lean); close each card by the builder's one call (the guide's Derived/Test/ToyasCard.lean, 'card_holds'). Laid BY PROGRAM, IN A SANDBOX (cutbox-door.mjs). By AI agents, Wed Nov 11 2026. No macro, syntax, notation, axiom, sorry.
-/
import Derived.Test.YtcdmdnadilafhaaGreatDoorRows
import GoSem.ClaimSeven
namespace Go.Proofs.YtcdmdnadilafhaaGreatDoor
namespace Rows

/-- THE TIED CARD OF 'reparteelaw33.TraceReads'. -/
def traceReadsCard : Claim7 := { stood := { row := traceReadsRow, standIns := [], harness := (true, "09a7a2e189519c1c10b76128013ef82c656e5a431cec99457419d365fd06d6a8"), looks := true }, kinds := [], alts := [], laidByText := true, laidKinds := [.data, .data, .data, .sentinel, .sentinel], laidTests := true, laidLooks := .later }
def TraceReadsCardSaid : Prop := Claim7.holds Tryz.pinned (.plain (OpenSpec.ofChange traceReadsSpec)) traceReadsCard

/-- THE TIED CARD OF 'reparteelaw33.TraceTells'. -/
def traceTellsCard : Claim7 := { stood := { row := traceTellsRow, standIns := [], harness := (true, "09a7a2e189519c1c10b76128013ef82c656e5a431cec99457419d365fd06d6a8"), looks := true }, kinds := [], alts := [], laidByText := true, laidKinds := [.data, .data, .data, .sentinel, .sentinel], laidTests := true, laidLooks := .later }
def TraceTellsCardSaid : Prop := Claim7.holds Tryz.pinned (.plain (OpenSpec.ofChange traceTellsSpec)) traceTellsCard

/-- THE TIED CARD OF 'reparteelaw33.TraceSmall'. -/
def traceSmallCard : Claim7 := { stood := { row := traceSmallRow, standIns := [], harness := (true, "09a7a2e189519c1c10b76128013ef82c656e5a431cec99457419d365fd06d6a8"), looks := true }, kinds := [], alts := [], laidByText := true, laidKinds := [.data, .data, .data, .sentinel, .sentinel], laidTests := true, laidLooks := .later }
def TraceSmallCardSaid : Prop := Claim7.holds Tryz.pinned (.plain (OpenSpec.ofChange traceSmallSpec)) traceSmallCard

/-- THE SECOND FORM's CARD OF 'reparteelaw33.TraceReads'. -/
def traceReadsUptoCard : Claim7 := { stood := { row := traceReadsUptoRow, standIns := [], harness := (true, "09a7a2e189519c1c10b76128013ef82c656e5a431cec99457419d365fd06d6a8"), looks := true }, kinds := [], alts := [], laidByText := true, laidKinds := [.data, .data, .data, .sentinel, .sentinel], laidTests := true, laidLooks := .later }
def TraceReadsUptoCardSaid : Prop := Claim7.holds Tryz.pinned (.plain (OpenSpec.upto traceReadsSpec)) traceReadsUptoCard

/-- THE SECOND FORM's CARD OF 'reparteelaw33.TraceTells'. -/
def traceTellsUptoCard : Claim7 := { stood := { row := traceTellsUptoRow, standIns := [], harness := (true, "09a7a2e189519c1c10b76128013ef82c656e5a431cec99457419d365fd06d6a8"), looks := true }, kinds := [], alts := [], laidByText := true, laidKinds := [.data, .data, .data, .sentinel, .sentinel], laidTests := true, laidLooks := .later }
def TraceTellsUptoCardSaid : Prop := Claim7.holds Tryz.pinned (.plain (OpenSpec.upto traceTellsSpec)) traceTellsUptoCard

/-- THE SECOND FORM's CARD OF 'reparteelaw33.TraceSmall'. -/
def traceSmallUptoCard : Claim7 := { stood := { row := traceSmallUptoRow, standIns := [], harness := (true, "09a7a2e189519c1c10b76128013ef82c656e5a431cec99457419d365fd06d6a8"), looks := true }, kinds := [], alts := [], laidByText := true, laidKinds := [.data, .data, .data, .sentinel, .sentinel], laidTests := true, laidLooks := .later }
def TraceSmallUptoCardSaid : Prop := Claim7.holds Tryz.pinned (.plain (OpenSpec.upto traceSmallSpec)) traceSmallUptoCard
end Rows
end Go.Proofs.YtcdmdnadilafhaaGreatDoor
