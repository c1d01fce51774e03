/-
  DERIVED. GIVEN WITH THE SEED: THE CARDS: each row of YtblibgbakbhlkaaGreatDoorRows.lean that lists a variable, with what it lists TIED to the program's text (the seventh form; the later family's looks); each row that meets fmt, with fmt's text TOLD by the authors' own Lean function (tested against real Go, not proved from fmt's source: count such statements apart). THE CARD IS WHAT COUNTS. Prove the row's statement (the work); the ties are given (YtblibgbakbhlkaaGreatDoorTie.lean); close each card by the builder's one call (the guide's Derived/Test/ToyasCard.lean, 'card_holds'). Laid BY PROGRAM, IN A SANDBOX (cutbox-door.mjs). By AI agents, Wed Nov 11 2026. No macro, syntax, notation, axiom, sorry.
-/
import Derived.Test.YtblibgbakbhlkaaGreatDoorRows
import GoSem.ClaimSeven
namespace Go.Proofs.YtblibgbakbhlkaaGreatDoor
namespace Rows

/-- THE TIED CARD OF 'reparteelaw32.ScheduleTells'. -/
def scheduleTellsCard : Claim7 := { stood := { row := scheduleTellsRow, standIns := [], harness := (true, "7ea38656f58cf01cca4b0c1e611a3362651516e7a69ac8e67be190af39376c0e"), looks := true }, kinds := [], alts := [], laidByText := true, laidKinds := [.data, .data, .data, .sentinel, .sentinel], laidTests := true, laidLooks := .later }
def ScheduleTellsCardSaid : Prop := Claim7.holds Tryz.pinned (.plain (OpenSpec.ofChange scheduleTellsSpec)) scheduleTellsCard

/-- THE TIED CARD OF 'reparteelaw32.ScheduleSmall'. -/
def scheduleSmallCard : Claim7 := { stood := { row := scheduleSmallRow, standIns := [], harness := (true, "7ea38656f58cf01cca4b0c1e611a3362651516e7a69ac8e67be190af39376c0e"), looks := true }, kinds := [], alts := [], laidByText := true, laidKinds := [.data, .data, .data, .sentinel, .sentinel], laidTests := true, laidLooks := .later }
def ScheduleSmallCardSaid : Prop := Claim7.holds Tryz.pinned (.plain (OpenSpec.ofChange scheduleSmallSpec)) scheduleSmallCard

/-- THE TIED CARD OF 'reparteelaw32.ScheduleWrong'. -/
def scheduleWrongCard : Claim7 := { stood := { row := scheduleWrongRow, standIns := [], harness := (true, "7ea38656f58cf01cca4b0c1e611a3362651516e7a69ac8e67be190af39376c0e"), looks := true }, kinds := [], alts := [], laidByText := true, laidKinds := [.data, .data, .data, .sentinel, .sentinel], laidTests := true, laidLooks := .later }
def ScheduleWrongCardSaid : Prop := Claim7.holds Tryz.pinned (.plain (OpenSpec.ofChange scheduleWrongSpec)) scheduleWrongCard

/-- THE SECOND FORM's CARD OF 'reparteelaw32.ScheduleTells'. -/
def scheduleTellsUptoCard : Claim7 := { stood := { row := scheduleTellsUptoRow, standIns := [], harness := (true, "7ea38656f58cf01cca4b0c1e611a3362651516e7a69ac8e67be190af39376c0e"), looks := true }, kinds := [], alts := [], laidByText := true, laidKinds := [.data, .data, .data, .sentinel, .sentinel], laidTests := true, laidLooks := .later }
def ScheduleTellsUptoCardSaid : Prop := Claim7.holds Tryz.pinned (.plain (OpenSpec.upto scheduleTellsSpec)) scheduleTellsUptoCard

/-- THE SECOND FORM's CARD OF 'reparteelaw32.ScheduleSmall'. -/
def scheduleSmallUptoCard : Claim7 := { stood := { row := scheduleSmallUptoRow, standIns := [], harness := (true, "7ea38656f58cf01cca4b0c1e611a3362651516e7a69ac8e67be190af39376c0e"), looks := true }, kinds := [], alts := [], laidByText := true, laidKinds := [.data, .data, .data, .sentinel, .sentinel], laidTests := true, laidLooks := .later }
def ScheduleSmallUptoCardSaid : Prop := Claim7.holds Tryz.pinned (.plain (OpenSpec.upto scheduleSmallSpec)) scheduleSmallUptoCard

/-- THE SECOND FORM's CARD OF 'reparteelaw32.ScheduleWrong'. -/
def scheduleWrongUptoCard : Claim7 := { stood := { row := scheduleWrongUptoRow, standIns := [], harness := (true, "7ea38656f58cf01cca4b0c1e611a3362651516e7a69ac8e67be190af39376c0e"), looks := true }, kinds := [], alts := [], laidByText := true, laidKinds := [.data, .data, .data, .sentinel, .sentinel], laidTests := true, laidLooks := .later }
def ScheduleWrongUptoCardSaid : Prop := Claim7.holds Tryz.pinned (.plain (OpenSpec.upto scheduleWrongSpec)) scheduleWrongUptoCard
end Rows
end Go.Proofs.YtblibgbakbhlkaaGreatDoor
