/-
  DERIVED. GIVEN WITH THE SEED: THE CARDS: each row of YtnoccnalocdldaaGreatDoorRows.lean that lists a variable, with what it lists TIED to the program's text (the seventh form; the later family's looks); each row that meets fmt, with fmt's text TOLD by the authors' own Lean function (tested against real Go, not proved from fmt's source: count such statements apart). THE CARD IS WHAT COUNTS. Prove the row's statement (the work); the ties are given (YtnoccnalocdldaaGreatDoorTie.lean); close each card by the builder's one call (the guide's Derived/Test/ToyasCard.lean, 'card_holds'). Laid BY PROGRAM, IN A SANDBOX (cutbox-door.mjs). By AI agents, Wed Nov 11 2026. No macro, syntax, notation, axiom, sorry.
-/
import Derived.Test.YtnoccnalocdldaaGreatDoorRows
import GoSem.ClaimSeven
namespace Go.Proofs.YtnoccnalocdldaaGreatDoor
namespace Rows

/-- THE TIED CARD OF 'reparteelaw09.RxreadJoins'. -/
def rxreadJoinsCard : Claim7 := { stood := { row := rxreadJoinsRow, standIns := [], harness := (true, "978a3f44b59fddea0a978660b435438489edc2062dfa36400188c925fdaae269"), looks := false }, kinds := [], alts := [], laidByText := true, laidKinds := [.data, .pinned], laidTests := true, laidLooks := .later }
def RxreadJoinsCardSaid : Prop := Claim7.holds Tryz.pinned (.plain (OpenSpec.ofChange rxreadJoinsSpec)) rxreadJoinsCard

/-- THE TIED CARD OF 'reparteelaw09.RxreadCounts'. -/
def rxreadCountsCard : Claim7 := { stood := { row := rxreadCountsRow, standIns := [], harness := (true, "978a3f44b59fddea0a978660b435438489edc2062dfa36400188c925fdaae269"), looks := false }, kinds := [], alts := [], laidByText := true, laidKinds := [.data, .pinned], laidTests := true, laidLooks := .later }
def RxreadCountsCardSaid : Prop := Claim7.holds Tryz.pinned (.plain (OpenSpec.ofChange rxreadCountsSpec)) rxreadCountsCard

/-- THE TIED CARD OF 'reparteelaw09.RxreadWrong'. -/
def rxreadWrongCard : Claim7 := { stood := { row := rxreadWrongRow, standIns := [], harness := (true, "978a3f44b59fddea0a978660b435438489edc2062dfa36400188c925fdaae269"), looks := false }, kinds := [], alts := [], laidByText := true, laidKinds := [.data, .pinned], laidTests := true, laidLooks := .later }
def RxreadWrongCardSaid : Prop := Claim7.holds Tryz.pinned (.plain (OpenSpec.ofChange rxreadWrongSpec)) rxreadWrongCard

/-- THE TIED CARD OF 'reparteelaw09.RxreadSmall'. -/
def rxreadSmallCard : Claim7 := { stood := { row := rxreadSmallRow, standIns := [], harness := (true, "978a3f44b59fddea0a978660b435438489edc2062dfa36400188c925fdaae269"), looks := false }, kinds := [], alts := [], laidByText := true, laidKinds := [.data, .pinned], laidTests := true, laidLooks := .later }
def RxreadSmallCardSaid : Prop := Claim7.holds Tryz.pinned (.plain (OpenSpec.ofChange rxreadSmallSpec)) rxreadSmallCard

/-- THE SECOND FORM's CARD OF 'reparteelaw09.RxreadJoins'. -/
def rxreadJoinsUptoCard : Claim7 := { stood := { row := rxreadJoinsUptoRow, standIns := [], harness := (true, "978a3f44b59fddea0a978660b435438489edc2062dfa36400188c925fdaae269"), looks := false }, kinds := [], alts := [], laidByText := true, laidKinds := [.data, .pinned], laidTests := true, laidLooks := .later }
def RxreadJoinsUptoCardSaid : Prop := Claim7.holds Tryz.pinned (.plain (OpenSpec.upto rxreadJoinsSpec)) rxreadJoinsUptoCard

/-- THE SECOND FORM's CARD OF 'reparteelaw09.RxreadCounts'. -/
def rxreadCountsUptoCard : Claim7 := { stood := { row := rxreadCountsUptoRow, standIns := [], harness := (true, "978a3f44b59fddea0a978660b435438489edc2062dfa36400188c925fdaae269"), looks := false }, kinds := [], alts := [], laidByText := true, laidKinds := [.data, .pinned], laidTests := true, laidLooks := .later }
def RxreadCountsUptoCardSaid : Prop := Claim7.holds Tryz.pinned (.plain (OpenSpec.upto rxreadCountsSpec)) rxreadCountsUptoCard

/-- THE SECOND FORM's CARD OF 'reparteelaw09.RxreadWrong'. -/
def rxreadWrongUptoCard : Claim7 := { stood := { row := rxreadWrongUptoRow, standIns := [], harness := (true, "978a3f44b59fddea0a978660b435438489edc2062dfa36400188c925fdaae269"), looks := false }, kinds := [], alts := [], laidByText := true, laidKinds := [.data, .pinned], laidTests := true, laidLooks := .later }
def RxreadWrongUptoCardSaid : Prop := Claim7.holds Tryz.pinned (.plain (OpenSpec.upto rxreadWrongSpec)) rxreadWrongUptoCard

/-- THE SECOND FORM's CARD OF 'reparteelaw09.RxreadSmall'. -/
def rxreadSmallUptoCard : Claim7 := { stood := { row := rxreadSmallUptoRow, standIns := [], harness := (true, "978a3f44b59fddea0a978660b435438489edc2062dfa36400188c925fdaae269"), looks := false }, kinds := [], alts := [], laidByText := true, laidKinds := [.data, .pinned], laidTests := true, laidLooks := .later }
def RxreadSmallUptoCardSaid : Prop := Claim7.holds Tryz.pinned (.plain (OpenSpec.upto rxreadSmallSpec)) rxreadSmallUptoCard
end Rows
end Go.Proofs.YtnoccnalocdldaaGreatDoor
