/-
  DERIVED. GIVEN WITH THE SEED: THE CARDS: each row of YtjkcellkmmfkdaaGreatDoorRows.lean that lists a variable, with what it lists TIED to the program's text (the seventh form; the later family's looks); each row that meets fmt, with fmt's text TOLD by the authors' own Lean function (tested against real Go, not proved from fmt's source: count such statements apart). THE CARD IS WHAT COUNTS. Prove the row's statement (the work); the ties are given (YtjkcellkmmfkdaaGreatDoorTie.lean); close each card by the builder's one call (the guide's Derived/Test/ToyasCard.lean, 'card_holds'). Laid BY PROGRAM, IN A SANDBOX (cutbox-door.mjs). By AI agents, Wed Nov 11 2026. No macro, syntax, notation, axiom, sorry.
-/
import Derived.Test.YtjkcellkmmfkdaaGreatDoorRows
import GoSem.ClaimSeven
namespace Go.Proofs.YtjkcellkmmfkdaaGreatDoor
namespace Rows

/-- THE TIED CARD OF 'reparteelaw10.RxprintSmall'. -/
def rxprintSmallCard : Claim7 := { stood := { row := rxprintSmallRow, standIns := [], harness := (true, "0004189f6fb819856d946ff194c78be89592a7085de29f12f1e1e6be06ed5ea5"), looks := false }, kinds := [], alts := [], laidByText := true, laidKinds := [.data, .data, .data, .data, .pinned], laidTests := true, laidLooks := .later }
def RxprintSmallCardSaid : Prop := Claim7.holds Tryz.pinned (.plain (OpenSpec.ofChange rxprintSmallSpec)) rxprintSmallCard

/-- THE TIED CARD OF 'reparteelaw10.RxprintWrong'. -/
def rxprintWrongCard : Claim7 := { stood := { row := rxprintWrongRow, standIns := [], harness := (true, "0004189f6fb819856d946ff194c78be89592a7085de29f12f1e1e6be06ed5ea5"), looks := false }, kinds := [], alts := [], laidByText := true, laidKinds := [.data, .data, .data, .data, .pinned], laidTests := true, laidLooks := .later }
def RxprintWrongCardSaid : Prop := Claim7.holds Tryz.pinned (.plain (OpenSpec.ofChange rxprintWrongSpec)) rxprintWrongCard

/-- THE TIED CARD OF 'reparteelaw10.RxprintTells'. -/
def rxprintTellsCard : Claim7 := { stood := { row := rxprintTellsRow, standIns := [], harness := (true, "0004189f6fb819856d946ff194c78be89592a7085de29f12f1e1e6be06ed5ea5"), looks := false }, kinds := [], alts := [], laidByText := true, laidKinds := [.data, .data, .data, .data, .pinned], laidTests := true, laidLooks := .later }
def RxprintTellsCardSaid : Prop := Claim7.holds Tryz.pinned (.plain (OpenSpec.ofChange rxprintTellsSpec)) rxprintTellsCard

/-- THE TIED CARD OF 'reparteelaw10.RxprintReads'. -/
def rxprintReadsCard : Claim7 := { stood := { row := rxprintReadsRow, standIns := [], harness := (true, "0004189f6fb819856d946ff194c78be89592a7085de29f12f1e1e6be06ed5ea5"), looks := false }, kinds := [], alts := [], laidByText := true, laidKinds := [.data, .data, .data, .data, .pinned], laidTests := true, laidLooks := .later }
def RxprintReadsCardSaid : Prop := Claim7.holds Tryz.pinned (.plain (OpenSpec.ofChange rxprintReadsSpec)) rxprintReadsCard

/-- THE TIED CARD OF 'reparteelaw10.RxprintOnce'. -/
def rxprintOnceCard : Claim7 := { stood := { row := rxprintOnceRow, standIns := [], harness := (true, "0004189f6fb819856d946ff194c78be89592a7085de29f12f1e1e6be06ed5ea5"), looks := false }, kinds := [], alts := [], laidByText := true, laidKinds := [.data, .data, .data, .data, .pinned], laidTests := true, laidLooks := .later }
def RxprintOnceCardSaid : Prop := Claim7.holds Tryz.pinned (.plain (OpenSpec.ofChange rxprintOnceSpec)) rxprintOnceCard

/-- THE TIED CARD OF 'reparteelaw10.RxprintSets'. -/
def rxprintSetsCard : Claim7 := { stood := { row := rxprintSetsRow, standIns := [], harness := (true, "0004189f6fb819856d946ff194c78be89592a7085de29f12f1e1e6be06ed5ea5"), looks := false }, kinds := [], alts := [], laidByText := true, laidKinds := [.data, .data, .data, .data, .pinned], laidTests := true, laidLooks := .later }
def RxprintSetsCardSaid : Prop := Claim7.holds Tryz.pinned (.plain (OpenSpec.ofChange rxprintSetsSpec)) rxprintSetsCard

/-- THE TIED CARD OF 'reparteelaw10.RxprintBack'. -/
def rxprintBackCard : Claim7 := { stood := { row := rxprintBackRow, standIns := [], harness := (true, "0004189f6fb819856d946ff194c78be89592a7085de29f12f1e1e6be06ed5ea5"), looks := false }, kinds := [], alts := [], laidByText := true, laidKinds := [.data, .data, .data, .data, .pinned], laidTests := true, laidLooks := .later }
def RxprintBackCardSaid : Prop := Claim7.holds Tryz.pinned (.plain (OpenSpec.ofChange rxprintBackSpec)) rxprintBackCard

/-- THE TIED CARD OF 'reparteelaw10.RxprintLiterals'. -/
def rxprintLiteralsCard : Claim7 := { stood := { row := rxprintLiteralsRow, standIns := [], harness := (true, "0004189f6fb819856d946ff194c78be89592a7085de29f12f1e1e6be06ed5ea5"), looks := false }, kinds := [], alts := [], laidByText := true, laidKinds := [.data, .data, .data, .data, .pinned], laidTests := true, laidLooks := .later }
def RxprintLiteralsCardSaid : Prop := Claim7.holds Tryz.pinned (.plain (OpenSpec.ofChange rxprintLiteralsSpec)) rxprintLiteralsCard

/-- THE SECOND FORM's CARD OF 'reparteelaw10.RxprintSmall'. -/
def rxprintSmallUptoCard : Claim7 := { stood := { row := rxprintSmallUptoRow, standIns := [], harness := (true, "0004189f6fb819856d946ff194c78be89592a7085de29f12f1e1e6be06ed5ea5"), looks := false }, kinds := [], alts := [], laidByText := true, laidKinds := [.data, .data, .data, .data, .pinned], laidTests := true, laidLooks := .later }
def RxprintSmallUptoCardSaid : Prop := Claim7.holds Tryz.pinned (.plain (OpenSpec.upto rxprintSmallSpec)) rxprintSmallUptoCard

/-- THE SECOND FORM's CARD OF 'reparteelaw10.RxprintWrong'. -/
def rxprintWrongUptoCard : Claim7 := { stood := { row := rxprintWrongUptoRow, standIns := [], harness := (true, "0004189f6fb819856d946ff194c78be89592a7085de29f12f1e1e6be06ed5ea5"), looks := false }, kinds := [], alts := [], laidByText := true, laidKinds := [.data, .data, .data, .data, .pinned], laidTests := true, laidLooks := .later }
def RxprintWrongUptoCardSaid : Prop := Claim7.holds Tryz.pinned (.plain (OpenSpec.upto rxprintWrongSpec)) rxprintWrongUptoCard

/-- THE SECOND FORM's CARD OF 'reparteelaw10.RxprintTells'. -/
def rxprintTellsUptoCard : Claim7 := { stood := { row := rxprintTellsUptoRow, standIns := [], harness := (true, "0004189f6fb819856d946ff194c78be89592a7085de29f12f1e1e6be06ed5ea5"), looks := false }, kinds := [], alts := [], laidByText := true, laidKinds := [.data, .data, .data, .data, .pinned], laidTests := true, laidLooks := .later }
def RxprintTellsUptoCardSaid : Prop := Claim7.holds Tryz.pinned (.plain (OpenSpec.upto rxprintTellsSpec)) rxprintTellsUptoCard

/-- THE SECOND FORM's CARD OF 'reparteelaw10.RxprintReads'. -/
def rxprintReadsUptoCard : Claim7 := { stood := { row := rxprintReadsUptoRow, standIns := [], harness := (true, "0004189f6fb819856d946ff194c78be89592a7085de29f12f1e1e6be06ed5ea5"), looks := false }, kinds := [], alts := [], laidByText := true, laidKinds := [.data, .data, .data, .data, .pinned], laidTests := true, laidLooks := .later }
def RxprintReadsUptoCardSaid : Prop := Claim7.holds Tryz.pinned (.plain (OpenSpec.upto rxprintReadsSpec)) rxprintReadsUptoCard

/-- THE SECOND FORM's CARD OF 'reparteelaw10.RxprintOnce'. -/
def rxprintOnceUptoCard : Claim7 := { stood := { row := rxprintOnceUptoRow, standIns := [], harness := (true, "0004189f6fb819856d946ff194c78be89592a7085de29f12f1e1e6be06ed5ea5"), looks := false }, kinds := [], alts := [], laidByText := true, laidKinds := [.data, .data, .data, .data, .pinned], laidTests := true, laidLooks := .later }
def RxprintOnceUptoCardSaid : Prop := Claim7.holds Tryz.pinned (.plain (OpenSpec.upto rxprintOnceSpec)) rxprintOnceUptoCard

/-- THE SECOND FORM's CARD OF 'reparteelaw10.RxprintSets'. -/
def rxprintSetsUptoCard : Claim7 := { stood := { row := rxprintSetsUptoRow, standIns := [], harness := (true, "0004189f6fb819856d946ff194c78be89592a7085de29f12f1e1e6be06ed5ea5"), looks := false }, kinds := [], alts := [], laidByText := true, laidKinds := [.data, .data, .data, .data, .pinned], laidTests := true, laidLooks := .later }
def RxprintSetsUptoCardSaid : Prop := Claim7.holds Tryz.pinned (.plain (OpenSpec.upto rxprintSetsSpec)) rxprintSetsUptoCard

/-- THE SECOND FORM's CARD OF 'reparteelaw10.RxprintBack'. -/
def rxprintBackUptoCard : Claim7 := { stood := { row := rxprintBackUptoRow, standIns := [], harness := (true, "0004189f6fb819856d946ff194c78be89592a7085de29f12f1e1e6be06ed5ea5"), looks := false }, kinds := [], alts := [], laidByText := true, laidKinds := [.data, .data, .data, .data, .pinned], laidTests := true, laidLooks := .later }
def RxprintBackUptoCardSaid : Prop := Claim7.holds Tryz.pinned (.plain (OpenSpec.upto rxprintBackSpec)) rxprintBackUptoCard

/-- THE SECOND FORM's CARD OF 'reparteelaw10.RxprintLiterals'. -/
def rxprintLiteralsUptoCard : Claim7 := { stood := { row := rxprintLiteralsUptoRow, standIns := [], harness := (true, "0004189f6fb819856d946ff194c78be89592a7085de29f12f1e1e6be06ed5ea5"), looks := false }, kinds := [], alts := [], laidByText := true, laidKinds := [.data, .data, .data, .data, .pinned], laidTests := true, laidLooks := .later }
def RxprintLiteralsUptoCardSaid : Prop := Claim7.holds Tryz.pinned (.plain (OpenSpec.upto rxprintLiteralsSpec)) rxprintLiteralsUptoCard
end Rows
end Go.Proofs.YtjkcellkmmfkdaaGreatDoor
