/-
  DERIVED. GIVEN WITH THE SEED: THE CARDS: each row of YtnoccnalocdldaaDoorRows.lean that lists a variable, with what it lists TIED to the program's text (the seventh form; the later family's looks); each row that meets fmt, with fmt's text TOLD by the authors' own Lean function (tested against real Go, not proved from fmt's source: count such statements apart). THE CARD IS WHAT COUNTS. Prove the row's statement (the work); the ties are given (YtnoccnalocdldaaDoorTie.lean); close each card by the builder's one call (the guide's Derived/Test/ToyasCard.lean, 'card_holds'). Laid BY PROGRAM, IN A SANDBOX (cutbox-door.mjs). By AI agents, Wed Nov 11 2026. No macro, syntax, notation, axiom, sorry.
-/
import Derived.Test.YtnoccnalocdldaaDoorRows
import GoSem.ClaimSeven
namespace Go.Proofs.YtnoccnalocdldaaDoor
namespace Rows

/-- THE TIED CARD OF 'reparteelaw09.RxreadBrackets'. -/
def rxreadBracketsCard : Claim7 := { stood := { row := rxreadBracketsRow, standIns := [], harness := (true, "1f6a05b9e1cb067fa71eb3eff6af42f534da8190dca4e69fad110c4cc7f307ad"), looks := false }, kinds := [], alts := [], laidByText := true, laidKinds := [.data, .pinned], laidTests := true, laidLooks := .later }
def RxreadBracketsCardSaid : Prop := Claim7.holds Tryd.pinned (.plain (OpenSpec.ofChange rxreadBracketsSpec)) rxreadBracketsCard

/-- THE TIED CARD OF 'reparteelaw09.RxreadPrefix'. -/
def rxreadPrefixCard : Claim7 := { stood := { row := rxreadPrefixRow, standIns := [], harness := (true, "1f6a05b9e1cb067fa71eb3eff6af42f534da8190dca4e69fad110c4cc7f307ad"), looks := false }, kinds := [], alts := [], laidByText := true, laidKinds := [.data, .pinned], laidTests := true, laidLooks := .later }
def RxreadPrefixCardSaid : Prop := Claim7.holds Tryd.pinned (.plain (OpenSpec.ofChange rxreadPrefixSpec)) rxreadPrefixCard

/-- THE SECOND FORM's CARD OF 'reparteelaw09.RxreadBrackets'. -/
def rxreadBracketsUptoCard : Claim7 := { stood := { row := rxreadBracketsUptoRow, standIns := [], harness := (true, "1f6a05b9e1cb067fa71eb3eff6af42f534da8190dca4e69fad110c4cc7f307ad"), looks := false }, kinds := [], alts := [], laidByText := true, laidKinds := [.data, .pinned], laidTests := true, laidLooks := .later }
def RxreadBracketsUptoCardSaid : Prop := Claim7.holds Tryd.pinned (.plain (OpenSpec.upto rxreadBracketsSpec)) rxreadBracketsUptoCard

/-- THE SECOND FORM's CARD OF 'reparteelaw09.RxreadPrefix'. -/
def rxreadPrefixUptoCard : Claim7 := { stood := { row := rxreadPrefixUptoRow, standIns := [], harness := (true, "1f6a05b9e1cb067fa71eb3eff6af42f534da8190dca4e69fad110c4cc7f307ad"), looks := false }, kinds := [], alts := [], laidByText := true, laidKinds := [.data, .pinned], laidTests := true, laidLooks := .later }
def RxreadPrefixUptoCardSaid : Prop := Claim7.holds Tryd.pinned (.plain (OpenSpec.upto rxreadPrefixSpec)) rxreadPrefixUptoCard
end Rows
end Go.Proofs.YtnoccnalocdldaaDoor
