/-
  No cell of these rows narrows 'for every input' (looked for: loops, veiled, ifaces, maps, wideKeys, modest, calm, conditions, laid).
  DERIVED. THE GIVEN ROWS OF THIS SEAT. 7 by the template 'for every input the law returns true; each argument reads behind the call as it read before'; 0 by the template 'total and deterministic' (their statements: YtjmhbbbpjbgmjaaTotals.lean).
  GIVEN WITH THE SEED: the statements are not yours to turn. If you find one false, say at which input.
  Laid BY PROGRAM, IN A SANDBOX (cutbox-rows.mjs): the forced cells as the released guide's own fill.sh prints them over the translation 7645bb7e02f108fe… (all of the seat's roots in one cut). By AI agents, Wed Nov 11 2026. No macro, syntax, notation, axiom, sorry.
-/
import Derived.Test.YtjmhbbbpjbgmjaaChecked
import GoSem.Claim
import GoSem.ClaimJoined
import GoSem.ClaimMapViews
import Derived.JoinedTies
import Derived.KernelRfl
namespace Go.Proofs.Ytjmhbbbpjbgmjaa
/- THE CELL 'sum', in the pinned program and in every row, IS THE sha256 OF THE DUMP (.gsa) THAT YtjmhbbbpjbgmjaaProg.lean LOADS. Nothing in Lean hashes anything: it is a label: what it is worth is what the hold of that sum in a sandbox is worth. -/
noncomputable def Try.pinned : Pinned := { name := "ytjmhbbbpjbgmjaa", sum := "7645bb7e02f108fec6a03d40781cbc823139a4c709becb895a72b71ff5bac734", checked := Try.checked }
namespace Rows
def none {H : Type} : Left H := { results := [], args := [] }

/-- 'reparteelaw01.SetsOrder': WHATEVER THE INPUT: true; the input reads as it did. -/
def setsOrderSpec : ChangeSpec := { name := "setsOrder", fn := fun _ => fun
  | [d1, d2, d3, d4] => { results := [.lit (.bool true)], args := [d1, d2, d3, d4] }
  | _ => none }
def setsOrderRow : OpenClaim := { program := "ytjmhbbbpjbgmjaa", sum := "7645bb7e02f108fec6a03d40781cbc823139a4c709becb895a72b71ff5bac734", func := "repartee/reparteelaw01.SetsOrder", spec := "setsOrder", unfollowed := true, recurses := true, apart := false }
def SetsOrderSaid : Prop := setsOrderRow.holds Try.pinned (OpenSpec.ofChange setsOrderSpec)

/-- ITS FALSE NEIGHBOUR: 'it returns false'. Refute it at one input. -/
def setsOrderWrong : ChangeSpec := { name := "setsOrder", fn := fun _ => fun
  | [d1, d2, d3, d4] => { results := [.lit (.bool false)], args := [d1, d2, d3, d4] }
  | _ => none }
def SetsOrderWrongFalsely : Prop := setsOrderRow.holds Try.pinned (OpenSpec.ofChange setsOrderWrong)

/-- 'reparteelaw01.SetsTells': WHATEVER THE INPUT: true; the input reads as it did. -/
def setsTellsSpec : ChangeSpec := { name := "setsTells", fn := fun _ => fun
  | [d1, d2, d3, d4] => { results := [.lit (.bool true)], args := [d1, d2, d3, d4] }
  | _ => none }
def setsTellsRow : OpenClaim := { program := "ytjmhbbbpjbgmjaa", sum := "7645bb7e02f108fec6a03d40781cbc823139a4c709becb895a72b71ff5bac734", func := "repartee/reparteelaw01.SetsTells", spec := "setsTells", unfollowed := true, recurses := true, apart := false }
def SetsTellsSaid : Prop := setsTellsRow.holds Try.pinned (OpenSpec.ofChange setsTellsSpec)

/-- ITS FALSE NEIGHBOUR: 'it returns false'. Refute it at one input. -/
def setsTellsWrong : ChangeSpec := { name := "setsTells", fn := fun _ => fun
  | [d1, d2, d3, d4] => { results := [.lit (.bool false)], args := [d1, d2, d3, d4] }
  | _ => none }
def SetsTellsWrongFalsely : Prop := setsTellsRow.holds Try.pinned (OpenSpec.ofChange setsTellsWrong)

/-- 'reparteelaw01.SetsAlgebra': WHATEVER THE INPUT: true; the input reads as it did. -/
def setsAlgebraSpec : ChangeSpec := { name := "setsAlgebra", fn := fun _ => fun
  | [d1, d2, d3, d4] => { results := [.lit (.bool true)], args := [d1, d2, d3, d4] }
  | _ => none }
def setsAlgebraRow : OpenClaim := { program := "ytjmhbbbpjbgmjaa", sum := "7645bb7e02f108fec6a03d40781cbc823139a4c709becb895a72b71ff5bac734", func := "repartee/reparteelaw01.SetsAlgebra", spec := "setsAlgebra", unfollowed := true, recurses := true, apart := false }
def SetsAlgebraSaid : Prop := setsAlgebraRow.holds Try.pinned (OpenSpec.ofChange setsAlgebraSpec)

/-- ITS FALSE NEIGHBOUR: 'it returns false'. Refute it at one input. -/
def setsAlgebraWrong : ChangeSpec := { name := "setsAlgebra", fn := fun _ => fun
  | [d1, d2, d3, d4] => { results := [.lit (.bool false)], args := [d1, d2, d3, d4] }
  | _ => none }
def SetsAlgebraWrongFalsely : Prop := setsAlgebraRow.holds Try.pinned (OpenSpec.ofChange setsAlgebraWrong)

/-- 'reparteelaw01.SetsParts': WHATEVER THE INPUT: true; the input reads as it did. -/
def setsPartsSpec : ChangeSpec := { name := "setsParts", fn := fun _ => fun
  | [d] => { results := [.lit (.bool true)], args := [d] }
  | _ => none }
def setsPartsRow : OpenClaim := { program := "ytjmhbbbpjbgmjaa", sum := "7645bb7e02f108fec6a03d40781cbc823139a4c709becb895a72b71ff5bac734", func := "repartee/reparteelaw01.SetsParts", spec := "setsParts", unfollowed := true, recurses := true, apart := false }
def SetsPartsSaid : Prop := setsPartsRow.holds Try.pinned (OpenSpec.ofChange setsPartsSpec)

/-- ITS FALSE NEIGHBOUR: 'it returns false'. Refute it at one input. -/
def setsPartsWrong : ChangeSpec := { name := "setsParts", fn := fun _ => fun
  | [d] => { results := [.lit (.bool false)], args := [d] }
  | _ => none }
def SetsPartsWrongFalsely : Prop := setsPartsRow.holds Try.pinned (OpenSpec.ofChange setsPartsWrong)

/-- 'reparteelaw01.SetsLists': WHATEVER THE INPUT: true; the input reads as it did. -/
def setsListsSpec : ChangeSpec := { name := "setsLists", fn := fun _ => fun
  | [d1, d2] => { results := [.lit (.bool true)], args := [d1, d2] }
  | _ => none }
def setsListsRow : OpenClaim := { program := "ytjmhbbbpjbgmjaa", sum := "7645bb7e02f108fec6a03d40781cbc823139a4c709becb895a72b71ff5bac734", func := "repartee/reparteelaw01.SetsLists", spec := "setsLists", unfollowed := true, recurses := true, apart := false }
def SetsListsSaid : Prop := setsListsRow.holds Try.pinned (OpenSpec.ofChange setsListsSpec)

/-- ITS FALSE NEIGHBOUR: 'it returns false'. Refute it at one input. -/
def setsListsWrong : ChangeSpec := { name := "setsLists", fn := fun _ => fun
  | [d1, d2] => { results := [.lit (.bool false)], args := [d1, d2] }
  | _ => none }
def SetsListsWrongFalsely : Prop := setsListsRow.holds Try.pinned (OpenSpec.ofChange setsListsWrong)

/-- 'reparteelaw01.SetsBack': WHATEVER THE INPUT: true; the input reads as it did. -/
def setsBackSpec : ChangeSpec := { name := "setsBack", fn := fun _ => fun
  | [d] => { results := [.lit (.bool true)], args := [d] }
  | _ => none }
def setsBackRow : OpenClaim := { program := "ytjmhbbbpjbgmjaa", sum := "7645bb7e02f108fec6a03d40781cbc823139a4c709becb895a72b71ff5bac734", func := "repartee/reparteelaw01.SetsBack", spec := "setsBack", unfollowed := true, recurses := true, apart := false }
def SetsBackSaid : Prop := setsBackRow.holds Try.pinned (OpenSpec.ofChange setsBackSpec)

/-- ITS FALSE NEIGHBOUR: 'it returns false'. Refute it at one input. -/
def setsBackWrong : ChangeSpec := { name := "setsBack", fn := fun _ => fun
  | [d] => { results := [.lit (.bool false)], args := [d] }
  | _ => none }
def SetsBackWrongFalsely : Prop := setsBackRow.holds Try.pinned (OpenSpec.ofChange setsBackWrong)

/-- 'reparteelaw01.SetsSmall': WHATEVER THE INPUT: true; the input reads as it did. -/
def setsSmallSpec : ChangeSpec := { name := "setsSmall", fn := fun _ => fun
  | [] => { results := [.lit (.bool true)], args := [] }
  | _ => none }
def setsSmallRow : OpenClaim := { program := "ytjmhbbbpjbgmjaa", sum := "7645bb7e02f108fec6a03d40781cbc823139a4c709becb895a72b71ff5bac734", func := "repartee/reparteelaw01.SetsSmall", spec := "setsSmall", unfollowed := true, recurses := true, apart := false }
def SetsSmallSaid : Prop := setsSmallRow.holds Try.pinned (OpenSpec.ofChange setsSmallSpec)

/-- ITS FALSE NEIGHBOUR: 'it returns false'. Refute it at one input. -/
def setsSmallWrong : ChangeSpec := { name := "setsSmall", fn := fun _ => fun
  | [] => { results := [.lit (.bool false)], args := [] }
  | _ => none }
def SetsSmallWrongFalsely : Prop := setsSmallRow.holds Try.pinned (OpenSpec.ofChange setsSmallWrong)

/- THE SECOND FORM. 'bulk': how many values and letters a reading holds, each counted each time it is reached (what is shared counts as often as it is met; a slice's spare places count too). A statement '..UptoSaid' is the law's where the arguments, and the package variables that the reading takes, are together of bulk at most 1048576: NARROWER than '..Said'. Prove '..Said' where nothing that the law and all that it calls make is longer than what came in: it says more and counts as full. Else prove '..UptoSaid'. A law counts once. -/
mutual
def uptoBulk {H : Type} : DataW H → Nat
  | .lit (.string bytes) => bytes.length + 1
  | .lit _ => 1
  | .nil => 1
  | .ptr d => uptoBulk d + 1
  | .slice elems spare => uptoBulkAll elems + uptoBulkAll spare + 1
  | .agg parts => uptoBulkAll parts + 1
  | .iface _ d => uptoBulk d + 1
  | .map entries => uptoBulkEntries entries + 1
  | .held _ => 1
def uptoBulkAll {H : Type} : List (DataW H) → Nat
  | [] => 0
  | d :: r => uptoBulk d + uptoBulkAll r
def uptoBulkEntries {H : Type} : List (Lit × DataW H) → Nat
  | [] => 0
  | x :: r => uptoBulkEntry x + uptoBulkEntries r
def uptoBulkEntry {H : Type} : Lit × DataW H → Nat
  | (.string bytes, d) => bytes.length + uptoBulk d + 1
  | (_, d) => uptoBulk d + 1
 end
def uptoSmall : (H : Type) → List (DataW H) → Bool := fun _ ds => decide (uptoBulkAll ds ≤ 1048576)
def OpenSpec.upto (s : _root_.Go.ChangeSpec) : _root_.Go.OpenSpec := { _root_.Go.OpenSpec.ofChange s with cond := some uptoSmall }

/-- 'reparteelaw01.SetsOrder', WHERE WHAT IT READS IS OF BULK AT MOST 1048576: true; the input reads as it did. -/
def setsOrderUptoRow : OpenClaim := { program := "ytjmhbbbpjbgmjaa", sum := "7645bb7e02f108fec6a03d40781cbc823139a4c709becb895a72b71ff5bac734", func := "repartee/reparteelaw01.SetsOrder", spec := "setsOrder", unfollowed := true, recurses := true, apart := false, narrowed := true }
def SetsOrderUptoSaid : Prop := setsOrderUptoRow.holds Try.pinned (OpenSpec.upto setsOrderSpec)

/-- 'reparteelaw01.SetsTells', WHERE WHAT IT READS IS OF BULK AT MOST 1048576: true; the input reads as it did. -/
def setsTellsUptoRow : OpenClaim := { program := "ytjmhbbbpjbgmjaa", sum := "7645bb7e02f108fec6a03d40781cbc823139a4c709becb895a72b71ff5bac734", func := "repartee/reparteelaw01.SetsTells", spec := "setsTells", unfollowed := true, recurses := true, apart := false, narrowed := true }
def SetsTellsUptoSaid : Prop := setsTellsUptoRow.holds Try.pinned (OpenSpec.upto setsTellsSpec)

/-- 'reparteelaw01.SetsAlgebra', WHERE WHAT IT READS IS OF BULK AT MOST 1048576: true; the input reads as it did. -/
def setsAlgebraUptoRow : OpenClaim := { program := "ytjmhbbbpjbgmjaa", sum := "7645bb7e02f108fec6a03d40781cbc823139a4c709becb895a72b71ff5bac734", func := "repartee/reparteelaw01.SetsAlgebra", spec := "setsAlgebra", unfollowed := true, recurses := true, apart := false, narrowed := true }
def SetsAlgebraUptoSaid : Prop := setsAlgebraUptoRow.holds Try.pinned (OpenSpec.upto setsAlgebraSpec)

/-- 'reparteelaw01.SetsParts', WHERE WHAT IT READS IS OF BULK AT MOST 1048576: true; the input reads as it did. -/
def setsPartsUptoRow : OpenClaim := { program := "ytjmhbbbpjbgmjaa", sum := "7645bb7e02f108fec6a03d40781cbc823139a4c709becb895a72b71ff5bac734", func := "repartee/reparteelaw01.SetsParts", spec := "setsParts", unfollowed := true, recurses := true, apart := false, narrowed := true }
def SetsPartsUptoSaid : Prop := setsPartsUptoRow.holds Try.pinned (OpenSpec.upto setsPartsSpec)

/-- 'reparteelaw01.SetsLists', WHERE WHAT IT READS IS OF BULK AT MOST 1048576: true; the input reads as it did. -/
def setsListsUptoRow : OpenClaim := { program := "ytjmhbbbpjbgmjaa", sum := "7645bb7e02f108fec6a03d40781cbc823139a4c709becb895a72b71ff5bac734", func := "repartee/reparteelaw01.SetsLists", spec := "setsLists", unfollowed := true, recurses := true, apart := false, narrowed := true }
def SetsListsUptoSaid : Prop := setsListsUptoRow.holds Try.pinned (OpenSpec.upto setsListsSpec)

/-- 'reparteelaw01.SetsBack', WHERE WHAT IT READS IS OF BULK AT MOST 1048576: true; the input reads as it did. -/
def setsBackUptoRow : OpenClaim := { program := "ytjmhbbbpjbgmjaa", sum := "7645bb7e02f108fec6a03d40781cbc823139a4c709becb895a72b71ff5bac734", func := "repartee/reparteelaw01.SetsBack", spec := "setsBack", unfollowed := true, recurses := true, apart := false, narrowed := true }
def SetsBackUptoSaid : Prop := setsBackUptoRow.holds Try.pinned (OpenSpec.upto setsBackSpec)

/-- 'reparteelaw01.SetsSmall', WHERE WHAT IT READS IS OF BULK AT MOST 1048576: true; the input reads as it did. -/
def setsSmallUptoRow : OpenClaim := { program := "ytjmhbbbpjbgmjaa", sum := "7645bb7e02f108fec6a03d40781cbc823139a4c709becb895a72b71ff5bac734", func := "repartee/reparteelaw01.SetsSmall", spec := "setsSmall", unfollowed := true, recurses := true, apart := false, narrowed := true }
def SetsSmallUptoSaid : Prop := setsSmallUptoRow.holds Try.pinned (OpenSpec.upto setsSmallSpec)

end Rows
end Go.Proofs.Ytjmhbbbpjbgmjaa
