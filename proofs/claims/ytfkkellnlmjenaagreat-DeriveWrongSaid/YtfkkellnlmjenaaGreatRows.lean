/-
  No cell of these rows narrows 'for every input' (looked for: loops, veiled, ifaces, maps, wideKeys, modest, calm, conditions, laid).
  DERIVED. THE GIVEN ROWS OF THIS SEAT. 5 by the template 'for every input the law returns true; each argument reads behind the call as it read before'; 0 by the template 'total and deterministic' (their statements: YtfkkellnlmjenaaGreatTotals.lean).
  GIVEN WITH THE SEED: the statements are not yours to turn. If you find one false, say at which input.
  Laid BY PROGRAM, IN A SANDBOX (cutbox-rows.mjs): the forced cells as the released guide's own fill.sh prints them over the translation d841621178d6f215… (all of the seat's roots in one cut). By AI agents, Wed Nov 11 2026. No macro, syntax, notation, axiom, sorry.
-/
import Derived.Test.YtfkkellnlmjenaaGreatChecked
import GoSem.Claim
import GoSem.ClaimJoined
import GoSem.ClaimMapViews
import Derived.JoinedTies
import Derived.KernelRfl
namespace Go.Proofs.YtfkkellnlmjenaaGreat
/- THE CELL 'sum', in the pinned program and in every row, IS THE sha256 OF THE DUMP (.gsa) THAT YtfkkellnlmjenaaGreatProg.lean LOADS. Nothing in Lean hashes anything: it is a label: what it is worth is what the hold of that sum in a sandbox is worth. -/
noncomputable def Tryz.pinned : Pinned := { name := "ytfkkellnlmjenaagreat", sum := "d841621178d6f21595b1578cf18cc45d97f1e9cf921572c0ff30132d9197e6db", checked := Tryz.checked }
namespace Rows
def none {H : Type} : Left H := { results := [], args := [] }

/-- 'reparteelaw12.DeriveArcs': WHATEVER THE INPUT: true; the input reads as it did. -/
def deriveArcsSpec : ChangeSpec := { name := "deriveArcs", fn := fun _ => fun
  | [d1, d2] => { results := [.lit (.bool true)], args := [d1, d2] }
  | _ => none }
def deriveArcsRow : OpenClaim := { program := "ytfkkellnlmjenaagreat", sum := "d841621178d6f21595b1578cf18cc45d97f1e9cf921572c0ff30132d9197e6db", func := "repartee/reparteelaw12.DeriveArcs", spec := "deriveArcs", unfollowed := true, recurses := true, apart := false }
def DeriveArcsSaid : Prop := deriveArcsRow.holds Tryz.pinned (OpenSpec.ofChange deriveArcsSpec)

/-- ITS FALSE NEIGHBOUR: 'it returns false'. Refute it at one input. -/
def deriveArcsWrong : ChangeSpec := { name := "deriveArcs", fn := fun _ => fun
  | [d1, d2] => { results := [.lit (.bool false)], args := [d1, d2] }
  | _ => none }
def DeriveArcsWrongFalsely : Prop := deriveArcsRow.holds Tryz.pinned (OpenSpec.ofChange deriveArcsWrong)

/-- 'reparteelaw12.DerivePlain': WHATEVER THE INPUT: true; the input reads as it did. -/
def derivePlainSpec : ChangeSpec := { name := "derivePlain", fn := fun _ => fun
  | [d1, d2] => { results := [.lit (.bool true)], args := [d1, d2] }
  | _ => none }
def derivePlainRow : OpenClaim := { program := "ytfkkellnlmjenaagreat", sum := "d841621178d6f21595b1578cf18cc45d97f1e9cf921572c0ff30132d9197e6db", func := "repartee/reparteelaw12.DerivePlain", spec := "derivePlain", unfollowed := true, recurses := true, apart := false }
def DerivePlainSaid : Prop := derivePlainRow.holds Tryz.pinned (OpenSpec.ofChange derivePlainSpec)

/-- ITS FALSE NEIGHBOUR: 'it returns false'. Refute it at one input. -/
def derivePlainWrong : ChangeSpec := { name := "derivePlain", fn := fun _ => fun
  | [d1, d2] => { results := [.lit (.bool false)], args := [d1, d2] }
  | _ => none }
def DerivePlainWrongFalsely : Prop := derivePlainRow.holds Tryz.pinned (OpenSpec.ofChange derivePlainWrong)

/-- 'reparteelaw12.DeriveFew': WHATEVER THE INPUT: true; the input reads as it did. -/
def deriveFewSpec : ChangeSpec := { name := "deriveFew", fn := fun _ => fun
  | [d1, d2] => { results := [.lit (.bool true)], args := [d1, d2] }
  | _ => none }
def deriveFewRow : OpenClaim := { program := "ytfkkellnlmjenaagreat", sum := "d841621178d6f21595b1578cf18cc45d97f1e9cf921572c0ff30132d9197e6db", func := "repartee/reparteelaw12.DeriveFew", spec := "deriveFew", unfollowed := true, recurses := true, apart := false }
def DeriveFewSaid : Prop := deriveFewRow.holds Tryz.pinned (OpenSpec.ofChange deriveFewSpec)

/-- ITS FALSE NEIGHBOUR: 'it returns false'. Refute it at one input. -/
def deriveFewWrong : ChangeSpec := { name := "deriveFew", fn := fun _ => fun
  | [d1, d2] => { results := [.lit (.bool false)], args := [d1, d2] }
  | _ => none }
def DeriveFewWrongFalsely : Prop := deriveFewRow.holds Tryz.pinned (OpenSpec.ofChange deriveFewWrong)

/-- 'reparteelaw12.DeriveWrong': WHATEVER THE INPUT: true; the input reads as it did. -/
def deriveWrongSpec : ChangeSpec := { name := "deriveWrong", fn := fun _ => fun
  | [d1, d2, d3, d4] => { results := [.lit (.bool true)], args := [d1, d2, d3, d4] }
  | _ => none }
def deriveWrongRow : OpenClaim := { program := "ytfkkellnlmjenaagreat", sum := "d841621178d6f21595b1578cf18cc45d97f1e9cf921572c0ff30132d9197e6db", func := "repartee/reparteelaw12.DeriveWrong", spec := "deriveWrong", unfollowed := true, recurses := true, apart := false }
def DeriveWrongSaid : Prop := deriveWrongRow.holds Tryz.pinned (OpenSpec.ofChange deriveWrongSpec)

/-- ITS FALSE NEIGHBOUR: 'it returns false'. Refute it at one input. -/
def deriveWrongWrong : ChangeSpec := { name := "deriveWrong", fn := fun _ => fun
  | [d1, d2, d3, d4] => { results := [.lit (.bool false)], args := [d1, d2, d3, d4] }
  | _ => none }
def DeriveWrongWrongFalsely : Prop := deriveWrongRow.holds Tryz.pinned (OpenSpec.ofChange deriveWrongWrong)

/-- 'reparteelaw12.DeriveSmall': WHATEVER THE INPUT: true; the input reads as it did. -/
def deriveSmallSpec : ChangeSpec := { name := "deriveSmall", fn := fun _ => fun
  | [] => { results := [.lit (.bool true)], args := [] }
  | _ => none }
def deriveSmallRow : OpenClaim := { program := "ytfkkellnlmjenaagreat", sum := "d841621178d6f21595b1578cf18cc45d97f1e9cf921572c0ff30132d9197e6db", func := "repartee/reparteelaw12.DeriveSmall", spec := "deriveSmall", inPlace := ["internal/abi.NoEscape", "internal/bytealg.MakeNoZero"], unfollowed := true, recurses := true, apart := false }
def DeriveSmallSaid : Prop := deriveSmallRow.holds Tryz.pinned (OpenSpec.ofChange deriveSmallSpec)

/-- ITS FALSE NEIGHBOUR: 'it returns false'. Refute it at one input. -/
def deriveSmallWrong : ChangeSpec := { name := "deriveSmall", fn := fun _ => fun
  | [] => { results := [.lit (.bool false)], args := [] }
  | _ => none }
def DeriveSmallWrongFalsely : Prop := deriveSmallRow.holds Tryz.pinned (OpenSpec.ofChange deriveSmallWrong)

/- THE SECOND FORM. 'bulk': how many values and letters a reading holds, each counted each time it is reached (what is shared counts as often as it is met; a slice's spare places count too). A statement '..UptoSaid' is the law's where the arguments, and the package variables that the reading takes, are together of bulk at most 1048576: NARROWER than '..Said'. Prove '..Said' where nothing that the law and all that it calls make is longer than what came in: it says more and counts as full. Else prove '..UptoSaid'. A law counts once. -/
mutual
def uptoBulk {H : Type} : DataW H → Nat
  | .lit (.string bytes) => bytes.length + 1
  | .lit _ => 1
  | .nil => 1
  | .ptr d => uptoBulk d + 1
  | .slice elems spare => uptoBulkAll elems + uptoBulkAll spare + 1
  | .agg parts => uptoBulkAll parts + 1
  | .iface _ d => uptoBulk d + 1
  | .map entries => uptoBulkEntries entries + 1
  | .held _ => 1
def uptoBulkAll {H : Type} : List (DataW H) → Nat
  | [] => 0
  | d :: r => uptoBulk d + uptoBulkAll r
def uptoBulkEntries {H : Type} : List (Lit × DataW H) → Nat
  | [] => 0
  | x :: r => uptoBulkEntry x + uptoBulkEntries r
def uptoBulkEntry {H : Type} : Lit × DataW H → Nat
  | (.string bytes, d) => bytes.length + uptoBulk d + 1
  | (_, d) => uptoBulk d + 1
 end
def uptoSmall : (H : Type) → List (DataW H) → Bool := fun _ ds => decide (uptoBulkAll ds ≤ 1048576)
def OpenSpec.upto (s : _root_.Go.ChangeSpec) : _root_.Go.OpenSpec := { _root_.Go.OpenSpec.ofChange s with cond := some uptoSmall }

/-- 'reparteelaw12.DeriveArcs', WHERE WHAT IT READS IS OF BULK AT MOST 1048576: true; the input reads as it did. -/
def deriveArcsUptoRow : OpenClaim := { program := "ytfkkellnlmjenaagreat", sum := "d841621178d6f21595b1578cf18cc45d97f1e9cf921572c0ff30132d9197e6db", func := "repartee/reparteelaw12.DeriveArcs", spec := "deriveArcs", unfollowed := true, recurses := true, apart := false, narrowed := true }
def DeriveArcsUptoSaid : Prop := deriveArcsUptoRow.holds Tryz.pinned (OpenSpec.upto deriveArcsSpec)

/-- 'reparteelaw12.DerivePlain', WHERE WHAT IT READS IS OF BULK AT MOST 1048576: true; the input reads as it did. -/
def derivePlainUptoRow : OpenClaim := { program := "ytfkkellnlmjenaagreat", sum := "d841621178d6f21595b1578cf18cc45d97f1e9cf921572c0ff30132d9197e6db", func := "repartee/reparteelaw12.DerivePlain", spec := "derivePlain", unfollowed := true, recurses := true, apart := false, narrowed := true }
def DerivePlainUptoSaid : Prop := derivePlainUptoRow.holds Tryz.pinned (OpenSpec.upto derivePlainSpec)

/-- 'reparteelaw12.DeriveFew', WHERE WHAT IT READS IS OF BULK AT MOST 1048576: true; the input reads as it did. -/
def deriveFewUptoRow : OpenClaim := { program := "ytfkkellnlmjenaagreat", sum := "d841621178d6f21595b1578cf18cc45d97f1e9cf921572c0ff30132d9197e6db", func := "repartee/reparteelaw12.DeriveFew", spec := "deriveFew", unfollowed := true, recurses := true, apart := false, narrowed := true }
def DeriveFewUptoSaid : Prop := deriveFewUptoRow.holds Tryz.pinned (OpenSpec.upto deriveFewSpec)

/-- 'reparteelaw12.DeriveWrong', WHERE WHAT IT READS IS OF BULK AT MOST 1048576: true; the input reads as it did. -/
def deriveWrongUptoRow : OpenClaim := { program := "ytfkkellnlmjenaagreat", sum := "d841621178d6f21595b1578cf18cc45d97f1e9cf921572c0ff30132d9197e6db", func := "repartee/reparteelaw12.DeriveWrong", spec := "deriveWrong", unfollowed := true, recurses := true, apart := false, narrowed := true }
def DeriveWrongUptoSaid : Prop := deriveWrongUptoRow.holds Tryz.pinned (OpenSpec.upto deriveWrongSpec)

/-- 'reparteelaw12.DeriveSmall', WHERE WHAT IT READS IS OF BULK AT MOST 1048576: true; the input reads as it did. -/
def deriveSmallUptoRow : OpenClaim := { program := "ytfkkellnlmjenaagreat", sum := "d841621178d6f21595b1578cf18cc45d97f1e9cf921572c0ff30132d9197e6db", func := "repartee/reparteelaw12.DeriveSmall", spec := "deriveSmall", inPlace := ["internal/abi.NoEscape", "internal/bytealg.MakeNoZero"], unfollowed := true, recurses := true, apart := false, narrowed := true }
def DeriveSmallUptoSaid : Prop := deriveSmallUptoRow.holds Tryz.pinned (OpenSpec.upto deriveSmallSpec)

end Rows
end Go.Proofs.YtfkkellnlmjenaaGreat
