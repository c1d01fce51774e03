/-
  NARROWER THAN 'FOR EVERY INPUT', by the rows' own cells (each row's printed sentence says how): RxreadJoins: laid · RxreadCounts: laid · RxreadWrong: laid · RxreadSmall: laid.
  DERIVED. THE GIVEN ROWS OF THIS SEAT. 4 by the template 'for every input the law returns true; each argument reads behind the call as it read before'; 0 by the template 'total and deterministic' (their statements: YtnoccnalocdldaaGreatDoorTotals.lean).
  GIVEN WITH THE SEED: the statements are not yours to turn. If you find one false, say at which input.
  Laid BY PROGRAM, IN A SANDBOX (cutbox-rows.mjs): the forced cells as the released guide's own fill.sh prints them over the translation 07e70b44add37a27… (all of the seat's roots in one cut). By AI agents, Wed Nov 11 2026. No macro, syntax, notation, axiom, sorry.
-/
import Derived.Test.YtnoccnalocdldaaGreatDoorChecked
import GoSem.PinnedTables
import GoSem.Claim
import GoSem.ClaimJoined
import GoSem.ClaimMapViews
import Derived.JoinedTies
import Derived.KernelRfl
namespace Go.Proofs.YtnoccnalocdldaaGreatDoor
/- THE CELL 'sum', in the pinned program and in every row, IS THE sha256 OF THE DUMP (.gsa) THAT YtnoccnalocdldaaGreatDoorProg.lean LOADS. Nothing in Lean hashes anything: it is a label: what it is worth is what the hold of that sum in a sandbox is worth. -/
noncomputable def Tryz.pinned : Pinned := { name := "ytnoccnalocdldaagreatdoor", sum := "07e70b44add37a277b637b2723855340521b13d90a26c6de79a40980296921af", checked := Tryz.checked }
namespace Rows
def none {H : Type} : Left H := { results := [], args := [] }

/- WHAT THE LISTED PACKAGE-LEVEL VARIABLES READ AS WHEN THE CALL BEGINS. Each datum BY PROGRAM (the guide's laid-datum.mjs) off the statement by which the dump's own 'gosem.cut.vars' lays the variable. In a bare row this is a premise. The card (YtnoccnalocdldaaGreatDoorCards.lean) ties it to the program's text. -/
def laid_unicode_utf8_acceptRanges {H : Type} : DataW H := .agg [.agg [.lit (.int .u8 128), .lit (.int .u8 191)], .agg [.lit (.int .u8 160), .lit (.int .u8 191)], .agg [.lit (.int .u8 128), .lit (.int .u8 159)], .agg [.lit (.int .u8 144), .lit (.int .u8 191)], .agg [.lit (.int .u8 128), .lit (.int .u8 143)], .agg [.lit (.int .u8 0), .lit (.int .u8 0)], .agg [.lit (.int .u8 0), .lit (.int .u8 0)], .agg [.lit (.int .u8 0), .lit (.int .u8 0)], .agg [.lit (.int .u8 0), .lit (.int .u8 0)], .agg [.lit (.int .u8 0), .lit (.int .u8 0)], .agg [.lit (.int .u8 0), .lit (.int .u8 0)], .agg [.lit (.int .u8 0), .lit (.int .u8 0)], .agg [.lit (.int .u8 0), .lit (.int .u8 0)], .agg [.lit (.int .u8 0), .lit (.int .u8 0)], .agg [.lit (.int .u8 0), .lit (.int .u8 0)], .agg [.lit (.int .u8 0), .lit (.int .u8 0)]]
/-- One of Go's own tables, pinned by name: the form's constant. -/
def laid_unicode_utf8_first : DataW Unit := Go.Pinned.utf8First

/-- 'reparteelaw09.RxreadJoins': WHATEVER THE INPUT: true; the input reads as it did. -/
def rxreadJoinsSpec : ChangeSpec := { name := "rxreadJoins", fn := fun _ => fun
  | [d1, d2] => { results := [.lit (.bool true)], args := [d1, d2] }
  | _ => none }
def rxreadJoinsRow : OpenClaim := { program := "ytnoccnalocdldaagreatdoor", sum := "07e70b44add37a277b637b2723855340521b13d90a26c6de79a40980296921af", func := "repartee/reparteelaw09.RxreadJoins", spec := "rxreadJoins", inPlace := ["internal/bytealg.IndexByteString", "internal/bytealg.IndexString"], unfollowed := true, recurses := true, named := ["unicode/utf8.first", "unicode/utf8.acceptRanges", "internal/bytealg.MaxLen"], apart := false, laid := [("unicode/utf8.acceptRanges", laid_unicode_utf8_acceptRanges), ("unicode/utf8.first", laid_unicode_utf8_first)] }
def RxreadJoinsSaid : Prop := rxreadJoinsRow.holds Tryz.pinned (OpenSpec.ofChange rxreadJoinsSpec)

/-- ITS FALSE NEIGHBOUR: 'it returns false'. Refute it at one input. -/
def rxreadJoinsWrong : ChangeSpec := { name := "rxreadJoins", fn := fun _ => fun
  | [d1, d2] => { results := [.lit (.bool false)], args := [d1, d2] }
  | _ => none }
def RxreadJoinsWrongFalsely : Prop := rxreadJoinsRow.holds Tryz.pinned (OpenSpec.ofChange rxreadJoinsWrong)

/-- 'reparteelaw09.RxreadCounts': WHATEVER THE INPUT: true; the input reads as it did. -/
def rxreadCountsSpec : ChangeSpec := { name := "rxreadCounts", fn := fun _ => fun
  | [d1, d2, d3] => { results := [.lit (.bool true)], args := [d1, d2, d3] }
  | _ => none }
def rxreadCountsRow : OpenClaim := { program := "ytnoccnalocdldaagreatdoor", sum := "07e70b44add37a277b637b2723855340521b13d90a26c6de79a40980296921af", func := "repartee/reparteelaw09.RxreadCounts", spec := "rxreadCounts", inPlace := ["internal/bytealg.IndexByteString", "internal/bytealg.IndexString"], unfollowed := true, recurses := true, named := ["unicode/utf8.first", "unicode/utf8.acceptRanges", "internal/bytealg.MaxLen"], apart := false, laid := [("unicode/utf8.acceptRanges", laid_unicode_utf8_acceptRanges), ("unicode/utf8.first", laid_unicode_utf8_first)] }
def RxreadCountsSaid : Prop := rxreadCountsRow.holds Tryz.pinned (OpenSpec.ofChange rxreadCountsSpec)

/-- ITS FALSE NEIGHBOUR: 'it returns false'. Refute it at one input. -/
def rxreadCountsWrong : ChangeSpec := { name := "rxreadCounts", fn := fun _ => fun
  | [d1, d2, d3] => { results := [.lit (.bool false)], args := [d1, d2, d3] }
  | _ => none }
def RxreadCountsWrongFalsely : Prop := rxreadCountsRow.holds Tryz.pinned (OpenSpec.ofChange rxreadCountsWrong)

/-- 'reparteelaw09.RxreadWrong': WHATEVER THE INPUT: true; the input reads as it did. -/
def rxreadWrongSpec : ChangeSpec := { name := "rxreadWrong", fn := fun _ => fun
  | [d1, d2] => { results := [.lit (.bool true)], args := [d1, d2] }
  | _ => none }
def rxreadWrongRow : OpenClaim := { program := "ytnoccnalocdldaagreatdoor", sum := "07e70b44add37a277b637b2723855340521b13d90a26c6de79a40980296921af", func := "repartee/reparteelaw09.RxreadWrong", spec := "rxreadWrong", inPlace := ["internal/bytealg.IndexByteString", "internal/bytealg.IndexString"], unfollowed := true, recurses := true, named := ["unicode/utf8.first", "unicode/utf8.acceptRanges", "internal/bytealg.MaxLen"], apart := false, laid := [("unicode/utf8.acceptRanges", laid_unicode_utf8_acceptRanges), ("unicode/utf8.first", laid_unicode_utf8_first)] }
def RxreadWrongSaid : Prop := rxreadWrongRow.holds Tryz.pinned (OpenSpec.ofChange rxreadWrongSpec)

/-- ITS FALSE NEIGHBOUR: 'it returns false'. Refute it at one input. -/
def rxreadWrongWrong : ChangeSpec := { name := "rxreadWrong", fn := fun _ => fun
  | [d1, d2] => { results := [.lit (.bool false)], args := [d1, d2] }
  | _ => none }
def RxreadWrongWrongFalsely : Prop := rxreadWrongRow.holds Tryz.pinned (OpenSpec.ofChange rxreadWrongWrong)

/-- 'reparteelaw09.RxreadSmall': WHATEVER THE INPUT: true; the input reads as it did. -/
def rxreadSmallSpec : ChangeSpec := { name := "rxreadSmall", fn := fun _ => fun
  | [] => { results := [.lit (.bool true)], args := [] }
  | _ => none }
def rxreadSmallRow : OpenClaim := { program := "ytnoccnalocdldaagreatdoor", sum := "07e70b44add37a277b637b2723855340521b13d90a26c6de79a40980296921af", func := "repartee/reparteelaw09.RxreadSmall", spec := "rxreadSmall", inPlace := ["internal/bytealg.IndexByteString", "internal/bytealg.IndexString", "internal/abi.NoEscape", "internal/bytealg.MakeNoZero"], unfollowed := true, recurses := true, named := ["unicode/utf8.first", "unicode/utf8.acceptRanges", "internal/bytealg.MaxLen"], apart := false, laid := [("unicode/utf8.acceptRanges", laid_unicode_utf8_acceptRanges), ("unicode/utf8.first", laid_unicode_utf8_first)] }
def RxreadSmallSaid : Prop := rxreadSmallRow.holds Tryz.pinned (OpenSpec.ofChange rxreadSmallSpec)

/-- ITS FALSE NEIGHBOUR: 'it returns false'. Refute it at one input. -/
def rxreadSmallWrong : ChangeSpec := { name := "rxreadSmall", fn := fun _ => fun
  | [] => { results := [.lit (.bool false)], args := [] }
  | _ => none }
def RxreadSmallWrongFalsely : Prop := rxreadSmallRow.holds Tryz.pinned (OpenSpec.ofChange rxreadSmallWrong)

/- THE SECOND FORM. 'bulk': how many values and letters a reading holds, each counted each time it is reached (what is shared counts as often as it is met; a slice's spare places count too). A statement '..UptoSaid' is the law's where the arguments, and the package variables that the reading takes, are together of bulk at most 1048576: NARROWER than '..Said'. Prove '..Said' where nothing that the law and all that it calls make is longer than what came in: it says more and counts as full. Else prove '..UptoSaid'. A law counts once. -/
mutual
def uptoBulk {H : Type} : DataW H → Nat
  | .lit (.string bytes) => bytes.length + 1
  | .lit _ => 1
  | .nil => 1
  | .ptr d => uptoBulk d + 1
  | .slice elems spare => uptoBulkAll elems + uptoBulkAll spare + 1
  | .agg parts => uptoBulkAll parts + 1
  | .iface _ d => uptoBulk d + 1
  | .map entries => uptoBulkEntries entries + 1
  | .held _ => 1
def uptoBulkAll {H : Type} : List (DataW H) → Nat
  | [] => 0
  | d :: r => uptoBulk d + uptoBulkAll r
def uptoBulkEntries {H : Type} : List (Lit × DataW H) → Nat
  | [] => 0
  | x :: r => uptoBulkEntry x + uptoBulkEntries r
def uptoBulkEntry {H : Type} : Lit × DataW H → Nat
  | (.string bytes, d) => bytes.length + uptoBulk d + 1
  | (_, d) => uptoBulk d + 1
 end
def uptoSmall : (H : Type) → List (DataW H) → Bool := fun _ ds => decide (uptoBulkAll ds ≤ 1048576)
def OpenSpec.upto (s : _root_.Go.ChangeSpec) : _root_.Go.OpenSpec := { _root_.Go.OpenSpec.ofChange s with cond := some uptoSmall }

/-- 'reparteelaw09.RxreadJoins', WHERE WHAT IT READS IS OF BULK AT MOST 1048576: true; the input reads as it did. -/
def rxreadJoinsUptoRow : OpenClaim := { program := "ytnoccnalocdldaagreatdoor", sum := "07e70b44add37a277b637b2723855340521b13d90a26c6de79a40980296921af", func := "repartee/reparteelaw09.RxreadJoins", spec := "rxreadJoins", inPlace := ["internal/bytealg.IndexByteString", "internal/bytealg.IndexString"], unfollowed := true, recurses := true, named := ["unicode/utf8.first", "unicode/utf8.acceptRanges", "internal/bytealg.MaxLen"], apart := false, laid := [("unicode/utf8.acceptRanges", laid_unicode_utf8_acceptRanges), ("unicode/utf8.first", laid_unicode_utf8_first)], narrowed := true }
def RxreadJoinsUptoSaid : Prop := rxreadJoinsUptoRow.holds Tryz.pinned (OpenSpec.upto rxreadJoinsSpec)

/-- 'reparteelaw09.RxreadCounts', WHERE WHAT IT READS IS OF BULK AT MOST 1048576: true; the input reads as it did. -/
def rxreadCountsUptoRow : OpenClaim := { program := "ytnoccnalocdldaagreatdoor", sum := "07e70b44add37a277b637b2723855340521b13d90a26c6de79a40980296921af", func := "repartee/reparteelaw09.RxreadCounts", spec := "rxreadCounts", inPlace := ["internal/bytealg.IndexByteString", "internal/bytealg.IndexString"], unfollowed := true, recurses := true, named := ["unicode/utf8.first", "unicode/utf8.acceptRanges", "internal/bytealg.MaxLen"], apart := false, laid := [("unicode/utf8.acceptRanges", laid_unicode_utf8_acceptRanges), ("unicode/utf8.first", laid_unicode_utf8_first)], narrowed := true }
def RxreadCountsUptoSaid : Prop := rxreadCountsUptoRow.holds Tryz.pinned (OpenSpec.upto rxreadCountsSpec)

/-- 'reparteelaw09.RxreadWrong', WHERE WHAT IT READS IS OF BULK AT MOST 1048576: true; the input reads as it did. -/
def rxreadWrongUptoRow : OpenClaim := { program := "ytnoccnalocdldaagreatdoor", sum := "07e70b44add37a277b637b2723855340521b13d90a26c6de79a40980296921af", func := "repartee/reparteelaw09.RxreadWrong", spec := "rxreadWrong", inPlace := ["internal/bytealg.IndexByteString", "internal/bytealg.IndexString"], unfollowed := true, recurses := true, named := ["unicode/utf8.first", "unicode/utf8.acceptRanges", "internal/bytealg.MaxLen"], apart := false, laid := [("unicode/utf8.acceptRanges", laid_unicode_utf8_acceptRanges), ("unicode/utf8.first", laid_unicode_utf8_first)], narrowed := true }
def RxreadWrongUptoSaid : Prop := rxreadWrongUptoRow.holds Tryz.pinned (OpenSpec.upto rxreadWrongSpec)

/-- 'reparteelaw09.RxreadSmall', WHERE WHAT IT READS IS OF BULK AT MOST 1048576: true; the input reads as it did. -/
def rxreadSmallUptoRow : OpenClaim := { program := "ytnoccnalocdldaagreatdoor", sum := "07e70b44add37a277b637b2723855340521b13d90a26c6de79a40980296921af", func := "repartee/reparteelaw09.RxreadSmall", spec := "rxreadSmall", inPlace := ["internal/bytealg.IndexByteString", "internal/bytealg.IndexString", "internal/abi.NoEscape", "internal/bytealg.MakeNoZero"], unfollowed := true, recurses := true, named := ["unicode/utf8.first", "unicode/utf8.acceptRanges", "internal/bytealg.MaxLen"], apart := false, laid := [("unicode/utf8.acceptRanges", laid_unicode_utf8_acceptRanges), ("unicode/utf8.first", laid_unicode_utf8_first)], narrowed := true }
def RxreadSmallUptoSaid : Prop := rxreadSmallUptoRow.holds Tryz.pinned (OpenSpec.upto rxreadSmallSpec)

end Rows
end Go.Proofs.YtnoccnalocdldaaGreatDoor
