/-
  trace: one start that fits.
-/
import Derived.Test.YtcdmdnadilafhaaDoorZtFs
import Derived.Stop.LaidErr
import Derived.Deep.DeepHandedRow
import Derived.Deep.DeepWitnessRowRef
import Derived.ProofKit
import Derived.SizedLaws
set_option linter.unusedSimpArgs false
set_option linter.unusedVariables false
set_option maxRecDepth 100000
namespace Go.Ab
open Go Go.RowKit Go.Fwd Go.Proofs Go.Proofs.YtcdmdnadilafhaaDoor

theorem star_err : "*" ++ "errors.errorString" = "*errors.errorString" := by decide
theorem row147 (u : TypeId) (h : Tryd.prog.typeName? 3 u = some "*errors.errorString") : u = 147 :=
  typeName_ptr_named (nm := "errors.errorString") (by rw [star_err]; kernel_rfl) (by kernel_rfl) (by decide) u (by rw [star_err]; exact h)
theorem und73 : ∃ ms, Tryd.prog.underlying 73 = some (.interface ms) := ⟨_, rfl⟩
theorem und149 : ∃ f : Field, Tryd.prog.underlying 149 = some (.struct #[f]) ∧ f.type = 9 ∧ f.offset = 0 := ⟨_, rfl, rfl, rfl⟩
theorem gv_of {W : World} (hL : laidMet Tryd.prog Rows.traceGoesRow.laid W) : gvBase Tryd.prog W := by
  have h3 := laidMet.tail (laidMet.tail (laidMet.tail hL))
  obtain ⟨ms, hms⟩ := und73
  obtain ⟨f, hf, hft, hfo⟩ := und149
  intro n g hn hg
  rcases hn with rfl | rfl
  · obtain ⟨a, s, hv, _⟩ := laid_sentinel (laidMet.tail h3) (by kernel_rfl : Tryd.prog.globalNamed "strconv.ErrSyntax" = some 1) (by kernel_rfl : (Tryd.prog.globals[1]?).map (·.type) = some 73) hms row147 (by kernel_rfl : Tryd.prog.underlying 147 = some (.pointer 149)) hf hft hfo und9 (by kernel_rfl) (by kernel_rfl)
    exact ⟨_, _, hv⟩
  · obtain ⟨a, s, hv, _⟩ := laid_sentinel h3 (by kernel_rfl : Tryd.prog.globalNamed "strconv.ErrRange" = some 2) (by kernel_rfl : (Tryd.prog.globals[2]?).map (·.type) = some 73) hms row147 (by kernel_rfl : Tryd.prog.underlying 147 = some (.pointer 149)) hf hft hfo und9 (by kernel_rfl) (by kernel_rfl)
    exact ⟨_, _, hv⟩
end Go.Ab
set_option linter.unusedSimpArgs false
set_option linter.unusedVariables false
set_option maxRecDepth 100000
namespace Go.Ab
open Go Go.RowKit Go.Fwd Go.Proofs Go.Proofs.YtcdmdnadilafhaaDoor Go.ChangeShapes Go.WideShapes Go.ChangeAt

noncomputable def litsOf : DataW Unit → Array Value
  | .agg l => (l.map fun d => match d with | .lit (.int k n) => Value.int k n | _ => undef).toArray
  | _ => #[]
noncomputable def textOf : DataW Unit → ByteArray
  | .iface _ (.ptr (.agg [.lit (.string l)])) => ⟨l.toArray⟩
  | _ => ⟨#[]⟩
noncomputable def low : Nat := (World.holding Tryd.prog default ⟨#[], #[], []⟩).heap.size
noncomputable def gN (n : String) : Nat := (Tryd.prog.globalNamed n).getD 0
noncomputable def laidWorld (os : Os) : World :=
  let w0 := World.holding Tryd.prog os ⟨#[.cells #[.string (textOf Rows.laid_strconv_ErrRange)] 149, .cells #[.string (textOf Rows.laid_strconv_ErrSyntax)] 149], #[], []⟩
  let put (h : Array Obj) (g : Nat) (cs : Array Value) : Array Obj := h.modify g fun
    | .cells _ t frozen => .cells cs t frozen
    | o => o
  let h1 := put w0.heap (gN "math/bits.deBruijn32tab") (litsOf Rows.laid_math_bits_deBruijn32tab)
  let h2 := put h1 (gN "math/bits.deBruijn64tab") (litsOf Rows.laid_math_bits_deBruijn64tab)
  let h3 := put h2 (gN "internal/strconv.uint64pow10") (litsOf Rows.laid_internal_strconv_uint64pow10)
  let h4 := put h3 2 #[.iface 147 (.pointer (some ⟨low, 0, none⟩))]
  let h5 := put h4 1 #[.iface 147 (.pointer (some ⟨low + 1, 0, none⟩))]
  { w0 with heap := h5 }
theorem laid_met (os : Os) (args : Array Value) : laidMet Tryd.prog Rows.traceGoesRow.laid ((laidWorld os).forCall (fun _ _ => 0) ⟨#[], args, []⟩).memory :=
  laidMet_of_run (ps := MemPlace.row ⟨gN "math/bits.deBruijn32tab", 0, none⟩ 32 ++ MemPlace.row ⟨gN "math/bits.deBruijn64tab", 0, none⟩ 64 ++ MemPlace.row ⟨gN "internal/strconv.uint64pow10", 0, none⟩ 20 ++ [.cell 2 0, .cell low 0, .cell 1 0, .cell (low + 1) 0]) 8 (by kernel_rfl) (by kernel_rfl) (by kernel_rfl)
end Go.Ab
