/-
  trace: what the laid variables say.
-/
import Derived.Test.YtcdmdnadilafhaaDoorZtFs
import Derived.Stop.LaidErr
set_option linter.unusedSimpArgs false
set_option linter.unusedVariables false
set_option maxRecDepth 100000
namespace Go.Ab
open Go Go.RowKit Go.Fwd Go.Proofs Go.Proofs.YtcdmdnadilafhaaDoor

theorem star_err : "*" ++ "errors.errorString" = "*errors.errorString" := by decide
theorem row147 (u : TypeId) (h : Tryd.prog.typeName? 3 u = some "*errors.errorString") : u = 147 :=
  typeName_ptr_named (nm := "errors.errorString") (by rw [star_err]; kernel_rfl) (by kernel_rfl) (by decide) u (by rw [star_err]; exact h)
theorem und73 : ∃ ms, Tryd.prog.underlying 73 = some (.interface ms) := ⟨_, rfl⟩
theorem und149 : ∃ f : Field, Tryd.prog.underlying 149 = some (.struct #[f]) ∧ f.type = 9 ∧ f.offset = 0 := ⟨_, rfl, rfl, rfl⟩
theorem gv_of {W : World} (hL : laidMet Tryd.prog Rows.traceGoesRow.laid W) : gvBase Tryd.prog W := by
  have h3 := laidMet.tail (laidMet.tail (laidMet.tail hL))
  obtain ⟨ms, hms⟩ := und73
  obtain ⟨f, hf, hft, hfo⟩ := und149
  intro n g hn hg
  rcases hn with rfl | rfl
  · obtain ⟨a, s, hv, _⟩ := laid_sentinel (laidMet.tail h3) (by kernel_rfl : Tryd.prog.globalNamed "strconv.ErrSyntax" = some 1) (by kernel_rfl : (Tryd.prog.globals[1]?).map (·.type) = some 73) hms row147 (by kernel_rfl : Tryd.prog.underlying 147 = some (.pointer 149)) hf hft hfo und9 (by kernel_rfl) (by kernel_rfl)
    exact ⟨_, _, hv⟩
  · obtain ⟨a, s, hv, _⟩ := laid_sentinel h3 (by kernel_rfl : Tryd.prog.globalNamed "strconv.ErrRange" = some 2) (by kernel_rfl : (Tryd.prog.globals[2]?).map (·.type) = some 73) hms row147 (by kernel_rfl : Tryd.prog.underlying 147 = some (.pointer 149)) hf hft hfo und9 (by kernel_rfl) (by kernel_rfl)
    exact ⟨_, _, hv⟩
end Go.Ab
