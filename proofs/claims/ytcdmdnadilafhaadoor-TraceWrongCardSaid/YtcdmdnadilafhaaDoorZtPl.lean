/-
  TraceGoes: plain.
-/
import Derived.Test.YtcdmdnadilafhaaDoorZtQs
set_option linter.unusedSimpArgs false
set_option linter.unusedVariables false
namespace Go.Ab
open Go Go.RowKit Go.Fwd Go.Proofs
end Go.Ab
set_option linter.unusedSimpArgs false
set_option linter.unusedVariables false
namespace Go.Ab
open Go Go.RowKit Go.Fwd Go.Proofs
theorem letE_s {α β : Type} {e : α} {k : α → Option β} {r : Option β} (h : k e = r) : letE e k = r := h
end Go.Ab

