/-
  trace: slices.Clone of entries: a new list, or a box.
-/
import Derived.Test.YtcdmdnadilafhaaDoorZtW8
import Derived.Test.YtcdmdnadilafhaaDoorZtQs
set_option linter.unusedSimpArgs false
set_option linter.unusedVariables false
namespace Go.Ab
open Go Go.RowKit Go.Fwd Go.Proofs
theorem ent19 : Ent Tryd.prog 19 := enters_of Tryd.func19 (by kernel_rfl) rfl
section
variable {P : Program} {ρ : Operand → AV} {σ : St} {o : Oper}
end
end Go.Ab

