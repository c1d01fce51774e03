/-
  The machine at this program.
-/
import Derived.Test.YtcdmdnadilafhaaDoorZtBld0
import Derived.Test.YtcdmdnadilafhaaDoorZdSh
set_option linter.unusedSimpArgs false
set_option linter.unusedVariables false
namespace Go.Ab
open Go Go.RowKit Go.Fwd Go.Proofs

theorem mix : Tryd.prog.follows .mixedOrders = true := by kernel_rfl
theorem ents (f : Nat) (fn : Func) (hf : Tryd.prog.funcs[f]? = some fn) (hb : fn.body.isSome = true) : Ent Tryd.prog f := by
  obtain ⟨c, hc⟩ := Option.isSome_iff_exists.1 hb
  have hall : (Tryd.prog.funcs.toList.all fun fn => !(fn.name == "runtime.NumGoroutine")) = true := by kernel_rfl
  have := List.all_eq_true.1 hall fn (Array.mem_toList_iff.2 (Array.mem_of_getElem? hf))
  exact enters_of hf (by simpa using this) hc
end Go.Ab
