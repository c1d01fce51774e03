/-
  Lists of lists of Made's bytes as cells.
-/
import Derived.Test.YtmoncghgagmilaaZnCo
set_option linter.unusedSimpArgs false
set_option linter.unusedVariables false
namespace Go.Ab
open Go Go.RowKit Go.Fwd
instance : Enc (List Sm) where
 inh := []
 cells x := [.list x.length (Enc.cellsL x) .none]
 cellsL l := l.map fun x => .list x.length (Enc.cellsL x) .none
 sz := 1
 pos := by decide
 nil := rfl
 cons _ _ := rfl
 len _ := rfl
 clo x := zs6 (zcu (Enc.cloL x)) rfl
end Go.Ab
