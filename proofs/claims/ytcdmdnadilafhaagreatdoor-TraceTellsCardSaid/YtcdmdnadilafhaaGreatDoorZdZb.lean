/-
  Regions whose order is open: to the node that follows.
-/
import Derived.Test.YtcdmdnadilafhaaGreatDoorZdZ
set_option linter.unusedVariables false
namespace Go.Ab
open Go Go.RowKit Go.Fwd
end Go.Ab

