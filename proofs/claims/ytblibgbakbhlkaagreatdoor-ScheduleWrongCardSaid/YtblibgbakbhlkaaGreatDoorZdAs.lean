/-
  A string appended to an own list of bytes.
-/
import Derived.Test.YtblibgbakbhlkaaGreatDoorZvQc
set_option linter.unusedSimpArgs false
set_option linter.unusedVariables false
namespace Go.Ab
open Go Go.RowKit Go.Fwd
theorem byteCells_bs' (b : List UInt8) : (byteCells (bs b)).map AV.raw = Enc.cellsL b := by
  simp [byteCells, bs]
  rfl
theorem opB_strB {P : Program} {ρ : Operand → AV} {σ : St} {o : Oper} {s t e : TypeId} {x : Operand} {l : List UInt8} (ho : o.op = .convert s t x) (hx : ρ x = .raw (.string (bs l))) (hs : P.underlying s = some .string) (ht : P.underlying t = some (.slice e)) (he : P.underlying e = some (.int .u8)) :
    aopB P ρ σ o = some (.list l.length (Enc.cellsL l) .none, σ) := by
  have h := byteCells_bs' l
  simp only [aopB, ho, hx, aBoxStr, aStrB, hs, ht, he, h]
  rfl
end Go.Ab

