/-
  reparteeref02: what is said of one byte (the marks are always the quotation mark alone): plain, out of the walks.
-/
import Derived.Test.YtcdmdnadilafhaaGreatDoorZyRv
set_option linter.unusedSimpArgs false
set_option linter.unusedVariables false
namespace Go.Ab
open Go Go.RowKit Go.Fwd Go.Proofs
def zv5 (c : UInt8) : Int := if zrf c < 16 then zrf c else 0
theorem ztm (p : UInt8 → Bool) (h : ((List.range 256).all fun n => p n.toUInt8) = true) (c : UInt8) : p c = true := zr0 (p := fun c => p c = true) h (fun n _ h => h) c
theorem z0a (c : UInt8) : zpz ((c.toNat : Nat) : Int) (RSet.mk false) = some (byteP c) := of_decide_eq_true (ztm (fun c => decide (zpz ((c.toNat : Nat) : Int) (RSet.mk false) = some (byteP c))) (by decide +kernel) c)
theorem z03 (c : UInt8) : zqy 10 ((c.toNat : Nat) : Int) (RSet.mk false) = some (ze5 c) := of_decide_eq_true (ztm (fun c => decide (zqy 10 ((c.toNat : Nat) : Int) (RSet.mk false) = some (ze5 c))) (by decide +kernel) c)
theorem dig_eq (c : UInt8) : zvc 20 ((c.toNat : Nat) : Int) = some (zv5 c) := of_decide_eq_true (ztm (fun c => decide (zvc 20 ((c.toNat : Nat) : Int) = some (zv5 c))) (by decide +kernel) c)
theorem zwj (c : UInt8) : Pure (ITP Tryz.prog) Tryz.prog 99 [.raw (.int .u8 ((c.toNat : Nat) : Int)), .agg zj8] (.raw (.string (bs (byteP c)))) := z0t _ (RSet.mk false) _ (z0a c)
theorem zwk (c : UInt8) : Pure (ITP Tryz.prog) Tryz.prog 97 [.raw (.int .u8 ((c.toNat : Nat) : Int)), .agg zj8] (formsA c) := z1a 10 _ (RSet.mk false) _ (z03 c)
theorem zlz (c : UInt8) : Pure (ITP Tryz.prog) Tryz.prog 108 [.raw (.int .u8 ((c.toNat : Nat) : Int))] (.raw (.int .i64 (zv5 c))) := rdig_sh 20 _ _ (dig_eq c)
end Go.Ab
