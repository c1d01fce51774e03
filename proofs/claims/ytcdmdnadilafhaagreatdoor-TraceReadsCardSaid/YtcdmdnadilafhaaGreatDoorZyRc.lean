/-
  reparteeref02: what is said of one byte (the marks are always the quotation mark alone): plain, out of the walks.
-/
import Derived.Test.YtcdmdnadilafhaaGreatDoorZyRv
set_option linter.unusedSimpArgs false
set_option linter.unusedVariables false
namespace Go.Ab
open Go Go.RowKit Go.Fwd Go.Proofs
def digP (c : UInt8) : Int := if nibP c < 16 then nibP c else 0
theorem u8_all' (p : UInt8 → Bool) (h : ((List.range 256).all fun n => p n.toUInt8) = true) (c : UInt8) : p c = true := all256 (p := fun c => p c = true) h (fun n _ h => h) c
theorem rbyte_eq (c : UInt8) : F_rbyte ((c.toNat : Nat) : Int) (RSet.mk false) = some (byteP c) := of_decide_eq_true (u8_all' (fun c => decide (F_rbyte ((c.toNat : Nat) : Int) (RSet.mk false) = some (byteP c))) (by decide +kernel) c)
theorem forms_eq (c : UInt8) : F_forms 10 ((c.toNat : Nat) : Int) (RSet.mk false) = some (formsP c) := of_decide_eq_true (u8_all' (fun c => decide (F_forms 10 ((c.toNat : Nat) : Int) (RSet.mk false) = some (formsP c))) (by decide +kernel) c)
theorem dig_eq (c : UInt8) : F_rdig 20 ((c.toNat : Nat) : Int) = some (digP c) := of_decide_eq_true (u8_all' (fun c => decide (F_rdig 20 ((c.toNat : Nat) : Int) = some (digP c))) (by decide +kernel) c)
theorem rbyte_pure (c : UInt8) : Pure (ITP Tryz.prog) Tryz.prog 99 [.raw (.int .u8 ((c.toNat : Nat) : Int)), .agg cellsRS] (.raw (.string (bs (byteP c)))) := rbyte_sh _ (RSet.mk false) _ (rbyte_eq c)
theorem forms_pure (c : UInt8) : Pure (ITP Tryz.prog) Tryz.prog 97 [.raw (.int .u8 ((c.toNat : Nat) : Int)), .agg cellsRS] (formsA c) := forms_sh 10 _ (RSet.mk false) _ (forms_eq c)
theorem dig_pure (c : UInt8) : Pure (ITP Tryz.prog) Tryz.prog 108 [.raw (.int .u8 ((c.toNat : Nat) : Int))] (.raw (.int .i64 (digP c))) := rdig_sh 20 _ _ (dig_eq c)
end Go.Ab

