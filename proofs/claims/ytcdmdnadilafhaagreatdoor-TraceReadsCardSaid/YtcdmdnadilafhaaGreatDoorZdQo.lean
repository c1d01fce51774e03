/-
  The steps of a walk whose side conditions are by computation.
-/
import Derived.Test.YtcdmdnadilafhaaGreatDoorZdR
set_option linter.unusedVariables false
namespace Go.Ab
open Go Go.RowKit Go.Fwd
def bl : Nat → Nat → List Bool
  | 0, _ => []
  | n + 1, m => (m % 2 == 1) :: bl n (m / 2)
section
variable {IT : IterP} {P : Program} {W : Owed} {ops ops0 : Array Oper} {Q : List AV → St → Prop} {K : List AV → Prop} {o : Oper} {l : List Oper} {S S' : List AV} {σ σ' σ'' : St} {a : AV} {kb : Nat} {b : Bool} {c : Option Bool}
theorem w_o (k : aops IT P W ops Q l S' σ') (hg : o.guard = none := by exact rfl) (hc : acall S o = none := by exact rfl) (hy : ayield S o = none := by exact rfl) (h : aop P (aval S) σ o = some (a, σ') := by exact rfl) (hS : aput S o.dst a = S' := by dsimp only [aput, List.set]) : aops IT P W ops Q (o :: l) S σ :=
  w_op hg hc hy h hS k
theorem w_om (k : aops IT P W ops Q l S' σ'') (hg : o.guard = none := by exact rfl) (hc : acall S o = none := by exact rfl) (hy : ayield S o = none := by exact rfl) (h : aop P (aval S) σ o = some (a, σ') := by exact rfl) (hS : aput S o.dst a = S' := by dsimp only [aput, List.set]) (hσ : σ' = σ'' := by exact rfl) : aops IT P W ops Q (o :: l) S σ :=
  w_opm hg hc hy h hS hσ k
theorem w_po (k : aops IT P W ops Q l S' σ) (hg : o.guard = some (kb, b) := by exact rfl) (hk : aguard ops S kb = some c := by exact rfl) (hcb : c ≠ some b := by decide) (hS : aput S o.dst (.raw undef) = S' := by dsimp only [aput, List.set]) : aops IT P W ops Q (o :: l) S σ :=
  w_pass hg hk hcb hS k
theorem w_pHo (hops : ops = ops0) (k : aops IT P W ops Q l S' σ) (hg : o.guard = some (kb, b) := by exact rfl) (hk : aguard ops0 S kb = some c := by exact rfl) (hcb : c ≠ some b := by decide) (hS : aput S o.dst (.raw undef) = S' := by dsimp only [aput, List.set]) : aops IT P W ops Q (o :: l) S σ :=
  w_pass hg (by rw [hops]; exact hk) hcb hS k
theorem h_o (k : ahead IT P ops σ K l S') (hd : (o.dst.all fun d => decide (d < S.length)) = true := by exact rfl) (hg : o.guard = none := by exact rfl) (hc : acall S o = none := by exact rfl) (h : qop P (aval S) σ o = some a := by exact rfl) (hS : aput S o.dst a = S' := by dsimp only [aput, List.set]) : ahead IT P ops σ K (o :: l) S :=
  h_op hd hg hc h hS k
theorem h_po (k : ahead IT P ops σ K l S') (hd : (o.dst.all fun d => decide (d < S.length)) = true := by exact rfl) (hg : o.guard = some (kb, b) := by exact rfl) (hk : aguard ops S kb = some c := by exact rfl) (hcb : c ≠ some b := by decide) (hS : aput S o.dst (.raw undef) = S' := by dsimp only [aput, List.set]) : ahead IT P ops σ K (o :: l) S :=
  h_pass hd hg hk hcb hS k
end
end Go.Ab

