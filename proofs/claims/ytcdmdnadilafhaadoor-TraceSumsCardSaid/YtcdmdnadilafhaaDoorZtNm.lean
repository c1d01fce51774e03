/-
  trace: the names of ends.
-/
import Derived.Test.YtcdmdnadilafhaaDoorZtBld
set_option linter.unusedSimpArgs false
set_option linter.unusedVariables false
namespace Go.Ab
open Go Go.RowKit Go.Fwd Go.Proofs
def nameL : List (List UInt8) := [[], [114, 117, 110, 110, 105, 110, 103], [101, 120, 105, 116], [101, 111, 102], [102, 117, 101, 108], [115, 105, 122, 101]]
def nameE (k : Int) : List UInt8 := nameL.getD k.toNat []
noncomputable def nameOk (f n : Nat) : Bool := match ecallP Tryd.prog libP (ev Tryd.prog libP bldS 20) f [.raw (.int .u8 (n : Int))] with
  | some r => eqAV r (.raw (.string (bs (nameE (n : Int)))))
  | none => false
theorem name_all (f : Nat) (h : ((List.range 256).all fun n => nameOk f n) = true) (k : Int) (g : 0 ≤ k ∧ k < 256) : Pure (ITP Tryd.prog) Tryd.prog f [.raw (.int .u8 k)] (.raw (.string (bs (nameE k)))) := by
  have hk := List.all_eq_true.1 h k.toNat (List.mem_range.2 (by omega))
  unfold nameOk at hk
  split at hk
  · rename_i r hr
    have := run_pure_call goodT 20 hr
    rw [eqAV_ok _ _ hk] at this
    rw [show ((k.toNat : Nat) : Int) = k by omega] at this
    exact this
  · cases hk
theorem name_pure (k : Int) (g : 0 ≤ k ∧ k < 256) : Pure (ITP Tryd.prog) Tryd.prog 11 [.raw (.int .u8 k)] (.raw (.string (bs (nameE k)))) := name_all 11 (by kernel_rfl) k g
theorem nameR_pure (k : Int) (g : 0 ≤ k ∧ k < 256) : Pure (ITP Tryd.prog) Tryd.prog 12 [.raw (.int .u8 k)] (.raw (.string (bs (nameE k)))) := name_all 12 (by kernel_rfl) k g
section
variable {P : Program} {ρ : Operand → AV} {σ : St} {o : Oper}
theorem q_lenS {x : Operand} {t : TypeId} {l : List UInt8} (ho : o.op = .call ⟨.builtin .len, #[x], #[t]⟩) (hx : ρ x = .raw (.string (bs l))) (hu : P.underlying t = some .string) : qop P ρ σ o = some (.raw (.int .i64 (l.length : Int))) := by
  have h2 : aLen P t (.raw (.string (bs l))) = none := rfl
  have h1 : o.op.operands.toList.all (fun x => (toVal (ρ x)).isSome) = true := by rw [ho]; simp [Op.operands, Call.operands, hx, toVal]
  have h3 : val? P (execOp (rawEnv ρ) o) = some (.value (.int .i64 (l.length : Int))) := by
    have hsz : (bs l).size = l.length := rfl
    simp [execOp, ho, resolve, invoke, rawEnv, hx, toVal, builtin, Builtin.len_, underlying, goInt, hsz]
    simp only [program, Bind.bind, Pure.pure, Functor.map, Sem.bind, val?, hu, hsz]
    rfl
  have h4 : rawOp P ρ o = some (.raw (.int .i64 (l.length : Int))) := by
    unfold rawOp; rw [if_pos h1, ho, h3]; rfl
  simp only [qop, ho, hx, h2, h4]
end
end Go.Ab
