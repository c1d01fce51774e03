/-
  Regions whose order is open: to the node that follows.
-/
import Derived.Test.YtcdmdnadilafhaaGreatDoorZyBd
import Derived.Test.YtcdmdnadilafhaaGreatDoorZdQo
set_option linter.unusedVariables false
namespace Go.Ab
open Go Go.RowKit Go.Fwd
theorem aopAt_l {IT : IterP} {P : Program} {W : Owed} {ops ops0 : Array Oper} {K : List AV → St → Prop} {i : Nat} {o : Oper} {S : List AV} {σ : St} (hops : ops = ops0) (ho : ops0.toList[i]? = some o) (h : aops IT P W ops K [o] S σ) : aopAt IT P W ops K i S σ :=
  aopAt_s hops (by rw [← ho, Array.getElem?_toList]) h
def upS : List (Option (Nat × AV)) → List Bool → List (Nat × AV)
  | some q :: ps, true :: bs => q :: upS ps bs
  | none :: ps, true :: bs => upS ps bs
  | _ :: ps, false :: bs => upS ps bs
  | _, _ => []
def aN (IT : IterP) (P : Program) (W : Owed) (ops : Array Oper) (FIN : List AV → St → Prop) (S0 : List AV) (ps : List (Option (Nat × AV))) (n k m : Nat) (σ : St) : Prop :=
  aany IT P W ops FIN k ⟨bl n m⟩ (setAll S0 (upS ps (bl n m))) σ
section
variable {IT : IterP} {P : Program} {W : Owed} {ops ops0 : Array Oper} {FIN : List AV → St → Prop} {S0 L S : List AV} {ps PL : List (Option (Nat × AV))} {n k m m' : Nat} {σ : St}
theorem aN_n (hops : ops = ops0) (hS : S0 = L) (hps : ps = PL) (is : List Nat)
    (h : ∀ i ∈ is, aopAt IT P W ops (fun S σ => aany IT P W ops FIN k ⟨(bl n m).set i true⟩ S σ) i S σ)
    (hr : Region.ready .any ops0 ⟨bl n m⟩ = is := by kernel_rfl) (hne : is ≠ [] := by decide) (e : setAll L (upS PL (bl n m)) = S := by dsimp only [setAll, List.foldl, List.set, upS, bl, Nat.reduceMod, Nat.reduceDiv, Nat.reduceBEq]) : aN IT P W ops FIN S0 ps n (k + 1) m σ := by
  subst hS hps e
  exact aany_n hops is hr hne h
theorem aN_0 (hops : ops = ops0) (hS : S0 = L) (hps : ps = PL) (h : FIN S σ) (hr : Region.ready .any ops0 ⟨bl n m⟩ = [] := by kernel_rfl) (e : setAll L (upS PL (bl n m)) = S := by dsimp only [setAll, List.foldl, List.set, upS, bl, Nat.reduceMod, Nat.reduceDiv, Nat.reduceBEq]) : aN IT P W ops FIN S0 ps n 0 m σ := by
  subst hS hps e
  exact aany_0 hops hr h
theorem aN_of {i : Nat} (h : aN IT P W ops FIN S0 ps n k m' σ) (hS : S0 = L) (hps : ps = PL) (hb : (bl n m).set i true = bl n m' := by kernel_rfl) (e : setAll L (upS PL (bl n m')) = S := by kernel_rfl) : aany IT P W ops FIN k ⟨(bl n m).set i true⟩ S σ := by
  subst hS hps e
  rw [hb]; exact h
theorem aN_start {k' : Nat} {l : Array Bool} (h : aN IT P W ops FIN S0 ps n k 0 σ) (hps : ps = PL) (hk : k = k' := by kernel_rfl) (hb : (⟨bl n 0⟩ : Array Bool) = l := by kernel_rfl) (e : upS PL (bl n 0) = [] := by kernel_rfl) : aany IT P W ops FIN k' l S0 σ := by
  subst hps hk hb
  have h' : aany IT P W ops FIN k ⟨bl n 0⟩ (setAll S0 (upS ps (bl n 0))) σ := h
  rw [e] at h'; exact h'
end
end Go.Ab

