/-
  Steps of a walk, shorter still: moves, ends, nodes of open regions.
-/
import Derived.Test.YtcdmdnadilafhaaDoorZdQ
import Derived.Test.YtcdmdnadilafhaaDoorZtW8
set_option linter.unusedVariables false
namespace Go.Ab
open Go Go.RowKit Go.Fwd
def bl : Nat → Nat → List Bool
  | 0, _ => []
  | n + 1, m => (m % 2 == 1) :: bl n (m / 2)
section
variable {IT : IterP} {P : Program} {W : Owed} {ops ops0 : Array Oper} {Q : List AV → St → Prop} {K : List AV → Prop} {o : Oper} {l : List Oper} {S S' : List AV} {σ σ' σ'' : St} {a : AV} {kb : Nat} {b : Bool} {c : Option Bool}
end
end Go.Ab
set_option linter.unusedVariables false
namespace Go.Ab
open Go Go.RowKit Go.Fwd
theorem aopAt_l {IT : IterP} {P : Program} {W : Owed} {ops ops0 : Array Oper} {K : List AV → St → Prop} {i : Nat} {o : Oper} {S : List AV} {σ : St} (hops : ops = ops0) (ho : ops0.toList[i]? = some o) (h : aops IT P W ops K [o] S σ) : aopAt IT P W ops K i S σ :=
  aopAt_s hops (by rw [← ho, Array.getElem?_toList]) h
def upS : List (Option (Nat × AV)) → List Bool → List (Nat × AV)
  | some q :: ps, true :: bs => q :: upS ps bs
  | none :: ps, true :: bs => upS ps bs
  | _ :: ps, false :: bs => upS ps bs
  | _, _ => []
def aN (IT : IterP) (P : Program) (W : Owed) (ops : Array Oper) (FIN : List AV → St → Prop) (S0 : List AV) (ps : List (Option (Nat × AV))) (n k m : Nat) (σ : St) : Prop :=
  aany IT P W ops FIN k ⟨bl n m⟩ (setAll S0 (upS ps (bl n m))) σ
section
variable {IT : IterP} {P : Program} {W : Owed} {ops ops0 : Array Oper} {FIN : List AV → St → Prop} {S0 L S : List AV} {ps PL : List (Option (Nat × AV))} {n k m m' : Nat} {σ : St}
theorem aN_n (hops : ops = ops0) (hS : S0 = L) (hps : ps = PL) (is : List Nat)
    (h : ∀ i ∈ is, aopAt IT P W ops (fun S σ => aany IT P W ops FIN k ⟨(bl n m).set i true⟩ S σ) i S σ)
    (hr : Region.ready .any ops0 ⟨bl n m⟩ = is := by kernel_rfl) (hne : is ≠ [] := by decide) (e : setAll L (upS PL (bl n m)) = S := by dsimp only [setAll, List.foldl, List.set, upS, bl, Nat.reduceMod, Nat.reduceDiv, Nat.reduceBEq]) : aN IT P W ops FIN S0 ps n (k + 1) m σ := by
  subst hS hps e
  exact aany_n hops is hr hne h
theorem aN_0 (hops : ops = ops0) (hS : S0 = L) (hps : ps = PL) (h : FIN S σ) (hr : Region.ready .any ops0 ⟨bl n m⟩ = [] := by kernel_rfl) (e : setAll L (upS PL (bl n m)) = S := by dsimp only [setAll, List.foldl, List.set, upS, bl, Nat.reduceMod, Nat.reduceDiv, Nat.reduceBEq]) : aN IT P W ops FIN S0 ps n 0 m σ := by
  subst hS hps e
  exact aany_0 hops hr h
theorem aN_of {i : Nat} (h : aN IT P W ops FIN S0 ps n k m' σ) (hS : S0 = L) (hps : ps = PL) (hb : (bl n m).set i true = bl n m' := by kernel_rfl) (e : setAll L (upS PL (bl n m')) = S := by kernel_rfl) : aany IT P W ops FIN k ⟨(bl n m).set i true⟩ S σ := by
  subst hS hps e
  rw [hb]; exact h
theorem aN_start {k' : Nat} {l : Array Bool} (h : aN IT P W ops FIN S0 ps n k 0 σ) (hps : ps = PL) (hk : k = k' := by kernel_rfl) (hb : (⟨bl n 0⟩ : Array Bool) = l := by kernel_rfl) (e : upS PL (bl n 0) = [] := by kernel_rfl) : aany IT P W ops FIN k' l S0 σ := by
  subst hps hk hb
  have h' : aany IT P W ops FIN k ⟨bl n 0⟩ (setAll S0 (upS ps (bl n 0))) σ := h
  rw [e] at h'; exact h'
end
end Go.Ab
set_option linter.unusedVariables false
namespace Go.Ab
open Go Go.RowKit Go.Fwd
@[reducible] def AV.i (x : Int) : AV := .raw (.int .i64 x)
@[reducible] def AV.u (x : Int) : AV := .raw (.int .u8 x)
@[reducible] def AV.b (x : Bool) : AV := .raw (.bool x)
@[reducible] def AV.s (x : List UInt8) : AV := .raw (.string (bs x))
def mvOf : Op → Option Nat
  | .move (.tmp k) => some k
  | .assign (.tmp k) => some k
  | _ => none
section
variable {IT : IterP} {P : Program} {W : Owed} {ops ops0 : Array Oper} {Q : List AV → St → Prop} {K : List AV → Prop} {o : Oper} {l : List Oper} {S S' : List AV} {σ σ' σ'' : St} {a : AV} {k : Nat}
theorem mv_facts (ho : mvOf o.op = some k) (hv : S[k]? = some a) : acall S o = none ∧ ayield S o = none ∧ qop P (aval S) σ o = some a := by
  have h : o.op = .move (.tmp k) ∨ o.op = .assign (.tmp k) := by
    unfold mvOf at ho
    split at ho <;> cases ho
    · rename_i h; exact .inl h
    · rename_i h; exact .inr h
  rcases h with h | h <;> simp [acall, ayield, qop, h, aval, hv]
theorem w_mv (kk : aops IT P W ops Q l S' σ) (ho : mvOf o.op = some k := by exact rfl) (hg : o.guard = none := by exact rfl) (hv : S[k]? = some a := by exact rfl) (hS : aput S o.dst a = S' := by dsimp only [aput, List.set]) : aops IT P W ops Q (o :: l) S σ := by
  obtain ⟨h1, h2, h3⟩ := mv_facts (P := P) (σ := σ) ho hv
  exact w_op hg h1 h2 (op_q h3) hS kk
theorem h_mv (kk : ahead IT P ops σ K l S') (ho : mvOf o.op = some k := by exact rfl) (hd : (o.dst.all fun d => decide (d < S.length)) = true := by exact rfl) (hg : o.guard = none := by exact rfl) (hv : S[k]? = some a := by exact rfl) (hS : aput S o.dst a = S' := by dsimp only [aput, List.set]) : ahead IT P ops σ K (o :: l) S := by
  obtain ⟨h1, h2, h3⟩ := mv_facts (P := P) (σ := σ) ho hv
  exact h_op hd hg h1 h3 hS kk
def exOf : Op → Option (Nat × Nat)
  | .extract (.tmp k) i => some (k, i)
  | _ => none
theorem ex_facts {i : Nat} {vs : List AV} (ho : exOf o.op = some (k, i)) (hv : S[k]? = some (.tup vs)) (hi : vs[i]? = some a) : acall S o = none ∧ ayield S o = none ∧ qop P (aval S) σ o = some a := by
  have h : o.op = .extract (.tmp k) i := by
    unfold exOf at ho
    split at ho <;> cases ho
    rename_i h; exact h
  simp [acall, ayield, qop, h, aval, hv, hi]
theorem w_ex {i : Nat} {vs : List AV} (kk : aops IT P W ops Q l S' σ) (ho : exOf o.op = some (k, i) := by exact rfl) (hg : o.guard = none := by exact rfl) (hv : S[k]? = some (.tup vs) := by exact rfl) (hi : vs[i]? = some a := by exact rfl) (hS : aput S o.dst a = S' := by dsimp only [aput, List.set]) : aops IT P W ops Q (o :: l) S σ := by
  obtain ⟨h1, h2, h3⟩ := ex_facts (P := P) (σ := σ) ho hv hi
  exact w_op hg h1 h2 (op_q h3) hS kk
end
section
variable {P : Program} {fn : Func} {S : List AV} {σ : St}
theorem end_b {y r : Bool} (hr : some y = some r) (h : aResults P fn σ S = some (.raw (.bool y)) := by exact rfl) : aendP P fn (.raw (.bool r)) .ret S σ := end_pureF (fun (r : Bool) => (.raw (.bool r) : AV)) hr h rfl rfl
end
section
variable {IT : IterP} {P : Program} {W : Owed} {ops ops0 : Array Oper} {FIN : List AV → St → Prop} {S0 L S : List AV} {ps PL : List (Option (Nat × AV))} {n k m m' : Nat} {σ : St} {o o' o'' : Oper}
theorem aN_1 (hops : ops = ops0) (hS : S0 = L) (hps : ps = PL) (i : Nat) (h : aops IT P W ops (fun S σ => aany IT P W ops FIN k ⟨(bl n m).set i true⟩ S σ) [o] S σ)
    (ho : ops0.toList[i]? = some o := by exact rfl) (hr : Region.ready .any ops0 ⟨bl n m⟩ = [i] := by kernel_rfl) (e : setAll L (upS PL (bl n m)) = S := by dsimp only [setAll, List.foldl, List.set, upS, bl, Nat.reduceMod, Nat.reduceDiv, Nat.reduceBEq]) : aN IT P W ops FIN S0 ps n (k + 1) m σ :=
  aN_n hops hS hps [i] (all_cons (aopAt_l hops ho h) all_nil) hr (by simp) e
theorem aN_2 (hops : ops = ops0) (hS : S0 = L) (hps : ps = PL) (i j : Nat) (h : aops IT P W ops (fun S σ => aany IT P W ops FIN k ⟨(bl n m).set i true⟩ S σ) [o] S σ) (h' : aops IT P W ops (fun S σ => aany IT P W ops FIN k ⟨(bl n m).set j true⟩ S σ) [o'] S σ)
    (ho : ops0.toList[i]? = some o := by exact rfl) (ho' : ops0.toList[j]? = some o' := by exact rfl) (hr : Region.ready .any ops0 ⟨bl n m⟩ = [i, j] := by kernel_rfl) (e : setAll L (upS PL (bl n m)) = S := by dsimp only [setAll, List.foldl, List.set, upS, bl, Nat.reduceMod, Nat.reduceDiv, Nat.reduceBEq]) : aN IT P W ops FIN S0 ps n (k + 1) m σ :=
  aN_n hops hS hps [i, j] (all_cons (aopAt_l hops ho h) (all_cons (aopAt_l hops ho' h') all_nil)) hr (by simp) e
theorem aN_3 (hops : ops = ops0) (hS : S0 = L) (hps : ps = PL) (i j q : Nat) (h : aops IT P W ops (fun S σ => aany IT P W ops FIN k ⟨(bl n m).set i true⟩ S σ) [o] S σ) (h' : aops IT P W ops (fun S σ => aany IT P W ops FIN k ⟨(bl n m).set j true⟩ S σ) [o'] S σ) (h'' : aops IT P W ops (fun S σ => aany IT P W ops FIN k ⟨(bl n m).set q true⟩ S σ) [o''] S σ)
    (ho : ops0.toList[i]? = some o := by exact rfl) (ho' : ops0.toList[j]? = some o' := by exact rfl) (ho'' : ops0.toList[q]? = some o'' := by exact rfl) (hr : Region.ready .any ops0 ⟨bl n m⟩ = [i, j, q] := by kernel_rfl) (e : setAll L (upS PL (bl n m)) = S := by dsimp only [setAll, List.foldl, List.set, upS, bl, Nat.reduceMod, Nat.reduceDiv, Nat.reduceBEq]) : aN IT P W ops FIN S0 ps n (k + 1) m σ :=
  aN_n hops hS hps [i, j, q] (all_cons (aopAt_l hops ho h) (all_cons (aopAt_l hops ho' h') (all_cons (aopAt_l hops ho'' h'') all_nil))) hr (by simp) e
end
end Go.Ab

