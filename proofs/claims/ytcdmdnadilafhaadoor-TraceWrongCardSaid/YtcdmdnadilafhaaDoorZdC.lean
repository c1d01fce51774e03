/-
  Operations of the abstract machine, one by one, and that the model does the same.
-/
import Derived.Test.YtcdmdnadilafhaaDoorZdB
set_option linter.unusedSimpArgs false
set_option linter.unusedVariables false
namespace Go.Ab
open Go Go.RowKit Go.Fwd
def Res (IT : IterP) (X : Cx) (σ' : St) (a : AV) (r : Result Next) : Prop :=
  ∃ v X', (r = .ok (.value v) X'.w ∨ (r = .ok .skip X'.w ∧ v = undef)) ∧ Ext X X' ∧ Inv IT σ' X' ∧ Rep IT X' a v
def rawEnv (ρ : Operand → AV) (x : Operand) : Value := (toVal (ρ x)).getD undef
def rawOp (P : Program) (ρ : Operand → AV) (o : Oper) : Option AV :=
  if o.op.operands.toList.all (fun x => (toVal (ρ x)).isSome) then
    match o.op with
    | .select _ _ => none
    | _ => match val? P (execOp (rawEnv ρ) o) with
      | some (.value v) => if okVal v then some (ofVal v) else none
      | _ => none
  else none
theorem add_mk (b o n : Nat) : (⟨b, o, none⟩ : Addr).add n = ⟨b, o + n, none⟩ := by unfold Addr.add; split <;> simp_all
def aLoad (P : Program) (σ : St) (t : TypeId) : AV → Option AV
  | .iptr cs => rd P t cs
  | .ptr s off => match σ.boxes[s]? with | some bx => rd P t (bx.2.drop off) | none => none
  | _ => none
theorem box_cells {IT : IterP} {X : Cx} {σ : St} (hI : Inv IT σ X) {s b : Nat} {bx : TypeId × List AV} (hs : X.κ[s]? = some b) (hb : σ.boxes[s]? = some bx) (off : Nat) : Cells IT X (bx.2.drop off) b off := by
  obtain ⟨vs, zs, h1, h2, h3⟩ := hI.box s b bx.1 bx.2 hs hb
  have : Cells IT X bx.2 b 0 := ⟨vs, h2, h3, fun j v hj => by
    rw [Nat.zero_add, cell_of_row _ _ _ _ _ _ h1]
    have := (List.getElem?_eq_some_iff.1 hj).1
    rw [List.getElem?_toArray, List.getElem?_append_left this]; exact hj⟩
  have := cells_drop this off
  rwa [Nat.zero_add] at this
theorem aLoad_sound {IT : IterP} {P : Program} {X : Cx} {σ : St} {t : TypeId} {x a : AV} {u : Value} (h : aLoad P σ t x = some a) (hx : Rep IT X x u) (hI : Inv IT σ X) :
    ∃ v, (Instr.loadAt t u).run P X.w = .ok v X.w ∧ Rep IT X a v := by
  cases x with
  | iptr cs =>
    rw [Rep] at hx
    obtain ⟨b, o, rfl, hat⟩ := hx
    obtain ⟨v, h1, h2⟩ := load_sound (b := b) (o := o) h (at_cells hat)
    exact ⟨v, by simp [Instr.loadAt, Instr.sureAddr, h1], h2⟩
  | ptr s off =>
    rw [Rep] at hx
    obtain ⟨b, hb, rfl⟩ := hx
    simp only [aLoad] at h
    cases hs : σ.boxes[s]? with
    | none => rw [hs] at h; cases h
    | some bx =>
      rw [hs] at h
      obtain ⟨v, h1, h2⟩ := load_sound (b := b) (o := off) h (box_cells hI hb hs off)
      exact ⟨v, by simp [Instr.loadAt, Instr.sureAddr, h1], h2⟩
  | _ => cases h
def aMove (n : Nat) : AV → Option AV
  | .ptr s off => some (.ptr s (off + n))
  | .iptr cs => some (.iptr (cs.drop n))
  | _ => none
theorem aMove_sound {IT : IterP} {X : Cx} {n : Nat} {x a : AV} {u : Value} (h : aMove n x = some a) (hx : Rep IT X x u) : ∃ ad, u = .pointer (some ad) ∧ Rep IT X a (.pointer (some (ad.add n))) := by
  cases x with
  | iptr cs =>
    rw [Rep] at hx
    obtain ⟨b, o, rfl, hat⟩ := hx
    simp [aMove] at h; subst h
    refine ⟨_, rfl, ?_⟩
    rw [Rep]
    exact ⟨b, o + n, by rw [add_mk], at_drop n hat⟩
  | ptr s off =>
    rw [Rep] at hx
    obtain ⟨b, hb, rfl⟩ := hx
    simp [aMove] at h; subst h
    refine ⟨_, rfl, ?_⟩
    rw [Rep]
    exact ⟨b, hb, by rw [add_mk]⟩
  | _ => cases h
def sizeT (P : Program) (t : TypeId) : Option Nat := (P.info? t).map (·.size)
theorem run_sizeT {P : Program} {t : TypeId} {n : Nat} (h : sizeT P t = some n) (w : World) : (sizeOf t).run P w = .ok n w := by
  unfold sizeT at h
  cases hi : P.info? t with
  | none => simp [hi] at h
  | some i => simp [hi] at h; rw [run_sizeOf hi, h]
def aFieldAddr (P : Program) (t : TypeId) (f : Nat) (x : AV) : Option AV :=
  match P.underlying t with
  | some (.struct fs) => match fs[f]? with
    | some fd => match sizeT P fd.type with
      | some n => if n = 0 then none else aMove fd.offset x
      | none => none
    | none => none
  | _ => none
theorem aFieldAddr_sound {IT : IterP} {P : Program} {X : Cx} {t : TypeId} {f : Nat} {x a : AV} {u : Value} (h : aFieldAddr P t f x = some a) (hx : Rep IT X x u) :
    ∃ v, (Instr.fieldAt t u f).run P X.w = .ok v X.w ∧ Rep IT X a v := by
  unfold aFieldAddr at h
  split at h <;> try cases h
  rename_i fs hu
  split at h <;> try cases h
  rename_i fd hf
  split at h <;> try cases h
  rename_i n hn
  split at h
  · cases h
  rename_i h0
  obtain ⟨ad, rfl, hr⟩ := aMove_sound h hx
  refine ⟨_, ?_, hr⟩
  simp [Instr.fieldAt, underlying, program, Sem.run, hu, hf, Instr.sureAddr, fieldPlace, run_sizeT hn, h0]
def aIndexAddr (P : Program) (t : TypeId) (x i : AV) : Option AV :=
  match i with
  | .raw (.int k n) => match P.underlying t with
    | some (.array len e) => match sizeT P e with
      | some sz => if 0 ≤ n ∧ n < len then aMove (n.toNat * sz) x else none
      | none => none
    | some (.slice e) => match sizeT P e, x with
      | some sz, .list len cs _ => if 0 ≤ n ∧ n < len ∧ cs ≠ [] then some (.iptr (cs.drop (n.toNat * sz))) else none
      | some sz, .bsl s off len _ _ => if 0 ≤ n ∧ n < len then some (.ptr s (off + n.toNat * sz)) else none
      | _, _ => none
    | _ => none
  | _ => none
theorem aIndexAddr_sound {IT : IterP} {P : Program} {X : Cx} {t : TypeId} {x i a : AV} {u j : Value} (h : aIndexAddr P t x i = some a) (hx : Rep IT X x u) (hi : Rep IT X i j) :
    ∃ v, (Instr.indexAt t u j).run P X.w = .ok v X.w ∧ Rep IT X a v := by
  unfold aIndexAddr at h
  split at h <;> try cases h
  rename_i k n
  rw [Rep] at hi; subst hi
  split at h <;> try cases h
  · rename_i len e hu
    split at h <;> try cases h
    rename_i sz hn
    split at h
    · rename_i hb
      obtain ⟨ad, rfl, hr⟩ := aMove_sound h hx
      refine ⟨_, ?_, hr⟩
      simp [Instr.indexAt, asIntOf, underlying, program, Sem.run, hu, Instr.sureAddr, run_sizeT hn, hb]
    · cases h
  · rename_i e hu
    split at h <;> try cases h
    · rename_i sz len cs st hn
      split at h
      · rename_i hb
        cases h
        rw [Rep] at hx
        obtain ⟨ad, cap, rfl, _, hc, _⟩ := hx
        rcases hc with hc | ⟨b, o, rfl, hat⟩
        · exact absurd hc hb.2.2
        · refine ⟨.pointer (some ((⟨b, o, none⟩ : Addr).add (n.toNat * sz))), ?_, ?_⟩
          · simp [Instr.indexAt, asIntOf, underlying, program, Sem.run, hu, run_sizeT hn, hb.1, hb.2.1]
          · rw [Rep]
            exact ⟨b, o + n.toNat * sz, by rw [add_mk], at_drop _ hat⟩
      · cases h
    · rename_i sz s off len sz' f hn
      split at h
      · rename_i hb
        cases h
        rw [Rep] at hx
        obtain ⟨b, cap, cur, t0, hk, rfl, _⟩ := hx
        refine ⟨.pointer (some ((⟨b, off, none⟩ : Addr).add (n.toNat * sz))), ?_, ?_⟩
        · simp [Instr.indexAt, asIntOf, underlying, program, Sem.run, hu, run_sizeT hn, hb.1, hb.2]
        · rw [Rep]
          exact ⟨b, hk, by rw [add_mk]⟩
      · cases h
def aPart (P : Program) (t : TypeId) (cs : List AV) (off : Nat) : Option AV := rd P t (cs.drop off)
theorem part_sound {IT : IterP} {P : Program} {X : Cx} {t : TypeId} {cs : List AV} {off : Nat} {a : AV} {vs : List Value} (h : aPart P t cs off = some a) (hr : RepL IT X cs vs) (h1 : ∀ v ∈ vs, v.oneCell' = true) :
    ∃ v, (part t vs.toArray off).run P X.w = .ok v X.w ∧ Rep IT X a v := by
  unfold aPart rd at h
  have hd := repL_drop hr off
  cases hu : P.underlying t with
  | none => rw [hu] at h; cases P.info? t <;> simp at h
  | some d =>
    cases hi : P.info? t with
    | none => rw [hu, hi] at h; cases d <;> simp at h
    | some i =>
      rw [hu, hi] at h
      have agg : (if i.size ≤ (cs.drop off).length then some (AV.agg ((cs.drop off).take i.size)) else none) = some a → Rep IT X a (.agg (vs.toArray.extract off (off + i.size))) := by
        intro h
        split at h
        · cases h
          rw [Rep]
          refine ⟨(vs.drop off).take i.size, ?_, repL_take hd _, fun u hu => h1 u (List.mem_of_mem_drop (List.mem_of_mem_take hu))⟩
          congr 1
          apply Array.ext'
          simp [List.extract_eq_take_drop]
        · cases h
      unfold part
      cases d with
      | struct fs => exact ⟨_, by simp [run_isAgg hu, run_sizeOf hi], agg h⟩
      | array n e => exact ⟨_, by simp [run_isAgg hu, run_sizeOf hi], agg h⟩
      | _ =>
        simp only [List.head?_drop] at h
        obtain ⟨v, hv, hr'⟩ := repL_get hr off a h
        refine ⟨v, ?_, hr'⟩
        have : vs.toArray[off]? = some v := by simpa using hv
        simp only [Sem.run_bind, run_isAgg hu, Result.andThen_ok, Bool.false_eq_true, if_false, this, Sem.run_pure]
def aField (P : Program) (t : TypeId) (f : Nat) : AV → Option AV
  | .agg cs => match P.underlying t with
    | some (.struct fs) => match fs[f]? with
      | some fd => aPart P fd.type cs fd.offset
      | none => none
    | _ => none
  | _ => none
theorem aField_sound {IT : IterP} {P : Program} {X : Cx} {t : TypeId} {f : Nat} {x a : AV} {u : Value} (h : aField P t f x = some a) (hx : Rep IT X x u) :
    ∃ v, (Instr.field t u f).run P X.w = .ok v X.w ∧ Rep IT X a v := by
  cases x with
  | agg cs =>
    rw [Rep] at hx
    obtain ⟨vs, rfl, hr, h1⟩ := hx
    simp only [aField] at h
    split at h <;> try cases h
    rename_i fs hu
    split at h <;> try cases h
    rename_i fd hf
    obtain ⟨v, k1, k2⟩ := part_sound h hr h1
    exact ⟨v, by simp [Instr.field, underlying, program, Sem.run, hu, hf, asAgg, k1], k2⟩
  | _ => cases h
def aIndex (P : Program) (t : TypeId) (x i : AV) : Option AV :=
  match i, x with
  | .raw (.int k n), .agg cs => match P.underlying t with
    | some (.array len e) => match sizeT P e with
      | some sz => if 0 ≤ n ∧ n < len then aPart P e cs (n.toNat * sz) else none
      | none => none
    | _ => none
  | _, _ => none
theorem aIndex_sound {IT : IterP} {P : Program} {X : Cx} {t : TypeId} {x i a : AV} {u j : Value} (h : aIndex P t x i = some a) (hx : Rep IT X x u) (hi : Rep IT X i j) :
    ∃ v, (Instr.index t u j).run P X.w = .ok v X.w ∧ Rep IT X a v := by
  unfold aIndex at h
  split at h <;> try cases h
  rename_i k n cs
  rw [Rep] at hi; subst hi
  rw [Rep] at hx
  obtain ⟨vs, rfl, hr, h1⟩ := hx
  split at h <;> try cases h
  rename_i len e hu
  split at h <;> try cases h
  rename_i sz hn
  split at h
  · rename_i hb
    obtain ⟨v, k1, k2⟩ := part_sound h hr h1
    exact ⟨v, by simp [Instr.index, asIntOf, underlying, program, Sem.run, hu, run_sizeT hn, hb, k1], k2⟩
  · cases h
end Go.Ab

