/-
  The abstract state, what operations do on it, and that the model does the same.
-/
import Derived.Test.YtcdmdnadilafhaaDoorZdA
import Derived.Laws.CopyRow
import Derived.OrdersIn
set_option linter.unusedSimpArgs false
set_option linter.unusedVariables false
namespace Go.Ab
open Go Go.RowKit Go.Fwd
structure St where
  boxes : List (TypeId × List AV)
  lens : List Nat
  elems : List TypeId
  out : Nat := 0
  stop : Bool := false
  deriving Inhabited
structure Inv (IT : IterP) (σ : St) (X : Cx) : Prop where
  lens : X.lens = σ.lens
  elems : X.β.map (·.elem) = σ.elems
  κlen : X.κ.length = σ.boxes.length
  κnd : ∀ (s s' b : Nat), X.κ[s]? = some b → X.κ[s']? = some b → s ≠ s' → (∃ t, σ.boxes[s]? = some (t, [])) ∨ (∃ t, σ.boxes[s']? = some (t, []))
  box : ∀ (s b : Nat) (t : TypeId) (cs : List AV), X.κ[s]? = some b → σ.boxes[s]? = some (t, cs) →
    ∃ vs zs : List Value, X.w.heap[b]? = some (.cells (vs ++ zs).toArray t (0, 0)) ∧ RepL IT X cs vs ∧ ∀ v ∈ vs, v.oneCell' = true
  κF : ∀ (s b : Nat) (t : TypeId) (cs : List AV), X.κ[s]? = some b → σ.boxes[s]? = some (t, cs) → cs ≠ [] → ∀ o, ¬ X.F b o
  βlen : X.β.length = X.lens.length
  βnd : (X.β.map (·.block)).Nodup
  βκ : ∀ r ∈ X.β, r.block ∉ X.κ
  row : ∀ (s : Nat) (r : Row) (L : Nat), X.β[s]? = some r → X.lens[s]? = some L → ∃ cur fz, X.w.heap[r.block]? = some (.cells cur r.elem fz) ∧ cur.size = r.cap * r.size ∧ r.cap ≤ maxLen ∧ 0 < r.size ∧ L ≤ cur.size ∧
    (∀ o, X.F r.block o → o < L) ∧ fz.2 ≤ L
  Ok : ∀ (b : Nat), X.O b → (∃ cs t f, X.w.heap[b]? = some (.cells cs t f)) ∧ b ∉ X.κ ∧ (∀ r ∈ X.β, r.block ≠ b) ∧ ∀ o, X.F b o → X.C b o
  Fcell : ∀ (b o : Nat), X.F b o → ∃ v, X.w.cell? ⟨b, o, none⟩ = some v
  gv : IT.gv X.F X.w := by first | exact gv_ext (by assumption) (by assumption) (Inv.gv (by assumption)) | exact Inv.gv (by assumption)
def val? (P : Program) {α : Type} : Sem α → Option α
  | .pure a => some a
  | .program k => val? P (k P)
  | .mark _ k => val? P k
  | _ => none
theorem val?_run {P : Program} {α : Type} : ∀ (s : Sem α) (a : α), val? P s = some a → ∀ w, s.run P w = .ok a w := by
  intro s
  induction s with
  | pure b => intro a h w; simp [val?] at h; subst h; rfl
  | program k ih => intro a h w; exact ih P a h w
  | mark m k ih => intro a h w; exact ih a h w
  | _ => intro a h; cases h
theorem val?_bind {P : Program} {α β : Type} (s : Sem α) (f : α → Sem β) : val? P (s.bind f) = (val? P s).bind fun a => val? P (f a) := by
  induction s with
  | pure a => rfl
  | program k ih => exact ih P
  | mark m k ih => exact ih
  | _ => rfl
def ofCell : Value → AV
  | .slice none 0 0 => .list 0 [] .full
  | v => .raw v
def ofVal : Value → AV
  | .agg cs => .agg (cs.toList.map ofCell)
  | v => ofCell v
def rawCell : AV → Option Value
  | .raw v => some v
  | _ => none
def rawCells : List AV → Option (List Value)
  | [] => some []
  | a :: l => match rawCell a, rawCells l with | some v, some r => some (v :: r) | _, _ => none
def toVal : AV → Option Value
  | .raw v => some v
  | .agg cs => (rawCells cs).map fun vs => .agg vs.toArray
  | _ => none
def cellsOf : AV → List AV
  | .agg cs => cs
  | a => [a]
def rd (P : Program) (t : TypeId) (cs : List AV) : Option AV :=
  match P.underlying t, P.info? t with
  | some (.struct _), some i | some (.array _ _), some i => if i.size ≤ cs.length then some (.agg (cs.take i.size)) else none
  | some _, some _ => cs.head?
  | _, _ => none
theorem repL_length {IT : IterP} {X : Cx} : ∀ {l : List AV} {vs : List Value}, RepL IT X l vs → l.length = vs.length
  | [], vs, h => by rw [RepL] at h; rw [h]; rfl
  | a :: l, vs, h => by
    rw [RepL] at h
    obtain ⟨v, r, e, _, h⟩ := h
    rw [e, List.length_cons, List.length_cons, repL_length h]
theorem repL_get {IT : IterP} {X : Cx} : ∀ {l : List AV} {vs : List Value}, RepL IT X l vs → ∀ (i : Nat) a, l[i]? = some a → ∃ v, vs[i]? = some v ∧ Rep IT X a v
  | [], vs, h, i, a, e => by simp at e
  | b :: l, vs, h, i, a, e => by
    rw [RepL] at h
    obtain ⟨v, r, rfl, h1, h2⟩ := h
    cases i with
    | zero => simp at e; subst e; exact ⟨v, rfl, h1⟩
    | succ i => simp at e; simpa using repL_get h2 i a e
theorem repL_mk {IT : IterP} {X : Cx} : ∀ {l : List AV} {vs : List Value}, l.length = vs.length → (∀ (i : Nat) a v, l[i]? = some a → vs[i]? = some v → Rep IT X a v) → RepL IT X l vs
  | [], vs, h, _ => by rw [RepL]; exact List.length_eq_zero_iff.1 h.symm
  | b :: l, [], h, _ => by simp at h
  | b :: l, v :: vs, h, k => by
    rw [RepL]
    exact ⟨v, vs, rfl, k 0 b v rfl rfl, repL_mk (by simpa using h) fun i a u h1 h2 => k (i + 1) a u (by simpa using h1) (by simpa using h2)⟩
theorem repL_append {IT : IterP} {X : Cx} {l m : List AV} {vs us : List Value} (h : RepL IT X l vs) (k : RepL IT X m us) : RepL IT X (l ++ m) (vs ++ us) := by
  have hl := repL_length h
  refine repL_mk (by simp [hl, repL_length k]) fun i a v h1 h2 => ?_
  rcases Nat.lt_or_ge i l.length with hi | hi
  · rw [List.getElem?_append_left hi] at h1
    rw [List.getElem?_append_left (by omega)] at h2
    obtain ⟨v', e, hr⟩ := repL_get h i a h1
    rw [h2] at e; cases e; exact hr
  · rw [List.getElem?_append_right hi] at h1
    rw [List.getElem?_append_right (by omega)] at h2
    rw [hl] at h1
    obtain ⟨v', e, hr⟩ := repL_get k _ a h1
    rw [h2] at e; cases e; exact hr
theorem repL_drop {IT : IterP} {X : Cx} {l : List AV} {vs : List Value} (h : RepL IT X l vs) (n : Nat) : RepL IT X (l.drop n) (vs.drop n) := by
  refine repL_mk (by simp [repL_length h]) fun i a v h1 h2 => ?_
  rw [List.getElem?_drop] at h1 h2
  obtain ⟨v', e, hr⟩ := repL_get h _ a h1
  rw [h2] at e; cases e; exact hr
theorem repL_take {IT : IterP} {X : Cx} {l : List AV} {vs : List Value} (h : RepL IT X l vs) (n : Nat) : RepL IT X (l.take n) (vs.take n) := by
  refine repL_mk (by simp [repL_length h]) fun i a v h1 h2 => ?_
  rw [List.getElem?_take] at h1 h2
  split at h1
  · rename_i hi
    rw [if_pos hi] at h2
    obtain ⟨v', e, hr⟩ := repL_get h _ a h1
    rw [h2] at e; cases e; exact hr
  · cases h1
theorem rep_ofCell {IT : IterP} {X : Cx} (v : Value) : Rep IT X (ofCell v) v := by
  unfold ofCell
  split
  · rw [Rep]; exact ⟨none, 0, rfl, ⟨Nat.le_refl _, fun _ => rfl⟩, .inl rfl, rfl⟩
  · rw [Rep]
def okVal : Value → Bool
  | .agg cs => cs.toList.all (·.oneCell')
  | _ => true
theorem rep_ofVal {IT : IterP} {X : Cx} (v : Value) (h : okVal v = true) : Rep IT X (ofVal v) v := by
  unfold ofVal
  split
  · rename_i cs
    rw [Rep]
    refine ⟨cs.toList, by simp, repL_mk (by simp) fun i a v h1 h2 => ?_, fun u hu => by simpa using List.all_eq_true.1 h u hu⟩
    rw [List.getElem?_map, h2] at h1
    simp at h1; subst h1
    exact rep_ofCell v
  · exact rep_ofCell _
theorem rep_rawCells {IT : IterP} {X : Cx} : ∀ {l : List AV} {us vs : List Value}, rawCells l = some us → RepL IT X l vs → vs = us
  | [], us, vs, h, k => by rw [RepL] at k; simp [rawCells] at h; rw [k, h]
  | a :: l, us, vs, h, k => by
    rw [RepL] at k
    obtain ⟨v, r, rfl, h1, h2⟩ := k
    cases a with
    | raw u =>
      simp only [rawCells, rawCell] at h
      cases hr : rawCells l with
      | none => rw [hr] at h; cases h
      | some us' =>
        rw [hr] at h
        simp at h
        rw [Rep] at h1
        rw [← h, h1, rep_rawCells hr h2]
    | _ => simp [rawCells, rawCell] at h
theorem rep_toVal {IT : IterP} {X : Cx} {a : AV} {u v : Value} (h : toVal a = some u) (k : Rep IT X a v) : v = u := by
  cases a with
  | raw w => simp [toVal] at h; rw [Rep] at k; rw [k, h]
  | agg cs =>
    simp only [toVal, Option.map_eq_some_iff] at h
    obtain ⟨us, h1, rfl⟩ := h
    rw [Rep] at k
    obtain ⟨vs, rfl, k2, _⟩ := k
    rw [rep_rawCells h1 k2]
  | _ => simp [toVal] at h
def Cells (IT : IterP) (X : Cx) (cs : List AV) (b o : Nat) : Prop :=
  ∃ vs : List Value, RepL IT X cs vs ∧ (∀ v ∈ vs, v.oneCell' = true) ∧ ∀ (j : Nat) v, vs[j]? = some v → X.w.cell? ⟨b, o + j, none⟩ = some v
theorem at_cells {IT : IterP} {X : Cx} : ∀ {cs : List AV} {b o : Nat}, At IT X cs b o → Cells IT X cs b o
  | [], b, o, _ => ⟨[], by rw [RepL], by simp, by simp⟩
  | c :: cs, b, o, h => by
    rw [At] at h
    obtain ⟨⟨hf, v, hv, h1, hr⟩, ht⟩ := h
    obtain ⟨vs, k1, k2, k3⟩ := at_cells ht
    refine ⟨v :: vs, by rw [RepL]; exact ⟨v, vs, rfl, hr, k1⟩, fun u hu => ?_, fun j u hj => ?_⟩
    · rcases List.mem_cons.1 hu with rfl | hu
      · exact h1
      · exact k2 u hu
    · cases j with
      | zero => simp at hj; subst hj; exact hv
      | succ j =>
        have := k3 j u (by simpa using hj)
        rw [show o + (j + 1) = o + 1 + j by omega]; exact this
theorem at_drop {IT : IterP} {X : Cx} : ∀ {cs : List AV} {b o : Nat} (n : Nat), At IT X cs b o → At IT X (cs.drop n) b (o + n)
  | cs, b, o, 0, h => by simpa using h
  | [], b, o, n + 1, _ => by simp [At]
  | c :: cs, b, o, n + 1, h => by
    rw [At] at h
    have := at_drop n h.2
    rw [List.drop_succ_cons, show o + (n + 1) = o + 1 + n by omega]; exact this
theorem at_take {IT : IterP} {X : Cx} : ∀ {cs : List AV} {b o : Nat} (n : Nat), At IT X cs b o → At IT X (cs.take n) b o
  | cs, b, o, 0, h => by simp [At]
  | [], b, o, n + 1, _ => by simp [At]
  | c :: cs, b, o, n + 1, h => by
    rw [At] at h
    rw [List.take_succ_cons, At]
    exact ⟨h.1, at_take n h.2⟩
theorem cells_drop {IT : IterP} {X : Cx} {cs : List AV} {b o : Nat} (h : Cells IT X cs b o) (n : Nat) : Cells IT X (cs.drop n) b (o + n) := by
  obtain ⟨vs, k1, k2, k3⟩ := h
  refine ⟨vs.drop n, repL_drop k1 n, fun v hv => k2 v (List.mem_of_mem_drop hv), fun j v hj => ?_⟩
  rw [List.getElem?_drop] at hj
  rw [Nat.add_assoc]; exact k3 _ v hj
theorem run_isAgg {P : Program} {t : TypeId} {d : TypeDesc} (h : P.underlying t = some d) (w : World) : (isAgg t).run P w = .ok (match d with | .struct _ | .array _ _ => true | _ => false) w := by
  unfold isAgg underlying
  cases d <;> simp [program, Sem.run, h]
theorem run_sizeOf {P : Program} {t : TypeId} {i : TypeInfo} (h : P.info? t = some i) (w : World) : (sizeOf t).run P w = .ok i.size w := by
  unfold sizeOf typeInfo
  simp [program, Sem.run, h]
theorem load_sound {IT : IterP} {P : Program} {X : Cx} {t : TypeId} {cs : List AV} {a : AV} {b o : Nat} (h : rd P t cs = some a) (hc : Cells IT X cs b o) :
    ∃ v, (loadVar t ⟨b, o, none⟩).run P X.w = .ok v X.w ∧ Rep IT X a v := by
  obtain ⟨vs, k1, k2, k3⟩ := hc
  have hadd : ∀ j, (⟨b, o, none⟩ : Addr).add j = ⟨b, o + j, none⟩ := fun j => by unfold Addr.add; split <;> simp_all
  unfold rd at h
  cases hu : P.underlying t with
  | none => rw [hu] at h; cases P.info? t <;> simp at h
  | some d =>
    cases hi : P.info? t with
    | none => rw [hu, hi] at h; cases d <;> simp at h
    | some i =>
      rw [hu, hi] at h
      have agg : (if i.size ≤ cs.length then some (AV.agg (cs.take i.size)) else none) = some a → ((loadCells ⟨b, o, none⟩ i.size).run P X.w = .ok (vs.take i.size).toArray X.w) ∧ Rep IT X a (.agg (vs.take i.size).toArray) := by
        intro h
        split at h
        · rename_i hle
          simp at h; subst h
          have hl := repL_length k1
          have hlen : (vs.take i.size).length = i.size := by simp; omega
          refine ⟨?_, ?_⟩
          · have := run_loadCells_list (P := P) X.w ⟨b, o, none⟩ (vs.take i.size) (fun j v hj => by
              rw [hadd]
              rw [List.getElem?_take] at hj
              split at hj
              · exact k3 j v hj
              · cases hj)
            rw [hlen] at this; exact this
          · rw [Rep]
            exact ⟨_, rfl, repL_take k1 _, fun u hu => k2 u (List.mem_of_mem_take hu)⟩
        · cases h
      have one : cs.head? = some a → ∃ v, (load ⟨b, o, none⟩).run P X.w = .ok v X.w ∧ Rep IT X a v := by
        intro h
        have h0 : cs[0]? = some a := by rw [← List.head?_eq_getElem?]; exact h
        obtain ⟨v, hv, hr⟩ := repL_get k1 0 a h0
        have := k3 0 v hv
        refine ⟨v, ?_, hr⟩
        simp only [Nat.add_zero] at this
        simp [load, Sem.run, this]
      unfold loadVar
      cases d with
      | struct fs =>
        obtain ⟨h1, h2⟩ := agg h
        exact ⟨_, by simp [run_isAgg hu, run_sizeOf hi, h1], h2⟩
      | array n e =>
        obtain ⟨h1, h2⟩ := agg h
        exact ⟨_, by simp [run_isAgg hu, run_sizeOf hi, h1], h2⟩
      | _ =>
        obtain ⟨v, h1, h2⟩ := one h
        exact ⟨v, by simp only [Sem.run_bind, run_isAgg hu, Result.andThen_ok, Bool.false_eq_true, if_false, h1], h2⟩
end Go.Ab

