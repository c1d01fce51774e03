/-
  Operations of the abstract machine, one by one, and that the model zvs the same.
-/
import Derived.Test.YtmoncghgagmilaaZdA
import Derived.Laws.CopyRow
import Derived.OrdersIn
set_option linter.unusedSimpArgs false
set_option linter.unusedVariables false
namespace Go.Ab
open Go Go.RowKit Go.Fwd
structure St where
 boxes : List (TypeId × List AV)
 lens : List Nat
 elems : List TypeId
 out : Nat := 0
 stop : Bool := false
 deriving Inhabited
structure Inv (IT : IterP) (σ : St) (X : Cx) : Prop where
 lens : X.lens = σ.lens
 elems : X.β.map (·.elem) = σ.elems
 κlen : X.κ.length = σ.boxes.length
 κnd : ∀ (s s' b : Nat), X.κ[s]? = some b → X.κ[s']? = some b → s ≠ s' → (∃ t, σ.boxes[s]? = some (t, [])) ∨ (∃ t, σ.boxes[s']? = some (t, []))
 box : ∀ (s b : Nat) (t : TypeId) (cs : List AV), X.κ[s]? = some b → σ.boxes[s]? = some (t, cs) →
  ∃ vs zs : List Value, X.w.heap[b]? = some (.cells (vs ++ zs).toArray t (0, 0)) ∧ za9 IT X cs vs ∧ ∀ v ∈ vs, v.oneCell' = true
 κF : ∀ (s b : Nat) (t : TypeId) (cs : List AV), X.κ[s]? = some b → σ.boxes[s]? = some (t, cs) → cs ≠ [] → ∀ o, ¬ X.F b o
 βlen : X.β.length = X.lens.length
 βnd : (X.β.map (·.block)).Nodup
 βκ : ∀ r ∈ X.β, r.block ∉ X.κ
 row : ∀ (s : Nat) (r : Row) (L : Nat), X.β[s]? = some r → X.lens[s]? = some L → ∃ cur fz, X.w.heap[r.block]? = some (.cells cur r.elem fz) ∧ cur.size = r.cap * r.size ∧ r.cap ≤ maxLen ∧ 0 < r.size ∧ L ≤ cur.size ∧
  (∀ o, X.F r.block o → o < L) ∧ fz.2 ≤ L
 Ok : ∀ (b : Nat), X.O b → (∃ cs t f, X.w.heap[b]? = some (.cells cs t f)) ∧ b ∉ X.κ ∧ (∀ r ∈ X.β, r.block ≠ b) ∧ ∀ o, X.F b o → X.C b o
 Fcell : ∀ (b o : Nat), X.F b o → ∃ v, X.w.cell? ⟨b, o, none⟩ = some v
 gv : IT.gv X.F X.w := by first | exact z29 (by assumption) (by assumption) (Inv.gv (by assumption)) | exact Inv.gv (by assumption)
def val? (P : Program) {α : Type} : Sem α → Option α
 | .pure a => some a
 | .program k => val? P (k P)
 | .mark _ k => val? P k
 | _ => none
theorem val?_run {P : Program} {α : Type} : ∀ (s : Sem α) (a : α), val? P s = some a → ∀ w, s.run P w = .ok a w := by
 intro s
 induction s with
 | pure b => intro a h w; simp [val?] at h; subst h; rfl
 | program k ih => intro a h w; exact ih P a h w
 | mark m k ih => intro a h w; exact ih a h w
 | _ => intro a h; cases h
theorem val?_bind {P : Program} {α β : Type} (s : Sem α) (f : α → Sem β) : val? P (s.bind f) = (val? P s).bind fun a => val? P (f a) := by
 induction s with
 | pure a => rfl
 | program k ih => exact ih P
 | mark m k ih => exact ih
 | _ => rfl
def zg5 : Value → AV
 | .slice none 0 0 => .list 0 [] .full
 | v => .raw v
def zjm : Value → AV
 | .agg cs => .agg (cs.toList.map zg5)
 | v => zg5 v
def zh7 : AV → Option Value
 | .raw v => some v
 | _ => none
def zd4 : List AV → Option (List Value)
 | [] => some []
 | a :: l => match zh7 a, zd4 l with | some v, some r => some (v :: r) | _, _ => none
def zg6 : AV → Option Value
 | .raw v => some v
 | .agg cs => (zd4 cs).map fun vs => .agg vs.toArray
 | _ => none
def cellsOf : AV → List AV
 | .agg cs => cs
 | a => [a]
def rd (P : Program) (t : TypeId) (cs : List AV) : Option AV :=
 match P.underlying t, P.info? t with
 | some (.struct _), some i | some (.array _ _), some i => if i.size ≤ cs.length then some (.agg (cs.take i.size)) else none
 | some _, some _ => cs.head?
 | _, _ => none
theorem zq {IT : IterP} {X : Cx} : ∀ {l : List AV} {vs : List Value}, za9 IT X l vs → l.length = vs.length
 | [], vs, h => by rw [za9] at h; rw [h]; rfl
 | a :: l, vs, h => by
  rw [za9] at h
  obtain ⟨v, r, e, _, h⟩ := h
  rw [e, List.length_cons, List.length_cons, zq h]
theorem zdv {IT : IterP} {X : Cx} : ∀ {l : List AV} {vs : List Value}, za9 IT X l vs → ∀ (i : Nat) a, l[i]? = some a → ∃ v, vs[i]? = some v ∧ Rep IT X a v
 | [], vs, h, i, a, e => by simp at e
 | b :: l, vs, h, i, a, e => by
  rw [za9] at h
  obtain ⟨v, r, rfl, h1, h2⟩ := h
  cases i with
  | zero => simp at e; subst e; exact ⟨v, rfl, h1⟩
  | succ i => simp at e; simpa using zdv h2 i a e
theorem zes {IT : IterP} {X : Cx} : ∀ {l : List AV} {vs : List Value}, l.length = vs.length → (∀ (i : Nat) a v, l[i]? = some a → vs[i]? = some v → Rep IT X a v) → za9 IT X l vs
 | [], vs, h, _ => by rw [za9]; exact List.length_eq_zero_iff.1 h.symm
 | b :: l, [], h, _ => by simp at h
 | b :: l, v :: vs, h, k => by
  rw [za9]
  exact ⟨v, vs, rfl, k 0 b v rfl rfl, zes (by simpa using h) fun i a u h1 h2 => k (i + 1) a u (by simpa using h1) (by simpa using h2)⟩
theorem zbn {IT : IterP} {X : Cx} {l m : List AV} {vs us : List Value} (h : za9 IT X l vs) (k : za9 IT X m us) : za9 IT X (l ++ m) (vs ++ us) := by
 have hl := zq h
 refine zes (by simp [hl, zq k]) fun i a v h1 h2 => ?_
 rcases Nat.lt_or_ge i l.length with hi | hi
 ·rw [List.getElem?_append_left hi] at h1
  rw [List.getElem?_append_left (by omega)] at h2
  obtain ⟨v', e, hr⟩ := zdv h i a h1
  rw [h2] at e; cases e; exact hr
 ·rw [List.getElem?_append_right hi] at h1
  rw [List.getElem?_append_right (by omega)] at h2
  rw [hl] at h1
  obtain ⟨v', e, hr⟩ := zdv k _ a h1
  rw [h2] at e; cases e; exact hr
theorem zfs {IT : IterP} {X : Cx} {l : List AV} {vs : List Value} (h : za9 IT X l vs) (n : Nat) : za9 IT X (l.drop n) (vs.drop n) := by
 refine zes (by simp [zq h]) fun i a v h1 h2 => ?_
 rw [List.getElem?_drop] at h1 h2
 obtain ⟨v', e, hr⟩ := zdv h _ a h1
 rw [h2] at e; cases e; exact hr
theorem zdq {IT : IterP} {X : Cx} {l : List AV} {vs : List Value} (h : za9 IT X l vs) (n : Nat) : za9 IT X (l.take n) (vs.take n) := by
 refine zes (by simp [zq h]) fun i a v h1 h2 => ?_
 rw [List.getElem?_take] at h1 h2
 split at h1
 ·rename_i hi
  rw [if_pos hi] at h2
  obtain ⟨v', e, hr⟩ := zdv h _ a h1
  rw [h2] at e; cases e; exact hr
 ·cases h1
theorem zhp {IT : IterP} {X : Cx} (v : Value) : Rep IT X (zg5 v) v := by
 unfold zg5
 split
 ·rw [Rep]; exact ⟨none, 0, rfl, ⟨Nat.le_refl _, fun _ => rfl⟩, .inl rfl, rfl⟩
 ·rw [Rep]
def znl : Value → Bool
 | .agg cs => cs.toList.all (·.oneCell')
 | _ => true
theorem zfp {IT : IterP} {X : Cx} (v : Value) (h : znl v = true) : Rep IT X (zjm v) v := by
 unfold zjm
 split
 ·rename_i cs
  rw [Rep]
  refine ⟨cs.toList, by simp, zes (by simp) fun i a v h1 h2 => ?_, fun u hu => by simpa using List.all_eq_true.1 h u hu⟩
  rw [List.getElem?_map, h2] at h1
  simp at h1; subst h1
  exact zhp v
 ·exact zhp _
theorem zm7 {IT : IterP} {X : Cx} : ∀ {l : List AV} {us vs : List Value}, zd4 l = some us → za9 IT X l vs → vs = us
 | [], us, vs, h, k => by rw [za9] at k; simp [zd4] at h; rw [k, h]
 | a :: l, us, vs, h, k => by
  rw [za9] at k
  obtain ⟨v, r, rfl, h1, h2⟩ := k
  cases a with
  | raw u =>
   simp only [zd4, zh7] at h
   cases hr : zd4 l with
   | none => rw [hr] at h; cases h
   | some us' =>
    rw [hr] at h
    simp at h
    rw [Rep] at h1
    rw [← h, h1, zm7 hr h2]
  | _ => simp [zd4, zh7] at h
theorem zus {IT : IterP} {X : Cx} {a : AV} {u v : Value} (h : zg6 a = some u) (k : Rep IT X a v) : v = u := by
 cases a with
 | raw w => simp [zg6] at h; rw [Rep] at k; rw [k, h]
 | agg cs =>
  simp only [zg6, Option.map_eq_some_iff] at h
  obtain ⟨us, h1, rfl⟩ := h
  rw [Rep] at k
  obtain ⟨vs, rfl, k2, _⟩ := k
  rw [zm7 h1 k2]
 | _ => simp [zg6] at h
def z0i (IT : IterP) (X : Cx) (cs : List AV) (b o : Nat) : Prop :=
 ∃ vs : List Value, za9 IT X cs vs ∧ (∀ v ∈ vs, v.oneCell' = true) ∧ ∀ (j : Nat) v, vs[j]? = some v → X.w.cell? ⟨b, o + j, none⟩ = some v
theorem zf6 {IT : IterP} {X : Cx} : ∀ {cs : List AV} {b o : Nat}, At IT X cs b o → z0i IT X cs b o
 | [], b, o, _ => ⟨[], by rw [za9], by simp, by simp⟩
 | c :: cs, b, o, h => by
  rw [At] at h
  obtain ⟨⟨hf, v, hv, h1, hr⟩, ht⟩ := h
  obtain ⟨vs, k1, k2, k3⟩ := zf6 ht
  refine ⟨v :: vs, by rw [za9]; exact ⟨v, vs, rfl, hr, k1⟩, fun u hu => ?_, fun j u hj => ?_⟩
  ·rcases List.mem_cons.1 hu with rfl | hu
   ·exact h1
   ·exact k2 u hu
  ·cases j with
   | zero => simp at hj; subst hj; exact hv
   | succ j =>
    have := k3 j u (by simpa using hj)
    rw [show o + (j + 1) = o + 1 + j by omega]; exact this
theorem zrz {IT : IterP} {X : Cx} : ∀ {cs : List AV} {b o : Nat} (n : Nat), At IT X cs b o → At IT X (cs.drop n) b (o + n)
 | cs, b, o, 0, h => by simpa using h
 | [], b, o, n + 1, _ => by simp [At]
 | c :: cs, b, o, n + 1, h => by
  rw [At] at h
  have := zrz n h.2
  rw [List.drop_succ_cons, show o + (n + 1) = o + 1 + n by omega]; exact this
theorem zr9 {IT : IterP} {X : Cx} : ∀ {cs : List AV} {b o : Nat} (n : Nat), At IT X cs b o → At IT X (cs.take n) b o
 | cs, b, o, 0, h => by simp [At]
 | [], b, o, n + 1, _ => by simp [At]
 | c :: cs, b, o, n + 1, h => by
  rw [At] at h
  rw [List.take_succ_cons, At]
  exact ⟨h.1, zr9 n h.2⟩
theorem z0y {IT : IterP} {X : Cx} {cs : List AV} {b o : Nat} (h : z0i IT X cs b o) (n : Nat) : z0i IT X (cs.drop n) b (o + n) := by
 obtain ⟨vs, k1, k2, k3⟩ := h
 refine ⟨vs.drop n, zfs k1 n, fun v hv => k2 v (List.mem_of_mem_drop hv), fun j v hj => ?_⟩
 rw [List.getElem?_drop] at hj
 rw [Nat.add_assoc]; exact k3 _ v hj
theorem zhc {P : Program} {t : TypeId} {d : TypeDesc} (h : P.underlying t = some d) (w : World) : (isAgg t).run P w = .ok (match d with | .struct _ | .array _ _ => true | _ => false) w := by
 unfold isAgg underlying
 cases d <;> simp [program, Sem.run, h]
theorem zhs {P : Program} {t : TypeId} {i : TypeInfo} (h : P.info? t = some i) (w : World) : (sizeOf t).run P w = .ok i.size w := by
 unfold sizeOf typeInfo
 simp [program, Sem.run, h]
theorem zp8 {IT : IterP} {P : Program} {X : Cx} {t : TypeId} {cs : List AV} {a : AV} {b o : Nat} (h : rd P t cs = some a) (hc : z0i IT X cs b o) :
 ∃ v, (loadVar t ⟨b, o, none⟩).run P X.w = .ok v X.w ∧ Rep IT X a v := by
 obtain ⟨vs, k1, k2, k3⟩ := hc
 have hadd : ∀ j, (⟨b, o, none⟩ : Addr).add j = ⟨b, o + j, none⟩ := fun j => by unfold Addr.add; split <;> simp_all
 unfold rd at h
 cases hu : P.underlying t with
 | none => rw [hu] at h; cases P.info? t <;> simp at h
 | some d =>
  cases hi : P.info? t with
  | none => rw [hu, hi] at h; cases d <;> simp at h
  | some i =>
   rw [hu, hi] at h
   have agg : (if i.size ≤ cs.length then some (AV.agg (cs.take i.size)) else none) = some a → ((loadCells ⟨b, o, none⟩ i.size).run P X.w = .ok (vs.take i.size).toArray X.w) ∧ Rep IT X a (.agg (vs.take i.size).toArray) := by
    intro h
    split at h
    ·rename_i hle
     simp at h; subst h
     have hl := zq k1
     have hlen : (vs.take i.size).length = i.size := by simp; omega
     refine ⟨?_, ?_⟩
     ·have := run_loadCells_list (P := P) X.w ⟨b, o, none⟩ (vs.take i.size) (fun j v hj => by
       rw [hadd]
       rw [List.getElem?_take] at hj
       split at hj
       ·exact k3 j v hj
       ·cases hj)
      rw [hlen] at this; exact this
     ·rw [Rep]
      exact ⟨_, rfl, zdq k1 _, fun u hu => k2 u (List.mem_of_mem_take hu)⟩
    ·cases h
   have one : cs.head? = some a → ∃ v, (load ⟨b, o, none⟩).run P X.w = .ok v X.w ∧ Rep IT X a v := by
    intro h
    have h0 : cs[0]? = some a := by rw [← List.head?_eq_getElem?]; exact h
    obtain ⟨v, hv, hr⟩ := zdv k1 0 a h0
    have := k3 0 v hv
    refine ⟨v, ?_, hr⟩
    simp only [Nat.add_zero] at this
    simp [load, Sem.run, this]
   unfold loadVar
   cases d with
   | struct fs =>
    obtain ⟨h1, h2⟩ := agg h
    exact ⟨_, by simp [zhc hu, zhs hi, h1], h2⟩
   | array n e =>
    obtain ⟨h1, h2⟩ := agg h
    exact ⟨_, by simp [zhc hu, zhs hi, h1], h2⟩
   | _ =>
    obtain ⟨v, h1, h2⟩ := one h
    exact ⟨v, by simp only [Sem.run_bind, zhc hu, Result.andThen_ok, Bool.false_eq_true, if_false, h1], h2⟩
end Go.Ab
set_option linter.unusedSimpArgs false
set_option linter.unusedVariables false
namespace Go.Ab
open Go Go.RowKit Go.Fwd
def Res (IT : IterP) (X : Cx) (σ' : St) (a : AV) (r : Result Next) : Prop :=
 ∃ v X', (r = .ok (.value v) X'.w ∨ (r = .ok .skip X'.w ∧ v = undef)) ∧ Ext X X' ∧ Inv IT σ' X' ∧ Rep IT X' a v
def zcs (ρ : Operand → AV) (x : Operand) : Value := (zg6 (ρ x)).getD undef
def zg9 (P : Program) (ρ : Operand → AV) (o : Oper) : Option AV :=
 if o.op.operands.toList.all (fun x => (zg6 (ρ x)).isSome) then
  match o.op with
  | .select _ _ => none
  | _ => match val? P (execOp (zcs ρ) o) with
   | some (.value v) => if znl v then some (zjm v) else none
   | _ => none
 else none
theorem zfo (b o n : Nat) : (⟨b, o, none⟩ : Addr).add n = ⟨b, o + n, none⟩ := by unfold Addr.add; split <;> simp_all
def z0s (P : Program) (σ : St) (t : TypeId) : AV → Option AV
 | .iptr cs => rd P t cs
 | .ptr s off => match σ.boxes[s]? with | some bx => rd P t (bx.2.drop off) | none => none
 | _ => none
theorem zlj {IT : IterP} {X : Cx} {σ : St} (hI : Inv IT σ X) {s b : Nat} {bx : TypeId × List AV} (hs : X.κ[s]? = some b) (hb : σ.boxes[s]? = some bx) (off : Nat) : z0i IT X (bx.2.drop off) b off := by
 obtain ⟨vs, zs, h1, h2, h3⟩ := hI.box s b bx.1 bx.2 hs hb
 have : z0i IT X bx.2 b 0 := ⟨vs, h2, h3, fun j v hj => by
  rw [Nat.zero_add, cell_of_row _ _ _ _ _ _ h1]
  have := (List.getElem?_eq_some_iff.1 hj).1
  rw [List.getElem?_toArray, List.getElem?_append_left this]; exact hj⟩
 have := z0y this off
 rwa [Nat.zero_add] at this
theorem zpx {IT : IterP} {P : Program} {X : Cx} {σ : St} {t : TypeId} {x a : AV} {u : Value} (h : z0s P σ t x = some a) (hx : Rep IT X x u) (hI : Inv IT σ X) :
 ∃ v, (Instr.loadAt t u).run P X.w = .ok v X.w ∧ Rep IT X a v := by
 cases x with
 | iptr cs =>
  rw [Rep] at hx
  obtain ⟨b, o, rfl, hat⟩ := hx
  obtain ⟨v, h1, h2⟩ := zp8 (b := b) (o := o) h (zf6 hat)
  exact ⟨v, by simp [Instr.loadAt, Instr.sureAddr, h1], h2⟩
 | ptr s off =>
  rw [Rep] at hx
  obtain ⟨b, hb, rfl⟩ := hx
  simp only [z0s] at h
  cases hs : σ.boxes[s]? with
  | none => rw [hs] at h; cases h
  | some bx =>
   rw [hs] at h
   obtain ⟨v, h1, h2⟩ := zp8 (b := b) (o := off) h (zlj hI hb hs off)
   exact ⟨v, by simp [Instr.loadAt, Instr.sureAddr, h1], h2⟩
 | _ => cases h
def zzy (n : Nat) : AV → Option AV
 | .ptr s off => some (.ptr s (off + n))
 | .iptr cs => some (.iptr (cs.drop n))
 | _ => none
theorem zog {IT : IterP} {X : Cx} {n : Nat} {x a : AV} {u : Value} (h : zzy n x = some a) (hx : Rep IT X x u) : ∃ ad, u = .pointer (some ad) ∧ Rep IT X a (.pointer (some (ad.add n))) := by
 cases x with
 | iptr cs =>
  rw [Rep] at hx
  obtain ⟨b, o, rfl, hat⟩ := hx
  simp [zzy] at h; subst h
  refine ⟨_, rfl, ?_⟩
  rw [Rep]
  exact ⟨b, o + n, by rw [zfo], zrz n hat⟩
 | ptr s off =>
  rw [Rep] at hx
  obtain ⟨b, hb, rfl⟩ := hx
  simp [zzy] at h; subst h
  refine ⟨_, rfl, ?_⟩
  rw [Rep]
  exact ⟨b, hb, by rw [zfo]⟩
 | _ => cases h
def zec (P : Program) (t : TypeId) : Option Nat := (P.info? t).map (·.size)
theorem ze5 {P : Program} {t : TypeId} {n : Nat} (h : zec P t = some n) (w : World) : (sizeOf t).run P w = .ok n w := by
 unfold zec at h
 cases hi : P.info? t with
 | none => simp [hi] at h
 | some i => simp [hi] at h; rw [zhs hi, h]
def zlt (P : Program) (t : TypeId) (f : Nat) (x : AV) : Option AV :=
 match P.underlying t with
 | some (.struct fs) => match fs[f]? with
  | some fd => match zec P fd.type with
   | some n => if n = 0 then none else zzy fd.offset x
   | none => none
  | none => none
 | _ => none
theorem znd {IT : IterP} {P : Program} {X : Cx} {t : TypeId} {f : Nat} {x a : AV} {u : Value} (h : zlt P t f x = some a) (hx : Rep IT X x u) :
 ∃ v, (Instr.fieldAt t u f).run P X.w = .ok v X.w ∧ Rep IT X a v := by
 unfold zlt at h
 split at h <;> try cases h
 rename_i fs hu
 split at h <;> try cases h
 rename_i fd hf
 split at h <;> try cases h
 rename_i n hn
 split at h
 ·cases h
 rename_i h0
 obtain ⟨ad, rfl, hr⟩ := zog h hx
 refine ⟨_, ?_, hr⟩
 simp [Instr.fieldAt, underlying, program, Sem.run, hu, hf, Instr.sureAddr, fieldPlace, ze5 hn, h0]
def zf9 (P : Program) (t : TypeId) (x i : AV) : Option AV :=
 match i with
 | .raw (.int k n) => match P.underlying t with
  | some (.array len e) => match zec P e with
   | some sz => if 0 ≤ n ∧ n < len then zzy (n.toNat * sz) x else none
   | none => none
  | some (.slice e) => match zec P e, x with
   | some sz, .list len cs _ => if 0 ≤ n ∧ n < len ∧ cs ≠ [] then some (.iptr (cs.drop (n.toNat * sz))) else none
   | some sz, .bsl s off len _ _ => if 0 ≤ n ∧ n < len then some (.ptr s (off + n.toNat * sz)) else none
   | _, _ => none
  | _ => none
 | _ => none
theorem zne {IT : IterP} {P : Program} {X : Cx} {t : TypeId} {x i a : AV} {u j : Value} (h : zf9 P t x i = some a) (hx : Rep IT X x u) (hi : Rep IT X i j) :
 ∃ v, (Instr.indexAt t u j).run P X.w = .ok v X.w ∧ Rep IT X a v := by
 unfold zf9 at h
 split at h <;> try cases h
 rename_i k n
 rw [Rep] at hi; subst hi
 split at h <;> try cases h
 ·rename_i len e hu
  split at h <;> try cases h
  rename_i sz hn
  split at h
  ·rename_i hb
   obtain ⟨ad, rfl, hr⟩ := zog h hx
   refine ⟨_, ?_, hr⟩
   simp [Instr.indexAt, asIntOf, underlying, program, Sem.run, hu, Instr.sureAddr, ze5 hn, hb]
  ·cases h
 ·rename_i e hu
  split at h <;> try cases h
  ·rename_i sz len cs st hn
   split at h
   ·rename_i hb
    cases h
    rw [Rep] at hx
    obtain ⟨ad, cap, rfl, _, hc, _⟩ := hx
    rcases hc with hc | ⟨b, o, rfl, hat⟩
    ·exact absurd hc hb.2.2
    ·refine ⟨.pointer (some ((⟨b, o, none⟩ : Addr).add (n.toNat * sz))), ?_, ?_⟩
     ·simp [Instr.indexAt, asIntOf, underlying, program, Sem.run, hu, ze5 hn, hb.1, hb.2.1]
     ·rw [Rep]
      exact ⟨b, o + n.toNat * sz, by rw [zfo], zrz _ hat⟩
   ·cases h
  ·rename_i sz s off len sz' f hn
   split at h
   ·rename_i hb
    cases h
    rw [Rep] at hx
    obtain ⟨b, cap, cur, t0, hk, rfl, _⟩ := hx
    refine ⟨.pointer (some ((⟨b, off, none⟩ : Addr).add (n.toNat * sz))), ?_, ?_⟩
    ·simp [Instr.indexAt, asIntOf, underlying, program, Sem.run, hu, ze5 hn, hb.1, hb.2]
    ·rw [Rep]
     exact ⟨b, hk, by rw [zfo]⟩
   ·cases h
def z6k (P : Program) (t : TypeId) (cs : List AV) (off : Nat) : Option AV := rd P t (cs.drop off)
theorem zq4 {IT : IterP} {P : Program} {X : Cx} {t : TypeId} {cs : List AV} {off : Nat} {a : AV} {vs : List Value} (h : z6k P t cs off = some a) (hr : za9 IT X cs vs) (h1 : ∀ v ∈ vs, v.oneCell' = true) :
 ∃ v, (part t vs.toArray off).run P X.w = .ok v X.w ∧ Rep IT X a v := by
 unfold z6k rd at h
 have hd := zfs hr off
 cases hu : P.underlying t with
 | none => rw [hu] at h; cases P.info? t <;> simp at h
 | some d =>
  cases hi : P.info? t with
  | none => rw [hu, hi] at h; cases d <;> simp at h
  | some i =>
   rw [hu, hi] at h
   have agg : (if i.size ≤ (cs.drop off).length then some (AV.agg ((cs.drop off).take i.size)) else none) = some a → Rep IT X a (.agg (vs.toArray.extract off (off + i.size))) := by
    intro h
    split at h
    ·cases h
     rw [Rep]
     refine ⟨(vs.drop off).take i.size, ?_, zdq hd _, fun u hu => h1 u (List.mem_of_mem_drop (List.mem_of_mem_take hu))⟩
     congr 1
     apply Array.ext'
     simp [List.extract_eq_take_drop]
    ·cases h
   unfold part
   cases d with
   | struct fs => exact ⟨_, by simp [zhc hu, zhs hi], agg h⟩
   | array n e => exact ⟨_, by simp [zhc hu, zhs hi], agg h⟩
   | _ =>
    simp only [List.head?_drop] at h
    obtain ⟨v, hv, hr'⟩ := zdv hr off a h
    refine ⟨v, ?_, hr'⟩
    have : vs.toArray[off]? = some v := by simpa using hv
    simp only [Sem.run_bind, zhc hu, Result.andThen_ok, Bool.false_eq_true, if_false, this, Sem.run_pure]
def z36 (P : Program) (t : TypeId) (f : Nat) : AV → Option AV
 | .agg cs => match P.underlying t with
  | some (.struct fs) => match fs[f]? with
   | some fd => z6k P fd.type cs fd.offset
   | none => none
  | _ => none
 | _ => none
theorem ztl {IT : IterP} {P : Program} {X : Cx} {t : TypeId} {f : Nat} {x a : AV} {u : Value} (h : z36 P t f x = some a) (hx : Rep IT X x u) :
 ∃ v, (Instr.field t u f).run P X.w = .ok v X.w ∧ Rep IT X a v := by
 cases x with
 | agg cs =>
  rw [Rep] at hx
  obtain ⟨vs, rfl, hr, h1⟩ := hx
  simp only [z36] at h
  split at h <;> try cases h
  rename_i fs hu
  split at h <;> try cases h
  rename_i fd hf
  obtain ⟨v, k1, k2⟩ := zq4 h hr h1
  exact ⟨v, by simp [Instr.field, underlying, program, Sem.run, hu, hf, asAgg, k1], k2⟩
 | _ => cases h
def z3b (P : Program) (t : TypeId) (x i : AV) : Option AV :=
 match i, x with
 | .raw (.int k n), .agg cs => match P.underlying t with
  | some (.array len e) => match zec P e with
   | some sz => if 0 ≤ n ∧ n < len then z6k P e cs (n.toNat * sz) else none
   | none => none
  | _ => none
 | _, _ => none
theorem zvt {IT : IterP} {P : Program} {X : Cx} {t : TypeId} {x i a : AV} {u j : Value} (h : z3b P t x i = some a) (hx : Rep IT X x u) (hi : Rep IT X i j) :
 ∃ v, (Instr.index t u j).run P X.w = .ok v X.w ∧ Rep IT X a v := by
 unfold z3b at h
 split at h <;> try cases h
 rename_i k n cs
 rw [Rep] at hi; subst hi
 rw [Rep] at hx
 obtain ⟨vs, rfl, hr, h1⟩ := hx
 split at h <;> try cases h
 rename_i len e hu
 split at h <;> try cases h
 rename_i sz hn
 split at h
 ·rename_i hb
  obtain ⟨v, k1, k2⟩ := zq4 h hr h1
  exact ⟨v, by simp [Instr.index, asIntOf, underlying, program, Sem.run, hu, ze5 hn, hb, k1], k2⟩
 ·cases h
end Go.Ab
