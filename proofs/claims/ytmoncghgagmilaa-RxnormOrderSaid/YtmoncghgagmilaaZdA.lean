/-
  Abstract values: what a value says, without addresses; and what it is for a concrete value to say it.
-/
import Derived.Test.YtmoncghgagmilaaZdBase
import Derived.Laws.BytesArg
set_option linter.unusedSimpArgs false
set_option linter.unusedVariables false
namespace Go.Fwd
open Go Go.RowKit
section
variable {P : Program} {ops : Array Oper} {w0 : World} {a0 : Act} {fin : Acc → Prop} {o : Oper} {rest : List Oper} {acc : Acc}
abbrev Met (ops : Array Oper) (a0 : Act) (acc : Acc) (o : Oper) : Prop :=
 match o.guard with | none => True | some (k, b) => ∃ d, za6 ops k = some d ∧ ∀ g W, env a0 acc d g W → g = .bool b
def PtrAt (cs : List Value) (v : Value) (w : World) : Prop := ∃ b o, v = .pointer (some ⟨b, o, none⟩) ∧ b < w.heap.size ∧ ∀ (i : Nat) (x : Value), cs[i]? = some x → w.cell? ⟨b, o + i, none⟩ = some x
theorem PtrAt.mono (cs : List Value) : Mono (PtrAt cs) := by
 rintro v w w' hg ⟨b, o, rfl, hb, hc⟩
 exact ⟨b, o, rfl, Nat.lt_of_lt_of_le hb hg.size, fun i x hx => (hg.toBelow.cell (p := ⟨b, o + i, none⟩) hb).trans (hc i x hx)⟩
end
theorem endAt_all {w : World} : ∀ {acc : Acc} {a : Act} {K : Act → Prop},
 (∀ a', a'.tmps.size = a.tmps.size → a'.defers = a.defers → (∀ t, t < a.tmps.size → env a acc t (a'.eval (.tmp t)) w) → K a') → EndAt w acc a K
 | [], a, K, h => h a rfl rfl fun _ _ => rfl
 | (d, V) :: r, a, K, h => by
  show EndAt w r a fun a' => ∀ v, V v w → K (a'.put (some d) v)
  refine endAt_all fun a' h1 h2 h3 v hv => h _ (by simp [Act.put, h1]) (by simp [Act.put, h2]) fun t ht => ?_
  simp only [env]
  by_cases hd : d = t
  ·rw [if_pos hd, hd]
   have : (a'.put (some t) v).eval (.tmp t) = v := by simp [Act.put, Act.eval, h1, ht]
   rw [this]; exact hv
  ·rw [if_neg hd]
   have : (a'.put (some d) v).eval (.tmp t) = a'.eval (.tmp t) := by simp [Act.put, Act.eval, Array.getElem?_setIfInBounds, hd]
   rw [this]; exact h3 t ht
end Go.Fwd
set_option linter.unusedSimpArgs false
set_option linter.unusedVariables false
namespace Go.Ab
open Go Go.RowKit Go.Fwd
inductive Room where
 | none | own (s : Nat) | full
 deriving DecidableEq, Inhabited
inductive AV where
 | raw (v : Value)
 | agg (cs : List AV)
 | tup (vs : List AV)
 | list (n : Nat) (cs : List AV) (st : Room)
 | ptr (s off : Nat)
 | bsl (s off n sz : Nat) (f : Bool)
 | iptr (cs : List AV)
 | clos (f : FuncId) (caps : List AV)
 | iter (xs : List (List AV))
 | yld (l : Nat)
 | top
 | bad
 deriving Inhabited
structure Row where
 block : Nat
 elem : TypeId
 size : Nat
 cap : Nat
structure Cx where
 F : Nat → Nat → Prop
 κ : List Nat
 β : List Row
 lens : List Nat
 w : World
 O : Nat → Prop
 C : Nat → Nat → Prop
structure IterP where
 it : Value → List (List AV) → Cx → Prop
 /-- What is known of package variables: cells that are never written. -/
 gv : (Nat → Nat → Prop) → World → Prop
def Bsl (X : Cx) (s off n sz : Nat) (f : Bool) (v : Value) : Prop :=
 ∃ b cap cur t, X.κ[s]? = some b ∧ v = .slice (some ⟨b, off, none⟩) n cap ∧ n ≤ cap ∧ (f = true → cap = n) ∧ X.w.heap[b]? = some (.cells cur t (0, 0)) ∧ off + cap * sz ≤ cur.size
mutual
def Rep (IT : IterP) (X : Cx) : AV → Value → Prop
 | .raw u, v => v = u
 | .agg cs, v => ∃ vs : List Value, v = .agg vs.toArray ∧ za9 IT X cs vs ∧ ∀ u ∈ vs, u.oneCell' = true
 | .tup cs, v => ∃ vs : List Value, v = .tuple vs.toArray ∧ za9 IT X cs vs
 | .list n cs st, v => ∃ a cap, v = .slice a n cap ∧ (n ≤ cap ∧ (a = none → cap = 0)) ∧ (cs = [] ∨ ∃ b o, a = some ⟨b, o, none⟩ ∧ At IT X cs b o) ∧
  (match st with
   | .none => True
   | .full => cap = n
   | .own s => ∃ L, X.lens[s]? = some L ∧ cs.length ≤ L ∧ (cs.length = L → ∃ r, X.β[s]? = some r ∧ a = some ⟨r.block, 0, none⟩ ∧ cap = r.cap ∧ cs.length = n * r.size))
 | .ptr s off, v => ∃ b, X.κ[s]? = some b ∧ v = .pointer (some ⟨b, off, none⟩)
 | .bsl s off n sz f, v => Bsl X s off n sz f v
 | .iptr cs, v => ∃ b o, v = .pointer (some ⟨b, o, none⟩) ∧ At IT X cs b o
 | .clos f caps, v => ∃ vs : List Value, v = .func (.func f) #[] vs.toArray ∧ za9 IT X caps vs
 | .iter xs, v => IT.it v xs X
 | .yld l, v => v = .func (.yield l) #[] #[]
 | .top, _ => True
 | .bad, _ => False
def za9 (IT : IterP) (X : Cx) : List AV → List Value → Prop
 | [], vs => vs = []
 | a :: l, vs => ∃ v r, vs = v :: r ∧ Rep IT X a v ∧ za9 IT X l r
def At (IT : IterP) (X : Cx) : List AV → Nat → Nat → Prop
 | [], _, _ => True
 | c :: cs, b, o => (X.F b o ∧ ∃ v, X.w.cell? ⟨b, o, none⟩ = some v ∧ v.oneCell' = true ∧ Rep IT X c v) ∧ At IT X cs b (o + 1)
end
def Szs (W W' : World) : Prop := ∀ (k : Nat) (cs : Array Value) (t : TypeId) (f : Nat × Nat), W.heap[k]? = some (.cells cs t f) → ∃ cs' t' f', W'.heap[k]? = some (.cells cs' t' f') ∧ cs'.size = cs.size
theorem Szs.refl (W : World) : Szs W W := fun _ cs t f h => ⟨cs, t, f, h, rfl⟩
theorem Szs.trans {A B C : World} (h : Szs A B) (k : Szs B C) : Szs A C := fun i cs t f e => by
 obtain ⟨c1, t1, f1, e1, s1⟩ := h i cs t f e
 obtain ⟨c2, t2, f2, e2, s2⟩ := k i c1 t1 f1 e1
 exact ⟨c2, t2, f2, e2, s2.trans s1⟩
theorem Szs.eq {W W' : World} (h : W' = W) : Szs W W' := h ▸ Szs.refl _
theorem Szs.heap {W W' : World} (h : W'.heap = W.heap) : Szs W W' := fun k cs t f e => ⟨cs, t, f, by rw [h]; exact e, rfl⟩
theorem Szs.old {W W' : World} (h : ∀ k, k < W.heap.size → W'.heap[k]? = W.heap[k]?) : Szs W W' := fun k cs t f e => ⟨cs, t, f, (h k (Array.getElem?_eq_some_iff.1 e).1).trans e, rfl⟩
theorem Szs.one {W W' : World} (b : Nat) (h : ∀ k, k < W.heap.size → k ≠ b → W'.heap[k]? = W.heap[k]?) (hb : ∀ cs t f, W.heap[b]? = some (.cells cs t f) → ∃ cs' t' f', W'.heap[b]? = some (.cells cs' t' f') ∧ cs'.size = cs.size) : Szs W W' := fun k cs t f e => by
 by_cases hk : k = b
 ·subst hk; exact hb cs t f e
 ·exact ⟨cs, t, f, (h k (Array.getElem?_eq_some_iff.1 e).1 hk).trans e, rfl⟩
structure Sub (X X' : Cx) : Prop where
 F : ∀ (b o : Nat), X.F b o → X'.F b o
 cell : ∀ (b o : Nat), X.F b o → X'.w.cell? ⟨b, o, none⟩ = X.w.cell? ⟨b, o, none⟩
 κ : ∀ (s b : Nat), X.κ[s]? = some b → X'.κ[s]? = some b
 lens : ∀ (s L : Nat), X.lens[s]? = some L → ∃ L', X'.lens[s]? = some L' ∧ L ≤ L' ∧ (L' = L → X'.β[s]? = X.β[s]?)
 blk : ∀ (s b : Nat), X.κ[s]? = some b → ∀ (cur : Array Value) (t : TypeId) (f : Nat × Nat), X.w.heap[b]? = some (.cells cur t f) → ∃ cur', X'.w.heap[b]? = some (.cells cur' t f) ∧ cur'.size = cur.size
 szs : Szs X.w X'.w
theorem Bsl.sub {X X' : Cx} (h : Sub X X') {s off n sz : Nat} {f : Bool} {v : Value} (hr : Bsl X s off n sz f v) : Bsl X' s off n sz f v := by
 obtain ⟨b, cap, cur, t, h1, h2, h3, h4, h5, h6⟩ := hr
 obtain ⟨cur', k1, k2⟩ := h.blk s b h1 cur t _ h5
 exact ⟨b, cap, cur', t, h.κ s b h1, h2, h3, h4, k1, by omega⟩
theorem Bsl.mono {X Y : Cx} {s off n sz : Nat} {f : Bool} {v : Value} (hκ : ∀ b, X.κ[s]? = some b → Y.κ[s]? = some b) (hw : Y.w = X.w) (hr : Bsl X s off n sz f v) : Bsl Y s off n sz f v := by
 obtain ⟨b, cap, cur, t, h1, h2, h3, h4, h5, h6⟩ := hr
 exact ⟨b, cap, cur, t, hκ b h1, h2, h3, h4, by rw [hw]; exact h5, h6⟩
structure Ext (X X' : Cx) : Prop extends Sub X X' where
 os : X'.w.os = X.w.os
 tape : X'.w.tape = X.w.tape
 output : X'.w.output = X.w.output
 size : X.w.heap.size ≤ X'.w.heap.size
 drawn : drn X.w ≤ drn X'.w
 frame : ∀ (b : Nat), b < X.w.heap.size → b ∉ X.κ → (∀ r ∈ X.β, r.block ≠ b) → X'.w.heap[b]? = X.w.heap[b]?
 κnew : ∀ b ∈ X'.κ, b ∈ X.κ ∨ X.w.heap.size ≤ b
 βnew : ∀ r ∈ X'.β, (∃ q ∈ X.β, q.block = r.block) ∨ X.w.heap.size ≤ r.block
 O : X'.O = X.O
 C : X'.C = X.C
 Fnew : ∀ (b o : Nat), X'.F b o → X.F b o ∨ X.w.heap.size ≤ b ∨ (∃ q ∈ X.β, q.block = b) ∨ b ∈ X.κ
theorem Ext.refl (X : Cx) : Ext X X where
 os := rfl
 tape := rfl
 output := rfl
 size := Nat.le_refl _
 drawn := Nat.le_refl _
 F := fun _ _ h => h
 cell := fun _ _ _ => rfl
 κ := fun _ _ h => h
 lens := fun s L h => ⟨L, h, Nat.le_refl _, fun _ => rfl⟩
 blk := fun _ _ _ cur _ _ h => ⟨cur, h, rfl⟩
 szs := Szs.refl _
 frame := fun _ _ _ _ => rfl
 κnew := fun _ h => .inl h
 βnew := fun r h => .inl ⟨r, h, rfl⟩
 O := rfl
 C := rfl
 Fnew := fun _ _ h => .inl h
theorem Ext.trans {X Y Z : Cx} (h : Ext X Y) (k : Ext Y Z) : Ext X Z where
 os := k.os.trans h.os
 tape := k.tape.trans h.tape
 output := k.output.trans h.output
 size := Nat.le_trans h.size k.size
 drawn := Nat.le_trans h.drawn k.drawn
 F := fun b o hf => k.F b o (h.F b o hf)
 cell := fun b o hf => (k.cell b o (h.F b o hf)).trans (h.cell b o hf)
 κ := fun s b hs => k.κ s b (h.κ s b hs)
 lens := fun s L hs => by
  obtain ⟨L1, h1, h2, h3⟩ := h.lens s L hs
  obtain ⟨L2, k1, k2, k3⟩ := k.lens s L1 h1
  exact ⟨L2, k1, Nat.le_trans h2 k2, fun e => by
   have e1 : L2 = L1 := by omega
   have e2 : L1 = L := by omega
   rw [k3 e1, h3 e2]⟩
 blk := fun s b hs cur t f hc => by
  obtain ⟨c1, h1, h2⟩ := h.blk s b hs cur t f hc
  obtain ⟨c2, k1, k2⟩ := k.blk s b (h.κ s b hs) c1 t f h1
  exact ⟨c2, k1, k2.trans h2⟩
 szs := h.szs.trans k.szs
 frame := fun b hb hκ hβ => by
  refine (k.frame b (Nat.lt_of_lt_of_le hb h.size) (fun hm => ?_) (fun r hr e => ?_)).trans (h.frame b hb hκ hβ)
  ·rcases h.κnew b hm with h1 | h1
   ·exact hκ h1
   ·omega
  ·rcases h.βnew r hr with ⟨q, hq, e'⟩ | h1
   ·exact hβ q hq (e'.trans e)
   ·omega
 κnew := fun b hb => by
  rcases k.κnew b hb with h1 | h1
  ·exact h.κnew b h1
  ·exact .inr (Nat.le_trans h.size h1)
 βnew := fun r hr => by
  rcases k.βnew r hr with ⟨q, hq, e⟩ | h1
  ·rcases h.βnew q hq with ⟨p, hp, e'⟩ | h2
   ·exact .inl ⟨p, hp, e'.trans e⟩
   ·exact .inr (e ▸ h2)
  ·exact .inr (Nat.le_trans h.size h1)
 O := k.O.trans h.O
 C := k.C.trans h.C
 Fnew := fun b o hf => by
  rcases k.Fnew b o hf with h1 | h1 | ⟨q, hq, e⟩ | h1
  ·exact h.Fnew b o h1
  ·exact .inr (.inl (Nat.le_trans h.size h1))
  ·rcases h.βnew q hq with ⟨p, hp, e'⟩ | h2
   ·exact .inr (.inr (.inl ⟨p, hp, e'.trans e⟩))
   ·exact .inr (.inl (e ▸ h2))
  ·rcases h.κnew b h1 with h2 | h2
   ·exact .inr (.inr (.inr h2))
   ·exact .inr (.inl h2)
def errRows : List (List AV) := [List.replicate 9 .bad]
@[reducible] def AV.err : AV := .iter errRows
structure ITMono (IT : IterP) : Prop where
 it : ∀ v xs X X', (∀ b o, X.F b o → X'.F b o) → (∀ b o, X.F b o → X'.w.cell? ⟨b, o, none⟩ = X.w.cell? ⟨b, o, none⟩) → Szs X.w X'.w → IT.it v xs X → IT.it v xs X'
 gv : ∀ F F' w w', (∀ b o, F b o → F' b o) → (∀ b o, F b o → w'.cell? ⟨b, o, none⟩ = w.cell? ⟨b, o, none⟩) → Szs w w' → IT.gv F w → IT.gv F' w'
 err : ∀ v X, IT.it v errRows X → ∃ t p, v = .iface t p
theorem z8n {IT : IterP} (hIT : ITMono IT) {X X' : Cx} (h : Sub X X') (g : IT.gv X.F X.w) : IT.gv X'.F X'.w := hIT.gv _ _ _ _ h.F h.cell h.szs g
theorem z29 {IT : IterP} (hIT : ITMono IT) {X X' : Cx} (h : Ext X X') (g : IT.gv X.F X.w) : IT.gv X'.F X'.w := z8n hIT h.toSub g
mutual
theorem zfi {IT : IterP} (hIT : ITMono IT) {X X' : Cx} (h : Sub X X') : ∀ (a : AV) (v : Value), Rep IT X a v → Rep IT X' a v
 | .raw u, v, hr => hr
 | .agg cs, v, ⟨vs, e, hr, h1⟩ => ⟨vs, e, zbz hIT h cs vs hr, h1⟩
 | .tup cs, v, ⟨vs, e, hr⟩ => ⟨vs, e, zbz hIT h cs vs hr⟩
 | .list n cs st, v, ⟨a, cap, e, hcap, hc, hs⟩ => by
  refine ⟨a, cap, e, hcap, hc.imp id fun ⟨b, o, e1, e2⟩ => ⟨b, o, e1, zyb hIT h cs b o e2⟩, ?_⟩
  cases st with
  | none => trivial
  | full => exact hs
  | own s =>
   obtain ⟨L, h1, h2, h3⟩ := hs
   obtain ⟨L', k1, k2, k3⟩ := h.lens s L h1
   refine ⟨L', k1, Nat.le_trans h2 k2, fun e' => ?_⟩
   obtain ⟨r, r1, r2⟩ := h3 (by omega)
   exact ⟨r, by rw [k3 (by omega)]; exact r1, r2⟩
 | .ptr s off, v, ⟨b, e1, e2⟩ => ⟨b, h.κ s b e1, e2⟩
 | .bsl s off n sz f, v, hr => hr.sub h
 | .iptr cs, v, ⟨b, o, e, hc⟩ => ⟨b, o, e, zyb hIT h cs b o hc⟩
 | .clos f caps, v, ⟨vs, e, hr⟩ => ⟨vs, e, zbz hIT h caps vs hr⟩
 | .iter xs, v, h2 => hIT.it _ _ _ _ h.F h.cell h.szs h2
 | .yld l, v, hr => hr
 | .top, _, hr => hr
 | .bad, _, hr => hr
theorem zbz {IT : IterP} (hIT : ITMono IT) {X X' : Cx} (h : Sub X X') : ∀ (l : List AV) (vs : List Value), za9 IT X l vs → za9 IT X' l vs
 | [], _, hr => hr
 | a :: l, vs, ⟨v, r, e, h1, h2⟩ => ⟨v, r, e, zfi hIT h a v h1, zbz hIT h l r h2⟩
theorem zyb {IT : IterP} (hIT : ITMono IT) {X X' : Cx} (h : Sub X X') : ∀ (cs : List AV) (b o : Nat), At IT X cs b o → At IT X' cs b o
 | [], _, _, _ => trivial
 | c :: cs, b, o, ⟨⟨hf, v, hv, h1, hr⟩, ht⟩ => ⟨⟨h.F b o hf, v, (h.cell b o hf).trans hv, h1, zfi hIT h c v hr⟩, zyb hIT h cs b (o + 1) ht⟩
end
theorem zsg {IT : IterP} (hIT : ITMono IT) {X X' : Cx} (h : Ext X X') (a : AV) (v : Value) : Rep IT X a v → Rep IT X' a v := zfi hIT h.toSub a v
theorem zao {IT : IterP} (hIT : ITMono IT) {X X' : Cx} (h : Ext X X') (l : List AV) (vs : List Value) : za9 IT X l vs → za9 IT X' l vs := zbz hIT h.toSub l vs
theorem z2k {IT : IterP} (hIT : ITMono IT) {X X' : Cx} (h : Ext X X') (cs : List AV) (b o : Nat) : At IT X cs b o → At IT X' cs b o := zyb hIT h.toSub cs b o
end Go.Ab
