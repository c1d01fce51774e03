/-
  Operations of the abstract machine that build: structs, slices, slice expressions, append.
-/
import Derived.Test.YtmoncghgagmilaaZdD
import Derived.Great.BuildSlice
set_option linter.unusedSimpArgs false
set_option linter.unusedVariables false
namespace Go.Ab
open Go Go.RowKit Go.Fwd
def zg7 : AV → Bool
 | .raw u => u.oneCell'
 | .agg _ | .list _ _ _ | .ptr _ _ | .bsl _ _ _ _ _ | .iptr _ | .clos _ _ | .yld _ => true
 | _ => false
theorem zh9 {IT : IterP} {X : Cx} {a : AV} {v : Value} (h : zg7 a = true) (k : Rep IT X a v) : za2 IT X (cellsOf a) v.cells.toList ∧ ∀ u ∈ v.cells.toList, u.oneCell' = true := by
 have one : v.oneCell' = true → v.cells = #[v] → Rep IT X a v → za2 IT X [a] v.cells.toList ∧ ∀ u ∈ v.cells.toList, u.oneCell' = true := fun h1 h2 h3 => by
  rw [h2, za2]
  exact ⟨⟨v, [], by simp, h3, by rw [za2]⟩, by simpa using h1⟩
 cases a with
 | raw u =>
  have hk := k
  rw [Rep] at k; subst k
  exact one h (by cases v <;> first | rfl | simp [zg7, Value.oneCell'] at h) hk
 | agg cs =>
  rw [Rep] at k
  obtain ⟨vs, rfl, k1, k2⟩ := k
  exact ⟨by simpa [cellsOf, Value.cells] using k1, by simpa [Value.cells] using k2⟩
 | list n cs st =>
  have hk := k
  rw [Rep] at k; obtain ⟨_, _, rfl, _⟩ := k
  exact one rfl rfl hk
 | ptr s off =>
  have hk := k
  rw [Rep] at k; obtain ⟨_, _, rfl⟩ := k
  exact one rfl rfl hk
 | bsl s off n sz f =>
  have hk := k
  rw [Rep] at k; obtain ⟨_, _, _, _, _, rfl, _⟩ := k
  exact one rfl rfl hk
 | iptr cs =>
  have hk := k
  rw [Rep] at k; obtain ⟨_, _, rfl, _⟩ := k
  exact one rfl rfl hk
 | clos f c =>
  have hk := k
  rw [Rep] at k; obtain ⟨_, rfl, _⟩ := k
  exact one rfl rfl hk
 | yld l =>
  have hk := k
  rw [Rep] at k; subst k
  exact one rfl rfl hk
 | _ => cases h
def zvd (P : Program) (σ : St) (t : TypeId) (x y : AV) : Option St :=
 match x with
 | .ptr s off => match σ.boxes[s]?, zd3 P t with
  | some bx, some n => if zg7 y = true ∧ (cellsOf y).length = n ∧ off + n ≤ bx.2.length ∧ 0 < n then some { σ with boxes := σ.boxes.set s (bx.1, bx.2.take off ++ cellsOf y ++ bx.2.drop (off + n)) } else none
  | _, _ => none
 | _ => none
theorem zt0 {IT : IterP} (hIT : ITMono IT) {P : Program} {X : Cx} {σ σ' : St} {t : TypeId} {x y : AV} {u v : Value} (h : zvd P σ t x y = some σ') (hx : Rep IT X x u) (hy : Rep IT X y v) (hI : Inv IT σ X) :
 ∃ X', (Instr.storeAt t u v).run P X.w = .ok () X'.w ∧ Ext X X' ∧ Inv IT σ' X' := by
 unfold zvd at h
 split at h <;> try cases h
 rename_i s off
 rw [Rep] at hx
 obtain ⟨b, hb, rfl⟩ := hx
 split at h <;> try cases h
 rename_i bx n hbx hn
 obtain ⟨t0, cs⟩ := bx
 split at h <;> try cases h
 rename_i hc
 obtain ⟨hc1, hc2, hc3, hc4⟩ := hc
 obtain ⟨k1, k2⟩ := zh9 hc1 hy
 obtain ⟨vs, zs, u1, u2, u3⟩ := hI.box s b t0 cs hb hbx
 have hl := zq u2
 have hl2 := zq k1
 simp only at hc3
 have hst := run_storeCells_at P b off t0 v.cells.toList 0 (vs ++ zs).toArray X.w u1 (by simp at hl2 ⊢; omega) k2
 simp only [Nat.add_zero] at hst
 have hsz : v.cells.size = n := by simp at hl2; omega
 have hlist : v.cells.toList.length = n := by simpa using hsz
 rw [hlist] at hst
 obtain ⟨e1, e2⟩ := zj0 hIT hI (zs := zs) hb hbx (by intro e; subst e; simp at hc3; omega) (fun cur t f hc => by rw [u1] at hc; cases hc; simp at hl2 ⊢; omega) (zbi (zbi (zde u2 off) k1) (zfg u2 (off + n)))
  (fun w hw => by
   rcases List.mem_append.1 hw with hw | hw
   ·rcases List.mem_append.1 hw with hw | hw
    ·exact u3 w (List.mem_of_mem_take hw)
    ·exact k2 w hw
   ·exact u3 w (List.mem_of_mem_drop hw))
 have hrow : (vs ++ zs).take off ++ v.cells.toList ++ (vs ++ zs).drop (off + n) = vs.take off ++ v.cells.toList ++ vs.drop (off + n) ++ zs := by
  rw [List.take_append_of_le_length (by omega), List.drop_append_of_le_length (by omega)]
  simp
 refine ⟨_, ?_, e1, e2⟩
 simp only [Instr.storeAt, Instr.sureAddr, storeVar, Sem.run_bind, Sem.run_pure, Result.andThen_ok, zew hn, hsz]
 simp only [← hrow]
 simpa using hst
theorem ziw {P : Program} {t : TypeId} {v : Value} (w : World) : (newVar t v).run P w = .ok ⟨w.heap.size, 0, none⟩ (w.alloc (.cells v.cells t)) := by
 rfl
def aBox (σ : St) (t : TypeId) (x : AV) : Option (AV × St) :=
 if zg7 x = true then some (.ptr σ.boxes.length 0, { σ with boxes := σ.boxes ++ [(t, cellsOf x)] }) else none
theorem zqe {IT : IterP} (hIT : ITMono IT) {P : Program} {X : Cx} {σ σ' : St} {t : TypeId} {x a : AV} {v : Value} (h : aBox σ t x = some (a, σ')) (hx : Rep IT X x v) (hI : Inv IT σ X) :
 ∃ X', (Instr.box t v).run P X.w = .ok (.pointer (some ⟨X.w.heap.size, 0, none⟩)) X'.w ∧ Ext X X' ∧ Inv IT σ' X' ∧ Rep IT X' a (.pointer (some ⟨X.w.heap.size, 0, none⟩)) := by
 unfold aBox at h
 split at h <;> cases h
 rename_i hc
 obtain ⟨k1, k2⟩ := zh9 hc hx
 obtain ⟨X', e1, e2, e3, e4⟩ := zoo hIT hI (t := t) k1 k2
 refine ⟨X', ?_, e2, e3, e4⟩
 simp only [Instr.box, Sem.run_bind, ziw, Result.andThen_ok, Sem.run_pure, e1]
def zxu (P : Program) (σ : St) (t : TypeId) : Option (AV × St) :=
 match P.info? t with
 | some i => match i.zero with
  | some z => if zm4 z = true then aBox σ t (zjb z) else none
  | none => none
 | none => none
theorem zfs {P : Program} {t : TypeId} {i : TypeInfo} {z : Value} (h : P.info? t = some i) (hz : i.zero = some z) (w : World) : (zeroValue t).run P w = .ok z w := by
 simp [zeroValue, typeInfo, program, Sem.run, h, hz]
theorem ztd {IT : IterP} (hIT : ITMono IT) {P : Program} {X : Cx} {σ σ' : St} {t : TypeId} {a : AV} {old : Value} (h : zxu P σ t = some (a, σ')) (hI : Inv IT σ X) :
 ∃ X', (Instr.alloc t true old).run P X.w = .ok (.pointer (some ⟨X.w.heap.size, 0, none⟩)) X'.w ∧ Ext X X' ∧ Inv IT σ' X' ∧ Rep IT X' a (.pointer (some ⟨X.w.heap.size, 0, none⟩)) := by
 unfold zxu at h
 split at h <;> try cases h
 rename_i i hi
 split at h <;> try cases h
 rename_i z hz
 split at h <;> try cases h
 rename_i hok
 obtain ⟨X', e1, e2, e3, e4⟩ := zqe hIT (P := P) h (zfm z hok) hI
 refine ⟨X', ?_, e2, e3, e4⟩
 have : (Instr.alloc t true old).run P X.w = (Instr.box t z).run P X.w := by
  cases old <;> simp [Instr.alloc, Instr.box, zfs hi hz]
 rw [this]; exact e1
def zt8 (zez : Nat → Option (Nat × Nat)) : List AV → List (Nat × AV) → Option (List AV)
 | cells, [] => some cells
 | cells, (i, a) :: rest => match zez i with
  | none => none
  | some (off, size) => if zg7 a = true ∧ (cellsOf a).length = size ∧ off + size ≤ cells.length then zt8 zez (cells.take off ++ cellsOf a ++ cells.drop (off + size)) rest else none
theorem zpq (off : Nat) : ∀ (l : List Value) (k : Nat) (cs : Array Value), off + k + l.length ≤ cs.size →
 ((l.zipIdx k).foldl (fun cs (x : Value × Nat) => cs.setIfInBounds (off + x.2) x.1) cs) = (cs.toList.take (off + k) ++ l ++ cs.toList.drop (off + k + l.length)).toArray
 | [], k, cs, _ => by simp
 | v :: l, k, cs, h => by
  rw [List.zipIdx_cons, List.foldl_cons, zpq off l (k + 1) _ (by simp at h ⊢; omega)]
  apply Array.ext'
  have := list_seg_step cs.toList (off + k) v l (by simp at h ⊢; omega)
  simpa [Nat.add_assoc] using this
def zmx (IT : IterP) (X : Cx) : List (Nat × AV) → List (Nat × Value) → Prop
 | [], qs => qs = []
 | p :: ps, qs => ∃ v r, qs = (p.1, v) :: r ∧ Rep IT X p.2 v ∧ zmx IT X ps r
theorem zl7 {IT : IterP} {X : Cx} {zez : Nat → Option (Nat × Nat)} : ∀ {ps : List (Nat × AV)} {qs : List (Nat × Value)} {cells cells' : List AV} {vs : List Value}, zt8 zez cells ps = some cells' → zmx IT X ps qs → za2 IT X cells vs →
 (∀ v ∈ vs, v.oneCell' = true) → ∃ vs', Instr.fill zez vs.toArray qs = some vs'.toArray ∧ za2 IT X cells' vs' ∧ ∀ v ∈ vs', v.oneCell' = true
 | [], _, cells, cells', vs, h, hp, hr, h1 => by
  rw [zmx] at hp; subst hp
  simp only [zt8, Option.some.injEq] at h; subst h
  exact ⟨vs, rfl, hr, h1⟩
 | (i, a) :: ps, _, cells, cells', vs, h, hp, hr, h1 => by
  rw [zmx] at hp
  obtain ⟨v, qs, rfl, hv, hp⟩ := hp
  simp only [zt8] at h
  cases hpl : zez i with
  | none => rw [hpl] at h; cases h
  | some os =>
   obtain ⟨off, size⟩ := os
   rw [hpl] at h
   simp only at h
   split at h <;> try cases h
   rename_i hc
   obtain ⟨hc1, hc2, hc3⟩ := hc
   obtain ⟨k1, k2⟩ := zh9 hc1 hv
   have hl := zq hr
   have hl2 := zq k1
   have hsz : v.cells.size = size := by simp at hl2; omega
   have hlist : v.cells.toList.length = size := by simpa using hsz
   have hfold : (v.cells.zipIdx.foldl (fun cs (x : Value × Nat) => cs.setIfInBounds (off + x.2) x.1) vs.toArray) = (vs.take off ++ v.cells.toList ++ vs.drop (off + size)).toArray := by
    have := zpq off v.cells.toList 0 vs.toArray (by simp; omega)
    rw [hlist] at this
    simp only [Nat.add_zero] at this
    rw [← this, ← Array.foldl_toList, Array.toList_zipIdx]
   obtain ⟨vs', e1, e2, e3⟩ := zl7 h hp (zbi (zbi (zde hr off) k1) (zfg hr (off + size)))
    (fun w hw => by
     rcases List.mem_append.1 hw with hw | hw
     ·rcases List.mem_append.1 hw with hw | hw
      ·exact h1 w (List.mem_of_mem_take hw)
      ·exact k2 w hw
     ·exact h1 w (List.mem_of_mem_drop hw))
   refine ⟨vs', ?_, e2, e3⟩
   simp only [Instr.fill, hpl]
   rw [if_neg (by simp [hsz]; omega)]
   rw [← e1]
   congr 1
def zjw (z : Value) : List AV := z.cells.toList.map zgt
theorem zu5 {IT : IterP} {X : Cx} (l : List Value) : za2 IT X (l.map zgt) l := by
 refine zec (by simp) fun i a v h1 h2 => ?_
 rw [List.getElem?_map, h2] at h1
 simp at h1; subst h1
 exact zhb v
def z23 (P : Program) (t : TypeId) (parts : List (Nat × AV)) : Option AV :=
 match P.info? t, P.underlying t with
 | some it, some (.array _ e) =>
  match it.zero, P.info? e with
  | some z, some ie => if z.cells.toList.all (·.oneCell') = true then (zt8 (fun i => some (i * ie.size, ie.size)) (zjw z) parts).map .agg else none
  | _, _ => none
 | some it, some (.struct fields) =>
  match it.zero, fields.toList.mapM (fun f => (P.info? f.type).map fun i => (f.offset, i.size)) with
  | some z, some places => if z.cells.toList.all (·.oneCell') = true then (zt8 (places.toArray[·]?) (zjw z) parts).map .agg else none
  | _, _ => none
 | _, _ => none
theorem zt6 {IT : IterP} {P : Program} {X : Cx} {t : TypeId} {ps : List (Nat × AV)} {qs : Array (Nat × Value)} {a : AV} (h : z23 P t ps = some a) (hp : zmx IT X ps qs.toList) :
 ∃ v, (Instr.build t qs).run P X.w = .ok v X.w ∧ Rep IT X a v := by
 have fin : ∀ (zez : Nat → Option (Nat × Nat)) (z : Value), z.cells.toList.all (·.oneCell') = true → (zt8 zez (zjw z) ps).map AV.agg = some a → (∀ cells, Instr.fill zez z.cells qs.toList = some cells → P.built t qs.toList = some cells) →
  ∃ v, (Instr.build t qs).run P X.w = .ok v X.w ∧ Rep IT X a v := fun zez z h1 h2 h3 => by
  simp only [Option.map_eq_some_iff] at h2
  obtain ⟨cells', h2, rfl⟩ := h2
  obtain ⟨vs', e1, e2, e3⟩ := zl7 h2 hp (zu5 z.cells.toList) (fun v hv => List.all_eq_true.1 h1 v hv)
  refine ⟨_, run_build X.w t qs _ (h3 _ (by simpa using e1)), ?_⟩
  rw [Rep]; exact ⟨vs', rfl, e2, e3⟩
 unfold z23 at h
 split at h <;> try cases h
 ·rename_i it n e hi hu
  split at h <;> try cases h
  rename_i z ie hz hie
  split at h <;> try cases h
  rename_i h1
  exact fin _ z h1 h fun cells hc => by simp only [Program.built, hi, hu, hz, hie, hc]
 ·rename_i it fields hi hu
  split at h <;> try cases h
  rename_i z places hz hpl
  split at h <;> try cases h
  rename_i h1
  exact fin _ z h1 h fun cells hc => by simp only [Program.built, hi, hu, hz, hpl, hc]
def znd (P : Program) (t : TypeId) (len : Nat) (parts : List (Nat × AV)) : Option (List AV × TypeId × Nat) :=
 match P.underlying t with
 | some (.slice e) => match P.info? e with
  | some ie => match ie.zero with
   | some z =>
    if len = 0 then (match parts with | [] => some ([], e, ie.size) | _ => none)
    else if z.cells.toList.all (·.oneCell') = true ∧ z.cells.size ≠ 0 ∧ len * ie.size ≤ 2 ^ 24 ∧ len * ie.size ≠ 0 then
     (zt8 (fun i => some (i * ie.size, ie.size)) ((List.range (len * ie.size)).map fun k => (zjw z)[k % z.cells.size]?.getD .bad) parts).map fun cells => (cells, e, ie.size)
    else none
   | none => none
  | none => none
 | _ => none
theorem zmt {IT : IterP} {P : Program} {X : Cx} {t e : TypeId} {len sz : Nat} {ps : List (Nat × AV)} {qs : Array (Nat × Value)} {cs : List AV} (h : znd P t len ps = some (cs, e, sz)) (hp : zmx IT X ps qs.toList) :
 ∃ vs : List Value, (Instr.buildSlice t len qs).run P X.w = .ok (.slice (some ⟨X.w.heap.size, 0, none⟩) len len) (X.w.alloc (.cells vs.toArray e)) ∧ za2 IT X cs vs ∧ ∀ v ∈ vs, v.oneCell' = true := by
 unfold znd at h
 split at h <;> try cases h
 rename_i e' hu
 split at h <;> try cases h
 rename_i ie hie
 split at h <;> try cases h
 rename_i z hz
 split at h
 ·rename_i h0
  subst h0
  split at h <;> cases h
  rw [zmx] at hp
  refine ⟨[], ?_, by rw [za2], by simp⟩
  simp [Instr.buildSlice, underlying, sizeOf, typeInfo, program, Sem.run, hu, hie, hp, Instr.fill, newRow, newObj, Array.range_zero']
 split at h <;> try cases h
 rename_i hc
 obtain ⟨hc1, hc2, hc3, hc4⟩ := hc
 simp only [Option.map_eq_some_iff, Prod.mk.injEq] at h
 obtain ⟨cells', h2, rfl, rfl, rfl⟩ := h
 have hz0 : za2 IT X ((List.range (len * ie.size)).map fun k => (zjw z)[k % z.cells.size]?.getD .bad) ((List.range (len * ie.size)).map (z.cells[· % z.cells.size]!)) := by
  refine zec (by simp) fun i x v h1 h2 => ?_
  rw [List.getElem?_map] at h1 h2
  cases hr : (List.range (len * ie.size))[i]? with
  | none => rw [hr] at h1; cases h1
  | some k =>
   rw [hr] at h1 h2
   simp only [Option.map_some, Option.some.injEq] at h1 h2
   have hlt : k % z.cells.size < z.cells.size := Nat.mod_lt _ (Nat.pos_of_ne_zero hc2)
   subst h1 h2
   have e1 : (zjw z)[k % z.cells.size]?.getD .bad = zgt z.cells[k % z.cells.size] := by
    simp [zjw, hlt]
   have e2 : z.cells[k % z.cells.size]! = z.cells[k % z.cells.size] := getElem!_pos z.cells (k % z.cells.size) hlt
   rw [e1, e2]; exact zhb _
 have hz1 : ∀ v ∈ (List.range (len * ie.size)).map (z.cells[· % z.cells.size]!), v.oneCell' = true := by
  intro v hv
  obtain ⟨k, _, rfl⟩ := List.mem_map.1 hv
  have hlt : k % z.cells.size < z.cells.size := Nat.mod_lt _ (Nat.pos_of_ne_zero hc2)
  rw [getElem!_pos z.cells (k % z.cells.size) hlt]
  exact List.all_eq_true.1 hc1 _ (by simp)
 obtain ⟨vs', e1, e2, e3⟩ := zl7 h2 hp hz0 hz1
 exact ⟨vs', run_buildSlice X.w t e' len qs vs'.toArray ie z hu hie hz (by omega) hc4 (by
  rw [← e1]; congr 1
  apply Array.ext'; simp), e2, e3⟩
def zn4 (P : Program) (t : TypeId) (len : Nat) (parts : List (Nat × AV)) : Option AV :=
 (znd P t len parts).map fun r => .list len r.1 .full
theorem zoc {IT : IterP} (hIT : ITMono IT) {P : Program} {X : Cx} {σ : St} {t : TypeId} {len : Nat} {ps : List (Nat × AV)} {qs : Array (Nat × Value)} {a : AV} (h : zn4 P t len ps = some a) (hp : zmx IT X ps qs.toList) (hI : Inv IT σ X) :
 ∃ v X', (Instr.buildSlice t len qs).run P X.w = .ok v X'.w ∧ Ext X X' ∧ Inv IT σ X' ∧ Rep IT X' a v ∧
  Grows X.w X'.w ∧ X'.κ = X.κ ∧ X'.β = X.β ∧ X'.lens = X.lens ∧ (X'.O = X.O ∧ X'.C = X.C) ∧ ∀ b i, X'.F b i → X.F b i ∨ X.w.heap.size ≤ b := by
 unfold zn4 at h
 simp only [Option.map_eq_some_iff] at h
 obtain ⟨⟨cs, e, sz⟩, h, rfl⟩ := h
 obtain ⟨vs', e1, e2, e3⟩ := zmt h hp
 obtain ⟨X', x1, x2, x3, x4, x5⟩ := z0a hIT hI e e2 e3
 refine ⟨.slice (some ⟨X.w.heap.size, 0, none⟩) len len, X', by rw [x1]; exact e1, x2, x3, ?_, x5⟩
 rw [Rep]
 exact ⟨_, _, rfl, ⟨Nat.le_refl _, fun h => by cases h⟩, .inr ⟨_, _, rfl, x4⟩, rfl⟩
def z6i (P : Program) (σ : St) (t : TypeId) (len : Nat) (parts : List (Nat × AV)) : Option (AV × St) :=
 match znd P t len parts with
 | some (cs, e, sz) => if cs.length = len * sz then some (.bsl σ.boxes.length 0 len sz true, { σ with boxes := σ.boxes ++ [(e, cs)] }) else none
 | none => none
theorem zvo {IT : IterP} (hIT : ITMono IT) {P : Program} {X : Cx} {σ σ' : St} {t : TypeId} {len : Nat} {ps : List (Nat × AV)} {qs : Array (Nat × Value)} {a : AV} (h : z6i P σ t len ps = some (a, σ')) (hp : zmx IT X ps qs.toList) (hI : Inv IT σ X) :
 ∃ v X', (Instr.buildSlice t len qs).run P X.w = .ok v X'.w ∧ Ext X X' ∧ Inv IT σ' X' ∧ Rep IT X' a v := by
 unfold z6i at h
 split at h <;> try cases h
 rename_i cs e sz hl
 split at h <;> cases h
 rename_i hlen
 obtain ⟨vs, e1, e2, e3⟩ := zmt hl hp
 obtain ⟨X', x1, x2, x3, x4⟩ := zoo hIT hI (t := e) e2 e3
 refine ⟨_, X', (by rw [x1]; exact e1), x2, x3, ?_⟩
 obtain ⟨b, hb1, hb2⟩ : ∃ b, X'.κ[σ.boxes.length]? = some b ∧ Value.pointer (some ⟨X.w.heap.size, 0, none⟩) = .pointer (some ⟨b, 0, none⟩) := x4
 have hb3 : b = X.w.heap.size := by simp at hb2; exact hb2.symm
 subst hb3
 show Bsl X' _ _ _ _ _ _
 have hl := zq e2
 refine ⟨_, _, vs.toArray, e, hb1, rfl, Nat.le_refl _, fun _ => rfl, ?_, by simp; omega⟩
 rw [x1]; exact zd8 _ _ _ rfl
end Go.Ab
