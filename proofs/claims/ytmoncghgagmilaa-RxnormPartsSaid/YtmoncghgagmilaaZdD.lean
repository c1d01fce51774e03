/-
  Operations of the abstract machine that write: boxes, new rows, append.
-/
import Derived.Test.YtmoncghgagmilaaZdC
set_option linter.unusedSimpArgs false
set_option linter.unusedVariables false
namespace Go.Ab
open Go Go.RowKit Go.Fwd
theorem Inv.κlt {IT : IterP} {σ : St} {X : Cx} (hI : Inv IT σ X) {b : Nat} (hb : b ∈ X.κ) : b < X.w.heap.size := by
 obtain ⟨s, hs, rfl⟩ := List.mem_iff_getElem.1 hb
 have hs' : X.κ[s]? = some X.κ[s] := by simp [hs]
 have hl := hI.κlen
 obtain ⟨t, cs, he⟩ : ∃ t cs, σ.boxes[s]? = some (t, cs) := ⟨(σ.boxes[s]'(by omega)).1, (σ.boxes[s]'(by omega)).2, by rw [List.getElem?_eq_getElem (by omega)]⟩
 obtain ⟨vs, zs, h1, _⟩ := hI.box s _ t cs hs' he
 exact (Array.getElem?_eq_some_iff.1 h1).1
theorem Inv.βlt {IT : IterP} {σ : St} {X : Cx} (hI : Inv IT σ X) {r : Row} (hr : r ∈ X.β) : r.block < X.w.heap.size := by
 obtain ⟨s, hs, rfl⟩ := List.mem_iff_getElem.1 hr
 have hs' : X.β[s]? = some X.β[s] := by simp [hs]
 have hl := hI.βlen
 obtain ⟨cur, fz, h1, _⟩ := hI.row s _ (X.lens[s]'(by omega)) hs' (by rw [List.getElem?_eq_getElem (by omega)])
 exact (Array.getElem?_eq_some_iff.1 h1).1
theorem Inv.Olt {IT : IterP} {σ : St} {X : Cx} (hI : Inv IT σ X) {b : Nat} (h : X.O b) : b < X.w.heap.size := by
 obtain ⟨⟨cs, t, f, h⟩, _⟩ := hI.Ok b h
 exact (Array.getElem?_eq_some_iff.1 h).1
theorem zhs {w : World} {b o : Nat} {v : Value} (h : w.cell? ⟨b, o, none⟩ = some v) : b < w.heap.size := by
 unfold World.cell? at h
 cases hb : w.heap[b]? with
 | none => simp [hb] at h
 | some x => exact (Array.getElem?_eq_some_iff.1 hb).1
theorem Inv.Flt {IT : IterP} {σ : St} {X : Cx} (hI : Inv IT σ X) {b o : Nat} (hf : X.F b o) : b < X.w.heap.size := by
 obtain ⟨v, hv⟩ := hI.Fcell b o hf
 exact zhs hv
theorem zj0 {IT : IterP} (hIT : ITMono IT) {σ : St} {X : Cx} (hI : Inv IT σ X) {s b : Nat} {t : TypeId} {cs cs' : List AV} {vs' zs : List Value} (hs : X.κ[s]? = some b) (hb : σ.boxes[s]? = some (t, cs)) (hne : cs ≠ [])
 (hsize : ∀ cur t f, X.w.heap[b]? = some (.cells cur t f) → cur.size = (vs' ++ zs).length) (hr : za2 IT X cs' vs') (h1 : ∀ v ∈ vs', v.oneCell' = true) :
 Ext X { X with w := X.w.setRow b (vs' ++ zs).toArray } ∧ Inv IT { σ with boxes := σ.boxes.set s (t, cs') } { X with w := X.w.setRow b (vs' ++ zs).toArray } := by
 obtain ⟨vs, zs0, k1, k2, k3⟩ := hI.box s b t cs hs hb
 have hbm : b ∈ X.κ := List.mem_of_getElem? hs
 have hnew : (X.w.setRow b (vs' ++ zs).toArray).heap[b]? = some (.cells (vs' ++ zs).toArray t (0, 0)) := setRow_heap _ _ _ _ _ _ k1
 have hcell : ∀ (b' o : Nat), X.F b' o → (X.w.setRow b (vs' ++ zs).toArray).cell? ⟨b', o, none⟩ = X.w.cell? ⟨b', o, none⟩ := fun b' o hf =>
  cell_setRow_other _ _ _ _ fun e => hI.κF s b t cs hs hb hne o (e ▸ hf)
 have hdead : ∀ (s' : Nat) (t' : TypeId) (c : List AV), X.κ[s']? = some b → s' ≠ s → σ.boxes[s']? = some (t', c) → c = [] := fun s' t' c h2 h3 h4 => by
  rcases hI.κnd s' s b h2 hs h3 with ⟨t2, h5⟩ | ⟨t2, h5⟩
  ·rw [h4] at h5; cases h5; rfl
  ·rw [hb] at h5; cases h5; exact absurd rfl hne
 have hE : Ext X { X with w := X.w.setRow b (vs' ++ zs).toArray } := {
  os := rfl, tape := rfl, output := rfl, size := by simp, drawn := (by first | exact Nat.le_refl _ | exact Nat.le_succ _)
  F := fun _ _ h => h
  cell := hcell
  κ := fun _ _ h => h
  lens := fun s L h => ⟨L, h, Nat.le_refl _, fun _ => rfl⟩
  blk := fun s' b' _ cur t' f h => by
   by_cases e : b' = b
   ·subst e
    rw [k1] at h
    have h2 := hsize _ _ _ k1
    cases h
    exact ⟨_, hnew, by simpa using h2.symm⟩
   ·exact ⟨cur, (setRow_other _ _ _ _ e).trans h, rfl⟩
  szs := Szs.one b (fun k _ e => setRow_other _ _ _ _ e) fun cs t f h => by
   rw [k1] at h
   have h2 := hsize _ _ _ k1
   cases h
   exact ⟨_, _, _, hnew, by simpa using h2.symm⟩
  frame := fun b' _ hk _ => setRow_other _ _ _ _ fun e => hk (e ▸ hbm)
  κnew := fun _ h => .inl h
  βnew := fun r h => .inl ⟨r, h, rfl⟩
  O := rfl
  C := rfl
  Fnew := fun _ _ h => .inl h }
 refine ⟨hE, { hI with
  gv := z3d hIT hE hI.gv
  lens := hI.lens
  elems := hI.elems
  κlen := by simpa using hI.κlen
  κnd := fun s1 s2 b' h2 h3 h4 => ?_
  κF := fun s' b' t' c hs' hb' hc o hf => ?_
  box := fun s' b' t' c hs' hb' => ?_
  row := fun s' r L hr' hL => ?_
  Ok := fun b' ho => by
   obtain ⟨⟨cs0, t0, f0, h0⟩, h2, h3, h4⟩ := hI.Ok b' ho
   exact ⟨⟨cs0, t0, f0, (setRow_other _ _ _ _ (by intro e; subst e; exact h2 hbm)).trans h0⟩, h2, h3, h4⟩
  Fcell := fun b' o hf => by
   obtain ⟨v, hv⟩ := hI.Fcell b' o hf
   exact ⟨v, (hcell b' o hf).trans hv⟩ }⟩
 ·have put : ∀ (s' : Nat), s' ≠ s → ∀ t0, σ.boxes[s']? = some (t0, []) → ∃ t0, (σ.boxes.set s (t, cs'))[s']? = some (t0, []) := fun s' e t0 h => ⟨t0, by rw [List.getElem?_set_ne (Ne.symm e)]; exact h⟩
  by_cases e1 : s1 = s
  ·subst e1
   rw [hs] at h2; cases h2
   obtain ⟨c2, hc2⟩ : ∃ c2, σ.boxes[s2]? = some c2 := by
    have : s2 < X.κ.length := (List.getElem?_eq_some_iff.1 h3).1
    have hl := hI.κlen
    exact ⟨σ.boxes[s2]'(by omega), List.getElem?_eq_getElem _⟩
   obtain ⟨t2, c2⟩ := c2
   have := hdead s2 t2 c2 h3 (Ne.symm h4) hc2
   subst this
   exact .inr (put s2 (Ne.symm h4) t2 hc2)
  ·by_cases e2 : s2 = s
   ·subst e2
    rw [hs] at h3; cases h3
    obtain ⟨c2, hc2⟩ : ∃ c2, σ.boxes[s1]? = some c2 := by
     have : s1 < X.κ.length := (List.getElem?_eq_some_iff.1 h2).1
     have hl := hI.κlen
     exact ⟨σ.boxes[s1]'(by omega), List.getElem?_eq_getElem _⟩
    obtain ⟨t2, c2⟩ := c2
    have := hdead s1 t2 c2 h2 h4 hc2
    subst this
    exact .inl (put s1 h4 t2 hc2)
   ·exact (hI.κnd s1 s2 b' h2 h3 h4).imp (fun ⟨t0, h⟩ => put s1 e1 t0 h) (fun ⟨t0, h⟩ => put s2 e2 t0 h)
 ·by_cases e : s' = s
  ·subst e
   rw [hs] at hs'; cases hs'
   have hlt : s' < σ.boxes.length := (List.getElem?_eq_some_iff.1 hb).1
   have hb2 : some (t, cs') = some (t', c) := by
    have : (σ.boxes.set s' (t, cs'))[s']? = some (t', c) := hb'
    rwa [List.getElem?_set_self hlt] at this
   cases hb2
   exact ⟨vs', zs, hnew, zak hIT hE _ _ hr, h1⟩
  ·have hb2 : σ.boxes[s']? = some (t', c) := by
    have : (σ.boxes.set s (t, cs'))[s']? = some (t', c) := hb'
    rwa [List.getElem?_set_ne (Ne.symm e)] at this
   obtain ⟨us, zs', u1, u2, u3⟩ := hI.box s' b' t' c hs' hb2
   by_cases hbb : b' = b
   ·subst hbb
    have hc := hdead s' t' c hs' e hb2
    subst hc
    rw [k1] at u1
    simp only [Option.some.injEq, Obj.cells.injEq] at u1
    obtain ⟨_, rfl, _⟩ := u1
    exact ⟨[], vs' ++ zs, hnew, by rw [za2], by simp⟩
   ·exact ⟨us, zs', (setRow_other _ _ _ _ hbb).trans u1, zak hIT hE _ _ u2, u3⟩
 ·by_cases e : s' = s
  ·subst e
   rw [hs] at hs'; cases hs'
   exact hI.κF s' b t cs hs hb hne o hf
  ·have hb2 : σ.boxes[s']? = some (t', c) := by
    have : (σ.boxes.set s (t, cs'))[s']? = some (t', c) := hb'
    rwa [List.getElem?_set_ne (Ne.symm e)] at this
   exact hI.κF s' b' t' c hs' hb2 hc o hf
 ·obtain ⟨cur, fz, c1, c2⟩ := hI.row s' r L hr' hL
  have hne : r.block ≠ b := fun e => hI.βκ r (List.mem_of_getElem? hr') (e ▸ hbm)
  exact ⟨cur, fz, (setRow_other _ _ _ _ hne).trans c1, c2⟩
theorem zo2 {IT : IterP} {σ : St} {X : Cx} (hI : Inv IT σ X) (o : Obj) (G : Nat → Prop) (κn : List Nat) (hκ : ∀ b ∈ κn, b = X.w.heap.size) :
 Ext X { X with w := X.w.alloc o, F := fun b i => X.F b i ∨ (b = X.w.heap.size ∧ G i), κ := X.κ ++ κn } where
 os := rfl
 tape := rfl
 output := rfl
 size := by simp
 drawn := (by first | exact Nat.le_refl _ | exact Nat.le_succ _)
 F := fun _ _ h => .inl h
 cell := fun b i hf => World.cell?_of_block (Below.heap_alloc _ _ _ (hI.Flt hf))
 κ := fun s b h => by
  have := (List.getElem?_eq_some_iff.1 h).1
  show (X.κ ++ κn)[s]? = some b
  rw [List.getElem?_append_left this]; exact h
 lens := fun s L h => ⟨L, h, Nat.le_refl _, fun _ => rfl⟩
 blk := fun s b hs cur t f h => ⟨cur, (Below.heap_alloc _ _ _ (hI.κlt (List.mem_of_getElem? hs))).trans h, rfl⟩
 szs := Szs.old fun k hk => Below.heap_alloc _ _ _ hk
 frame := fun b hb _ _ => Below.heap_alloc _ _ _ hb
 κnew := fun b h => by
  rcases List.mem_append.1 h with h | h
  ·exact .inl h
  ·exact .inr (by rw [hκ b h]; exact Nat.le_refl _)
 βnew := fun r h => .inl ⟨r, h, rfl⟩
 O := rfl
 C := rfl
 Fnew := fun b i h => by
  rcases h with h | ⟨h, _⟩
  ·exact .inl h
  ·exact .inr (.inl (h ▸ Nat.le_refl _))
theorem zrl {IT : IterP} (hIT : ITMono IT) {σ : St} {X : Cx} (hI : Inv IT σ X) {t : TypeId} {cs : List AV} {vs : List Value} (zs : List Value) (hr : za2 IT X cs vs) (h1 : ∀ v ∈ vs, v.oneCell' = true) :
 ∃ X', X'.w = X.w.alloc (.cells (vs ++ zs).toArray t) ∧ Ext X X' ∧ Inv IT { σ with boxes := σ.boxes ++ [(t, cs)] } X' ∧ Rep IT X' (.ptr σ.boxes.length 0) (.pointer (some ⟨X.w.heap.size, 0, none⟩)) := by
 have hE := zo2 hI (.cells (vs ++ zs).toArray t) (fun _ => False) [X.w.heap.size] (fun b h => by simpa using h)
 refine ⟨_, rfl, hE, ?_, ?_⟩
 ·refine { lens := hI.lens, elems := hI.elems, κlen := by simp [hI.κlen], κnd := ?_, box := ?_, κF := ?_, βlen := hI.βlen, βnd := hI.βnd, βκ := ?_, row := ?_, Ok := ?_, Fcell := ?_ }
  ·intro s s' b h2 h3 h4
   have old : ∀ s, (X.κ ++ [X.w.heap.size])[s]? = some b → (X.κ[s]? = some b ∧ s < σ.boxes.length) ∨ (s = X.κ.length ∧ b = X.w.heap.size) := fun s h => by
    have hl := hI.κlen
    rcases Nat.lt_or_ge s X.κ.length with hlt | hge
    ·rw [List.getElem?_append_left hlt] at h; exact .inl ⟨h, by omega⟩
    ·have := (List.getElem?_eq_some_iff.1 h).1
     simp at this
     have e : s = X.κ.length := by omega
     subst e
     simp at h; exact .inr ⟨rfl, h.symm⟩
   have up : ∀ s, s < σ.boxes.length → (∃ t, σ.boxes[s]? = some (t, [])) → ∃ t', (σ.boxes ++ [(t, cs)])[s]? = some (t', []) := fun s hs ⟨t0, h⟩ => ⟨t0, by rw [List.getElem?_append_left hs]; exact h⟩
   rcases old s h2 with ⟨k2, l2⟩ | ⟨k2, l2⟩
   ·rcases old s' h3 with ⟨k3, l3⟩ | ⟨k3, l3⟩
    ·exact (hI.κnd s s' b k2 k3 h4).imp (up s l2) (up s' l3)
    ·have := hI.κlt (List.mem_of_getElem? k2); omega
   ·rcases old s' h3 with ⟨k3, l3⟩ | ⟨k3, l3⟩
    ·have := hI.κlt (List.mem_of_getElem? k3); omega
    ·omega
  ·intro s b t' c hs hb
   have hlen := hI.κlen
   rcases Nat.lt_or_ge s X.κ.length with hlt | hge
   ·have hs' : X.κ[s]? = some b := by rw [← hs]; exact (List.getElem?_append_left hlt).symm
    have hb' : σ.boxes[s]? = some (t', c) := by rw [← hb]; exact (List.getElem?_append_left (by omega)).symm
    obtain ⟨us, zs', u1, u2, u3⟩ := hI.box s b t' c hs' hb'
    exact ⟨us, zs', (Below.heap_alloc _ _ _ (hI.κlt (List.mem_of_getElem? hs'))).trans u1, zak hIT hE _ _ u2, u3⟩
   ·have h0 : s = X.κ.length := by
     have := (List.getElem?_eq_some_iff.1 hs).1
     simp at this; omega
    subst h0
    have e1 : b = X.w.heap.size := by
     have : (X.κ ++ [X.w.heap.size])[X.κ.length]? = some b := hs
     simp at this; exact this.symm
    have e2 : (t, cs) = (t', c) := by
     have : (σ.boxes ++ [(t, cs)])[X.κ.length]? = some (t', c) := hb
     rw [hlen] at this; simpa using this
    cases e2
    subst e1
    exact ⟨vs, zs, zd8 _ _ _ rfl, zak hIT hE _ _ hr, h1⟩
  ·intro s b t' c hs hb hc o hf
   rcases hf with hf | ⟨_, hf⟩
   ·have hlen := hI.κlen
    rcases Nat.lt_or_ge s X.κ.length with hlt | hge
    ·have hs' : X.κ[s]? = some b := by rw [← hs]; exact (List.getElem?_append_left hlt).symm
     have hb' : σ.boxes[s]? = some (t', c) := by rw [← hb]; exact (List.getElem?_append_left (by omega)).symm
     exact hI.κF s b t' c hs' hb' hc o hf
    ·have h0 : s = X.κ.length := by
      have := (List.getElem?_eq_some_iff.1 hs).1
      simp at this; omega
     subst h0
     have e1 : b = X.w.heap.size := by
      have : (X.κ ++ [X.w.heap.size])[X.κ.length]? = some b := hs
      simp at this; exact this.symm
     have := hI.Flt hf
     omega
   ·exact hf
  ·intro r hr' hm
   rcases List.mem_append.1 hm with hm | hm
   ·exact hI.βκ r hr' hm
   ·have := hI.βlt hr'
    simp at hm; omega
  ·intro s r L hr' hL
   obtain ⟨cur, fz, c1, c2, c3, c4, c5, c6, c7⟩ := hI.row s r L hr' hL
   refine ⟨cur, fz, (Below.heap_alloc _ _ _ (hI.βlt (List.mem_of_getElem? hr'))).trans c1, c2, c3, c4, c5, fun o hf => ?_, c7⟩
   rcases hf with hf | ⟨_, hf⟩
   ·exact c6 o hf
   ·exact hf.elim
  ·intro b ho
   obtain ⟨⟨cs0, t0, f0, h0⟩, h2, h3, h4⟩ := hI.Ok b ho
   have hlt := hI.Olt ho
   refine ⟨⟨cs0, t0, f0, (Below.heap_alloc _ _ _ hlt).trans h0⟩, fun hm => ?_, h3, fun o hf => hf.elim (h4 o) fun h => h.2.elim⟩
   rcases List.mem_append.1 hm with hm | hm
   ·exact h2 hm
   ·simp at hm; omega
  ·intro b o hf
   rcases hf with hf | ⟨_, hf⟩
   ·obtain ⟨v, hv⟩ := hI.Fcell b o hf
    exact ⟨v, (hE.cell b o hf).trans hv⟩
   ·exact hf.elim
 ·rw [Rep]
  refine ⟨X.w.heap.size, ?_, rfl⟩
  show (X.κ ++ [X.w.heap.size])[σ.boxes.length]? = _
  rw [← hI.κlen]; simp
theorem zoo {IT : IterP} (hIT : ITMono IT) {σ : St} {X : Cx} (hI : Inv IT σ X) {t : TypeId} {cs : List AV} {vs : List Value} (hr : za2 IT X cs vs) (h1 : ∀ v ∈ vs, v.oneCell' = true) :
 ∃ X', X'.w = X.w.alloc (.cells vs.toArray t) ∧ Ext X X' ∧ Inv IT { σ with boxes := σ.boxes ++ [(t, cs)] } X' ∧ Rep IT X' (.ptr σ.boxes.length 0) (.pointer (some ⟨X.w.heap.size, 0, none⟩)) := by
 obtain ⟨X', h1, h2⟩ := zrl hIT hI (t := t) [] hr h1
 exact ⟨X', by rw [h1, List.append_nil], h2⟩
theorem ztm {IT : IterP} {X : Cx} {b : Nat} : ∀ {cs : List AV} {vs : List Value} {o : Nat}, (∀ j, j < vs.length → X.F b (o + j)) → (∀ v ∈ vs, v.oneCell' = true) → za2 IT X cs vs → (∀ (j : Nat) v, vs[j]? = some v → X.w.cell? ⟨b, o + j, none⟩ = some v) → At IT X cs b o
 | [], vs, o, _, _, _, _ => by rw [At]; trivial
 | a :: l, vs, o, hf, h1, h, hc => by
  rw [za2] at h
  obtain ⟨v, r, rfl, h2, h3⟩ := h
  rw [At]
  refine ⟨⟨by simpa using hf 0 (by simp), v, by simpa using hc 0 v rfl, h1 v (by simp), h2⟩, ztm (fun j hj => ?_) (fun u hu => h1 u (by simp [hu])) h3 fun j u hu => ?_⟩
  ·have := hf (j + 1) (by simp; omega)
   rwa [show o + (j + 1) = o + 1 + j by omega] at this
  ·have := hc (j + 1) u (by simpa using hu)
   rwa [show o + (j + 1) = o + 1 + j by omega] at this
theorem z0a {IT : IterP} (hIT : ITMono IT) {σ : St} {X : Cx} (hI : Inv IT σ X) (t : TypeId) {cs : List AV} {vs : List Value} (hr : za2 IT X cs vs) (h1 : ∀ v ∈ vs, v.oneCell' = true) :
 ∃ X', X'.w = X.w.alloc (.cells vs.toArray t) ∧ Ext X X' ∧ Inv IT σ X' ∧ At IT X' cs X.w.heap.size 0 ∧
  Grows X.w X'.w ∧ X'.κ = X.κ ∧ X'.β = X.β ∧ X'.lens = X.lens ∧ (X'.O = X.O ∧ X'.C = X.C) ∧ ∀ b i, X'.F b i → X.F b i ∨ X.w.heap.size ≤ b := by
 have hE := zo2 hI (.cells vs.toArray t) (fun i => i < vs.length) [] (fun b h => by simp at h)
 refine ⟨_, rfl, hE, ?_, ?_, (Ex.refl _ _).alloc (Nat.le_refl _) _, by simp, rfl, rfl, ⟨rfl, rfl⟩, fun b i h => h.imp id fun h => Nat.le_of_eq h.1.symm⟩
 ·refine { lens := hI.lens, elems := hI.elems, κlen := by simpa using hI.κlen, κnd := by simpa using hI.κnd, box := ?_, κF := ?_, βlen := hI.βlen, βnd := hI.βnd, βκ := by simpa using hI.βκ, row := ?_, Ok := ?_, Fcell := ?_ }
  ·intro s b t' c hs hb
   have hs' : X.κ[s]? = some b := by simpa using hs
   obtain ⟨us, zs', u1, u2, u3⟩ := hI.box s b t' c hs' hb
   exact ⟨us, zs', (Below.heap_alloc _ _ _ (hI.κlt (List.mem_of_getElem? hs'))).trans u1, zak hIT hE _ _ u2, u3⟩
  ·intro s b t' c hs hb hc o hf
   have hs' : X.κ[s]? = some b := by simpa using hs
   rcases hf with hf | ⟨e, _⟩
   ·exact hI.κF s b t' c hs' hb hc o hf
   ·have := hI.κlt (List.mem_of_getElem? hs'); omega
  ·intro s r L hr' hL
   obtain ⟨cur, fz, c1, c2, c3, c4, c5, c6, c7⟩ := hI.row s r L hr' hL
   have hlt := hI.βlt (List.mem_of_getElem? hr')
   refine ⟨cur, fz, (Below.heap_alloc _ _ _ hlt).trans c1, c2, c3, c4, c5, fun o hf => ?_, c7⟩
   rcases hf with hf | ⟨e, _⟩
   ·exact c6 o hf
   ·omega
  ·intro b ho
   obtain ⟨⟨cs0, t0, f0, h0⟩, h2, h3, h4⟩ := hI.Ok b ho
   have hlt := hI.Olt ho
   exact ⟨⟨cs0, t0, f0, (Below.heap_alloc _ _ _ hlt).trans h0⟩, by simpa using h2, h3, fun o hf => hf.elim (h4 o) fun h => by omega⟩
  ·intro b o hf
   rcases hf with hf | ⟨e, hf⟩
   ·obtain ⟨v, hv⟩ := hI.Fcell b o hf
    exact ⟨v, (hE.cell b o hf).trans hv⟩
   ·subst e
    refine ⟨vs[o], ?_⟩
    show (X.w.alloc _).cell? _ = _
    rw [cell_of_row _ _ _ _ _ _ (zd8 _ _ _ rfl)]
    simp [hf]
 ·refine ztm (fun j hj => .inr ⟨rfl, by omega⟩) h1 (zak hIT hE _ _ hr) fun j u hu => ?_
  show (X.w.alloc _).cell? _ = _
  rw [cell_of_row _ _ _ _ _ _ (zd8 _ _ _ rfl), Nat.zero_add]
  simpa using hu
end Go.Ab
