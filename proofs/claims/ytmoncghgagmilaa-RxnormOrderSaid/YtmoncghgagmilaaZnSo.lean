/-
  slices.SortFunc of nodes by Compare, slices.CompactFunc by Same: in any state; of nothing.
-/
import Derived.Test.YtmoncghgagmilaaZnV3
import Derived.Shelf.SlSortCmp.InsertionK
import Derived.Test.YtmoncghgagmilaaZdSh
import Derived.Test.YtmoncghgagmilaaZnW9
import Derived.Shelf.SlGeneric
import Derived.Shelf.SlLaysF0
import Derived.Test.YtmoncghgagmilaaProg
import Derived.Shelf.SlSortCmp.WholeK
set_option linter.unusedSimpArgs false
set_option linter.unusedVariables false
namespace Go.Ab
open Go Go.RowKit Go.Fwd Go.Proofs Go.Sort
theorem z0d {w w' : World} (h : Ex w.heap.size w w') : ∃ q os', w' = grow (w.drewN q) os' := by
 refine ⟨w'.drawn - w.drawn, w'.heap.extract w.heap.size w'.heap.size, ?_⟩
 have hh : w'.heap = w.heap ++ w'.heap.extract w.heap.size w'.heap.size := by
  apply Array.ext
  ·have := h.size; simp; omega
  ·intro i h1 h2
   by_cases hi : i < w.heap.size
   ·rw [Array.getElem_append_left hi]
    have := h.block i hi
    rw [Array.getElem?_eq_getElem h1, Array.getElem?_eq_getElem hi] at this
    exact Option.some.inj this
   ·rw [Array.getElem_append_right (by omega), Array.getElem_extract]
    congr 1; omega
 obtain ⟨hp, tp, dr, o, ou⟩ := w'
 obtain ⟨hp0, tp0, dr0, o0, ou0⟩ := w
 have e1 := h.os; have e2 := h.tape; have e3 := h.output; have e4 : dr0 ≤ dr := h.drawn
 simp only at e1 e2 e3 hh
 simp only [grow, World.drewN]
 rw [← hh, e1, e2, e3, show dr0 + (dr - dr0) = dr by omega]
section
variable {β : Type} (enc : β → List Value) (k : Nat)
theorem zn7 (hk : ∀ x, (enc x).length = k) : ∀ (L : List β) (i j : Nat) (hi : i < L.length), j < k → (L.flatMap enc)[i * k + j]? = (enc L[i])[j]?
 | [], i, _, hi, _ => by simp at hi
 | x :: L, 0, j, _, hj => by
  rw [List.flatMap_cons, Nat.zero_mul, Nat.zero_add, List.getElem?_append_left (by rw [hk]; exact hj)]; rfl
 | x :: L, i + 1, j, hi, hj => by
  rw [List.flatMap_cons, List.getElem?_append_right (by rw [hk, Nat.succ_mul]; omega), hk, show (i + 1) * k + j - k = i * k + j by rw [Nat.succ_mul]; omega]
  exact zn7 hk L i j (by simpa using hi) hj
theorem zfb (hk : ∀ x, (enc x).length = k) : ∀ L : List β, (L.flatMap enc).length = L.length * k
 | [] => by simp
 | x :: L => by rw [List.flatMap_cons, List.length_append, hk, zfb hk L, List.length_cons, Nat.succ_mul, Nat.add_comm]
theorem zrc [Inhabited β] (hk : ∀ x, (enc x).length = k) (h0 : 0 < k) (L : List β) : (flatK enc k L.toArray) = (L.flatMap enc).toArray := by
 apply Array.ext
 ·rw [size_flatK]; simp [zfb enc k hk]
 ·intro j h1 h2
  rw [size_flatK] at h1
  have hj : j / k < L.length := by
   rw [Nat.div_lt_iff_lt_mul h0]; simpa using h1
  have hm : j % k < k := Nat.mod_lt _ h0
  have e := zn7 enc k hk L (j / k) (j % k) hj hm
  have hjk : j / k * k + j % k = j := by rw [Nat.mul_comm]; exact Nat.div_add_mod j k
  rw [hjk] at e
  have h3 : j < (L.flatMap enc).length := by simpa using h2
  rw [List.getElem?_eq_getElem h3, List.getElem?_eq_getElem (by rw [hk]; exact hm)] at e
  have e2 := Option.some.inj e
  simp only [flatK, Array.getElem_map, Array.getElem_range]
  rw [List.getElem_toArray, e2]
  rw [getElem!_pos L.toArray _ (by simpa using hj)]
  rw [getElem!_pos _ _ (by rw [hk]; exact hm)]
  simp
theorem zp4 [Inhabited β] (hk : ∀ x, (enc x).length = k) (h0 : 0 < k) {w : World} {b : Nat} {us zs : List Value} {t : TypeId} (hb : w.heap[b]? = some (.cells (us ++ zs).toArray t (0, 0))) (m : Nat) (L : List β) (hl : L.length * k = us.length) (os : Array Obj) :
 sortWorldK enc k w b 0 m L.toArray os = grow ((w.setRow b (L.flatMap enc ++ zs).toArray).drewN m) os := by
 unfold sortWorldK putRowK putRow
 rw [zrc enc k hk h0]
 congr 1
 have hbl : b < w.heap.size := (Array.getElem?_eq_some_iff.1 hb).1
 have e1 : mapBlock (Sort.ahead w m) b (putCells id 0 (L.flatMap enc).toArray) = (mapBlock w b (putCells id 0 (L.flatMap enc).toArray)).drewN m := rfl
 rw [e1]
 congr 1
 have e2 : mapBlock w b (putCells id 0 (L.flatMap enc).toArray) = mapBlock w b (fun _ => (L.flatMap enc ++ zs).toArray) := by
  refine mapBlock_congr _ _ _ _ fun c e fr h => ?_
  rw [hb] at h
  cases h
  apply Array.ext
  ·simp [putCells, zfb enc k hk]; omega
  ·intro i h1 h2
   simp only [putCells, Array.getElem_mapIdx, List.size_toArray, Nat.zero_add, Nat.sub_zero, id, List.getElem_toArray]
   have hf := zfb enc k hk L
   by_cases hi : i < (L.flatMap enc).length
   ·rw [if_pos ⟨Nat.zero_le _, hi⟩, getElem!_pos _ _ (by simpa using hi), List.getElem_append_left hi]; simp
   ·rw [if_neg (by omega), List.getElem_append_right (by omega), List.getElem_append_right (by omega)]
    congr 1; omega
 rw [e2]
 unfold mapBlock World.setRow
 congr 1
end
section
variable {IT : IterP} {α : Type} [Enc α]
structure El (IT : IterP) (X : Cx) (good : α → Prop) where
 c : List Value
 a : α
 len : c.length = Enc.sz α
 one : ∀ v ∈ c, v.oneCell' = true
 rep : za9 IT X (Enc.cells a) c
 ok : good a
theorem z4x {X : Cx} {good : α → Prop} : ∀ (l : List α) (us : List Value), za9 IT X (Enc.cellsL l) us → (∀ v ∈ us, v.oneCell' = true) → (∀ x ∈ l, good x) → ∃ es : List (El IT X good), es.map (·.a) = l ∧ es.flatMap (·.c) = us
 | [], us, h, _, _ => by
  rw [Enc.nil] at h
  exact ⟨[], rfl, h.symm⟩
 | x :: l, us, h, h1, hg => by
  rw [Enc.cons] at h
  have ht := zdq h (Enc.sz α)
  have hd := zfs h (Enc.sz α)
  rw [List.take_left' (Enc.len x)] at ht
  rw [List.drop_left' (Enc.len x)] at hd
  obtain ⟨es, e1, e2⟩ := z4x l _ hd (fun v hv => h1 v (List.mem_of_mem_drop hv)) (fun y hy => hg y (List.mem_cons_of_mem _ hy))
  refine ⟨⟨us.take (Enc.sz α), x, by have := zq ht; rw [← this, Enc.len], fun v hv => h1 v (List.mem_of_mem_take hv), ht, hg x List.mem_cons_self⟩ :: es, by rw [List.map_cons, e1], ?_⟩
  rw [List.flatMap_cons, e2, List.take_append_drop]
theorem z71 {X : Cx} {good : α → Prop} : ∀ es : List (El IT X good), za9 IT X (Enc.cellsL (es.map (·.a))) (es.flatMap (·.c))
 | [] => by rw [List.map_nil, Enc.nil]; rfl
 | e :: es => by
  rw [List.map_cons, Enc.cons, List.flatMap_cons]
  exact zbn e.rep (z71 es)
theorem z6g (hIT : ITMono IT) {P : Program} {f : FuncId} {g : Nat} {t : TypeId} (ent : Ent P f) (eg : ∀ args w, (callFunc g args).run P w = .ok (.enter g args) w)
 (law : ∀ (β : Type) (_ : Inhabited β) (enc : β → List Value), (∀ x, (enc x).length = Enc.sz α) → (∀ x, ∀ v ∈ enc x, v.oneCell' = true) → ∀ (cf : β → β → Int), SWO (ltOf cf) → ∀ (blk off cap : Nat) (d : Array β) (w : World), CmpLays P g #[] enc (Enc.sz α) cf blk off d.size w →
  HoldsK enc (Enc.sz α) w blk off d → blk < w.heap.size → d.size < 4611686018427387904 → Calls P f #[.slice (some ⟨blk, off, none⟩) d.size cap, .func (.func g) #[] #[]] w fun e w' =>
  e = .returned (.tuple #[]) ∧ ∃ d' n os, PermIn 0 d.size d d' ∧ SortedIn (ltOf cf) 0 d.size d' ∧ w' = sortWorldK enc (Enc.sz α) w blk off n d' os)
 (cf : α → α → Int) (good : α → Prop) (hcmp : ∀ x y, good x → good y → Pure IT P g [.agg (Enc.cells x), .agg (Enc.cells y)] (.raw (.int .i64 (cf x y))))
 (irr : ∀ x, good x → ¬ cf x x < 0) (tr : ∀ x y z, good x → good y → good z → cf x y < 0 → cf y z < 0 → cf x z < 0) (ntr : ∀ x y z, good x → good y → good z → ¬ cf x y < 0 → ¬ cf y z < 0 → ¬ cf x z < 0) (anti : ∀ x y, good x → good y → ¬ cf x y < 0 → ¬ cf y x < 0 → x = y)
 (l m : List α) (hg : ∀ x ∈ l, good x) (hne : 0 < l.length ∧ l.length < 4611686018427387904) (hp : m.Perm l) (hm : m.Pairwise fun x y => ¬ cf y x < 0) {σ : St} {s : Nat} {fl : Bool} (hb : σ.boxes[s]? = some (t, Enc.cellsL l)) :
 Snd IT P f [.bsl s 0 l.length (Enc.sz α) fl, .clos g []] σ (.tup []) { σ with boxes := σ.boxes.set s (t, Enc.cellsL m) } := by
 refine ⟨ent, fun X vs hI hr => ?_⟩
 obtain ⟨v1, r1, rfl, hv1, v2, r2, rfl, hv2, hr2⟩ := hr
 rw [za9] at hr2
 subst hr2
 obtain ⟨b, cap, cur, t0, hκ, rfl, hcap, hful, hcur, hoff⟩ := hv1
 obtain ⟨vs2, rfl, hvs2⟩ := hv2
 rw [za9] at hvs2
 subst hvs2
 obtain ⟨us, zs, hheap, hrep, hone⟩ := hI.box s b t _ hκ hb
 obtain ⟨es, he1, he2⟩ := z4x (IT := IT) (good := good) l us hrep hone hg
 have hlen : es.length = l.length := by rw [← he1, List.length_map]
 obtain ⟨e0, hme0⟩ : ∃ e, e ∈ es := by
  cases es with
  | nil => simp at hlen; omega
  | cons e _ => exact ⟨e, List.mem_cons_self⟩
 let enc : El IT X good → List Value := fun e => e.c
 have hk : ∀ e, (enc e).length = Enc.sz α := fun e => e.len
 have h0 := Enc.pos (α := α)
 have hbl : b < X.w.heap.size := (Array.getElem?_eq_some_iff.1 hheap).1
 have hul : us.length = l.length * Enc.sz α := by rw [← zq hrep, Enc.lenL]
 letI : Inhabited (El IT X good) := ⟨e0⟩
 have hne' : Enc.cellsL l ≠ [] := fun e => by
  have := Enc.lenL l
  rw [e] at this
  have h3 := Nat.mul_pos hne.1 h0
  simp at this; omega
 have hset : ∀ (mm : Nat) (L : List (El IT X good)) (os : Array Obj), L.length = l.length → sortWorldK enc (Enc.sz α) X.w b 0 mm L.toArray os = grow ((X.w.setRow b (L.flatMap enc ++ zs).toArray).drewN mm) os := fun mm L os hL =>
  zp4 enc (Enc.sz α) hk h0 hheap mm L (by rw [hL, hul]) os
 have hH : HoldsK enc (Enc.sz α) X.w b 0 es.toArray := by
  intro j hj
  rw [zrc enc (Enc.sz α) hk h0, show es.flatMap enc = us from he2] at hj ⊢
  have hj' : j < us.length := by simpa using hj
  rw [getElem!_pos (us.toArray) j hj]
  refine ⟨?_, by simp [World.frozen?, hheap]⟩
  simp [World.cell?, hheap, List.getElem?_append_left hj', List.getElem?_eq_getElem hj']
 have hother : ∀ (mm : Nat) (L : List (El IT X good)) (os : Array Obj), L.length = l.length → ∀ k, k < X.w.heap.size → k ≠ b → (sortWorldK enc (Enc.sz α) X.w b 0 mm L.toArray os).heap[k]? = X.w.heap[k]? := fun mm L os hL k hk1 hk2 => by
  rw [hset mm L os hL]
  show ((X.w.setRow b _).heap ++ os)[k]? = _
  rw [Array.getElem?_append_left (by simpa using hk1)]
  exact setRow_other _ _ _ _ hk2
 have hthis : ∀ (mm : Nat) (L : List (El IT X good)) (os : Array Obj), L.length = l.length → (sortWorldK enc (Enc.sz α) X.w b 0 mm L.toArray os).heap[b]? = some (.cells (L.flatMap enc ++ zs).toArray t (0, 0)) := fun mm L os hL => by
  rw [hset mm L os hL]
  show ((X.w.setRow b _).heap ++ os)[b]? = _
  rw [Array.getElem?_append_left (by simpa using hbl)]
  exact setRow_heap _ _ _ _ _ _ hheap
 have hFb : ∀ b' o, X.F b' o → b' < X.w.heap.size ∧ b' ≠ b := fun b' o hf => ⟨hI.Flt hf, fun e => hI.κF s b t _ hκ hb hne' o (e ▸ hf)⟩
 have hcmp' : CmpLays P g #[] enc (Enc.sz α) (fun x y => cf x.a y.a) b 0 es.toArray.size X.w := by
  intro mm os dk hdk x y
  obtain ⟨W, hW⟩ : ∃ W, W = sortWorldK enc (Enc.sz α) X.w b 0 mm dk os := ⟨_, rfl⟩
  obtain ⟨L, rfl⟩ : ∃ L : List (El IT X good), dk = L.toArray := ⟨dk.toList, by simp⟩
  have hL : L.length = l.length := by rw [← hlen]; simpa using hdk
  have hcell : ∀ b' o, X.F b' o → W.cell? ⟨b', o, none⟩ = X.w.cell? ⟨b', o, none⟩ := fun b' o hf => by
   obtain ⟨q1, q2⟩ := hFb b' o hf
   exact World.cell?_of_block (by rw [hW]; exact hother mm L os hL b' q1 q2)
  have hsz : Szs X.w W := Szs.one b (fun k q1 q2 => by rw [hW]; exact hother mm L os hL k q1 q2) fun cs t' f' hc => by
   rw [hheap] at hc; cases hc
   refine ⟨_, _, _, by rw [hW]; exact hthis mm L os hL, ?_⟩
   simp [zfb enc (Enc.sz α) hk, hL, hul]
  have hS : Sub ⟨X.F, [], [], [], X.w, fun _ => False, fun _ _ => False⟩ ⟨X.F, [], [], [], W, fun _ => False, fun _ _ => False⟩ := ⟨fun _ _ h => h, hcell, fun _ _ h => h, fun s L h => ⟨L, h, Nat.le_refl _, fun _ => rfl⟩, fun s b h => by simp at h, hsz⟩
  have hI0 : Inv IT St.empty ⟨X.F, [], [], [], W, fun _ => False, fun _ _ => False⟩ := { zik hI with
   gv := hIT.gv _ _ _ _ (fun _ _ h => h) hcell hsz hI.gv
   box := fun s b t cs h => by simp at h
   κF := fun s b t cs h => by simp at h
   row := fun s r L h => by simp at h
   Ok := fun b h => h.elim
   Fcell := fun b' o hf => by rw [hcell b' o hf]; exact hI.Fcell b' o hf }
  have hel : ∀ e : El IT X good, Rep IT ⟨X.F, [], [], [], W, fun _ => False, fun _ _ => False⟩ (.agg (Enc.cells e.a)) (.agg (enc e).toArray) := fun e => by
   have h1 : Rep IT X (.agg (Enc.cells e.a)) (.agg (enc e).toArray) := ⟨_, rfl, e.rep, e.one⟩
   have h2 := zfq (X := X) (Y := ⟨X.F, [], [], [], X.w, fun _ => False, fun _ _ => False⟩) hIT rfl rfl _ _ (.inl (by show z7 0 (Enc.cells e.a) = true; exact zo _ _ (Enc.clo _))) h1
   have h3 : zb7 (.agg (Enc.cells e.a)) = .agg (Enc.cells e.a) := by rw [zb7, zb9 _ (Enc.clo _)]
   rw [h3] at h2
   exact zfi hIT hS _ _ h2
  have hc := (hcmp x.a y.a x.ok y.ok).2 ⟨X.F, [], [], [], W, fun _ => False, fun _ _ => False⟩ [.agg (enc x).toArray, .agg (enc y).toArray] hI0 ⟨_, _, rfl, hel x, _, _, rfl, hel y, rfl⟩
  rw [← hW]
  refine hc.mono ?_
  rintro e w' ⟨v, Y, rfl, rfl, hE, _, hv⟩
  refine ⟨by rw [show v = _ from hv], z0d ⟨⟨hE.os, hE.tape, hE.output, hE.size, fun k hk => hE.frame k hk (by simp) (by simp)⟩, hE.drawn⟩⟩
 have hSWO : SWO (ltOf fun x y : El IT X good => cf x.a y.a) := {
  irrefl := fun x => by simpa [ltOf] using irr _ x.ok
  trans := fun x y z h1 h2 => by simp only [ltOf, decide_eq_true_eq] at *; exact tr _ _ _ x.ok y.ok z.ok h1 h2
  ntrans := fun x y z h1 h2 => by simp only [ltOf, decide_eq_false_iff_not] at *; exact ntr _ _ _ x.ok y.ok z.ok h1 h2 }
 have hfin := law (El IT X good) ⟨e0⟩ enc hk (fun e => e.one) (fun x y => cf x.a y.a) hSWO b 0 cap es.toArray X.w hcmp' hH hbl (by rw [List.size_toArray, hlen]; exact hne.2)
 rw [List.size_toArray, hlen] at hfin
 refine hfin.mono ?_
 rintro e w' ⟨rfl, d', n, os, hperm, hsort, rfl⟩
 obtain ⟨L, rfl⟩ : ∃ L : List (El IT X good), d' = L.toArray := ⟨d'.toList, by simp⟩
 have hLl : L.length = l.length := by have := hperm.1; simp at this; omega
 have hLp : L.Perm es := by
  have := hperm.2.2
  rw [← hlen] at this
  have e1 : (L.toArray.extract 0 es.length).toList = L := by
   rw [Array.toList_extract, hlen, ← hLl]; simp [List.extract_eq_take_drop]
  have e2 : (es.toArray.extract 0 es.length).toList = es := by
   rw [Array.toList_extract]; simp [List.extract_eq_take_drop]
  rw [e1, e2] at this
  exact this
 have hLm : L.map (·.a) = m := by
  refine List.Perm.eq_of_pairwise (le := fun x y => (good x ∧ good y) ∧ ¬ cf y x < 0) ?_ ?_ ?_ ?_
  ·intro a b _ _ h1 h2
   exact anti _ _ h1.1.1 h1.1.2 h2.2 h1.2
  ·rw [List.pairwise_iff_getElem]
   intro i j hi hj hij
   rw [List.length_map] at hi hj
   refine ⟨⟨by rw [List.getElem_map]; exact L[i].ok, by rw [List.getElem_map]; exact L[j].ok⟩, ?_⟩
   have := hsort i j (Nat.zero_le _) hij (by omega)
   rw [getElem!_pos L.toArray i (by simpa using hi), getElem!_pos L.toArray j (by simpa using hj)] at this
   simpa [ltOf] using this
  ·rw [List.pairwise_iff_getElem] at hm ⊢
   intro i j hi hj hij
   exact ⟨⟨hg _ (hp.mem_iff.1 (List.getElem_mem hi)), hg _ (hp.mem_iff.1 (List.getElem_mem hj))⟩, hm i j hi hj hij⟩
  ·exact ((hLp.map _).trans (by rw [he1])).trans hp.symm
 have hrL : za9 IT X (Enc.cellsL m) (L.flatMap enc) := by rw [← hLm]; exact z71 L
 have h1L : ∀ v ∈ L.flatMap enc, v.oneCell' = true := fun v hv => by
  obtain ⟨e, _, he⟩ := List.mem_flatMap.1 hv
  exact e.one v he
 obtain ⟨x1, x2⟩ := zjx hIT hI (cs' := Enc.cellsL m) (vs' := L.flatMap enc) (zs := zs) hκ hb hne' (fun cur' t' f' hc => by
  rw [hheap] at hc; cases hc
  simp [zfb enc (Enc.sz α) hk, hLl, hul]) hrL h1L
 have hgr : Grows (X.w.setRow b (L.flatMap enc ++ zs).toArray) (sortWorldK enc (Enc.sz α) X.w b 0 n L.toArray os) := by
  rw [hset n L os hLl]
  obtain ⟨W, hW⟩ : ∃ W, W = X.w.setRow b (L.flatMap enc ++ zs).toArray := ⟨_, rfl⟩
  rw [← hW]
  refine ⟨⟨rfl, rfl, rfl, ?_, fun k hk => ?_⟩, Nat.le_add_right _ _⟩
  ·show W.heap.size ≤ (W.heap ++ os).size
   simp
  ·show (W.heap ++ os)[k]? = _
   rw [Array.getElem?_append_left hk]
 exact ⟨_, _, rfl, rfl, x1.trans (zkm x2 hgr), zi0 hIT x2 hgr, ⟨[], rfl, rfl⟩⟩
end
end Go.Ab
set_option linter.unusedSimpArgs false
set_option linter.unusedVariables false
namespace Go.Ab
open Go Go.RowKit Go.Fwd
abbrev cutQ {τ α : Type} (R : τ → Prop) (Q : α → Prop) (o : τ ⊕ α) : Prop := match o with | .inl t => R t | .inr y => Q y
def Ok {α : Type} (Q : α → Prop) (x : Option α) : Prop := ∃ r, x = some r ∧ Q r
section
variable {α β τ ρ : Type} {Q : α → Prop}
theorem zb8 {p : Prop} [Decidable p] {k : Option α} (h : p) (hk : Ok Q k) : Ok Q (chk p k) := by rw [zaz h]; exact hk
theorem zfe {e : β} {k : β → Option α} (h : ∀ x, e = x → Ok Q (k x)) : Ok Q (zan e k) := h e rfl
theorem z5n {x : Option β} {k : β → Option α} {R : β → Prop} (h : Ok R x) (hk : ∀ a, R a → Ok Q (k a)) : Ok Q (za3 x k) := by
 obtain ⟨a, rfl, ha⟩ := h; exact hk a ha
theorem zlg {c : Bool} {A B : Option α} (ht : c = true → Ok Q A) (hf : c = false → Ok Q B) : Ok Q (bif c then A else B) := by
 cases c with
 | true => exact ht rfl
 | false => exact hf rfl
theorem zef {r : α} (h : Q r) : Ok Q (some r) := ⟨r, rfl, h⟩
theorem zqi {x : Option (τ ⊕ α)} {k : τ → Option α} (R : τ → Prop) (h : Ok (cutQ R Q) x) (hk : ∀ t, R t → Ok Q (k t)) : Ok Q (zdo x k) := by
 obtain ⟨o, rfl, h⟩ := h
 cases o with
 | inl t => exact hk t h
 | inr y => exact ⟨y, rfl, h⟩
theorem zoi {body : β → Option (β ⊕ α)} (T : β → Prop) (m : β → Nat) (hs : ∀ s, T s → Ok (cutQ (fun s' => T s' ∧ m s' < m s) Q) (body s)) : ∀ (n : Nat) (s0 : β), m s0 < n → T s0 → Ok Q (zch body n s0)
 | 0, s0, h, _ => absurd h (Nat.not_lt_zero _)
 | n + 1, s0, h, h0 => by
  obtain ⟨o, ho, h1⟩ := hs s0 h0
  cases o with
  | inl s' =>
   obtain ⟨r, h2, h3⟩ := zoi T m hs n s' (by have := h1.2; omega) h1.1
   exact ⟨r, by simp only [zch, ho, h2], h3⟩
  | inr y => exact ⟨y, by simp only [zch, ho], h1⟩
theorem Ok.mono {R : α → Prop} {x : Option α} (h : Ok Q x) (hR : ∀ r, Q r → R r) : Ok R x := by
 obtain ⟨r, h1, h2⟩ := h; exact ⟨r, h1, hR r h2⟩
theorem Ok.eq {x : Option α} {v : α} (h : Ok (fun r => r = v) x) : x = some v := by
 obtain ⟨r, h1, rfl⟩ := h; exact h1
theorem ok_eq {x : Option α} {v : α} (h : x = some v) : Ok (fun r => r = v) x := ⟨v, h, rfl⟩
end
end Go.Ab
set_option linter.unusedSimpArgs false
set_option linter.unusedVariables false
namespace Go.Ab
open Go Go.RowKit Go.Fwd Go.Proofs
def ze7 (p : Tr) : List Tr → List Tr
 | [] => []
 | y :: l => if zfc y p then ze7 y l else y :: ze7 y l
def ze0 : List Tr → List Tr
 | [] => []
 | x :: l => x :: ze7 x l
theorem zos (l : List Tr) (k : Nat) (h : k < l.length) (p : Tr) : ze7 p (l.drop k) = if zfc (l.getD k noneT) p then ze7 (l.getD k noneT) (l.drop (k + 1)) else l.getD k noneT :: ze7 (l.getD k noneT) (l.drop (k + 1)) := by
 rw [List.drop_eq_getElem_cons h, ze7, List.getD_eq_getElem?_getD, List.getElem?_eq_getElem h]; rfl
theorem zpl (l : List Tr) (k : Nat) : ix l (k : Int) = l.getD k noneT := rfl
theorem zi8 {l : List Tr} {k : Nat} (h : k < l.length) : l.getD k noneT ∈ l := by
 rw [List.getD_eq_getElem?_getD, List.getElem?_eq_getElem h]; exact List.getElem_mem h
theorem zjq {l : List Tr} {k : Nat} (h : k < l.length) : l.take (k + 1) = l.take k ++ [l.getD k noneT] := by
 rw [List.take_succ_eq_append_getElem h, List.getD_eq_getElem?_getD, List.getElem?_eq_getElem h]; rfl
theorem comp_eq {fuel : Nat} (l : List Tr) (hf : l.length < fuel) (hl : l.length < 2 ^ 60) (hp : ∀ y ∈ l, (pre y).length < 2 ^ 61) : zye fuel l = some (ze0 l) := by
 refine Ok.eq ?_
 unfold zye
 refine zlg (fun h => zef ?_) fun h => ?_
 ·match l, h with
  | [], _ => rfl
  | [x], _ => rfl
  | x :: y :: l, h => simp at h; omega
 have h2 : 2 ≤ l.length := by simp at h; omega
 refine zqi (fun _ => ze0 l = l) ?_ fun _ h => zef h.symm
 refine zoi (T := fun s : Int => ∃ k : Nat, s = k ∧ 1 ≤ k ∧ k ≤ l.length ∧ ze0 l = l.take k ++ ze7 (l.getD (k - 1) noneT) (l.drop k)) (m := fun s : Int => l.length - s.toNat) ?_ fuel 1 (by simp; omega) ⟨1, rfl, by omega, by omega, ?_⟩
 ·rintro s1 ⟨k, rfl, k1, k2, k3⟩
  refine zlg (fun hk => ?_) fun hk => zef ?_
  ·have hk : k < l.length := by simpa using hk
   refine zqi (fun _ => ze0 l = l.take (k + 1) ++ ze7 (l.getD k noneT) (l.drop (k + 1))) ?_ fun _ h => zb8 (by omega) (zef ⟨⟨k + 1, by omega, by omega, by omega, h⟩, by omega⟩)
   refine zb8 (by omega) (zb8 (by omega) (zfe fun x1 e1 => zb8 (by omega) (zb8 (by omega) (zb8 (by omega) (zfe fun x2 e2 => ?_)))))
   rw [zpl] at e1
   rw [show (k : Int) - 1 = ((k - 1 : Nat) : Int) by omega, zpl] at e2
   subst e1 e2
   refine zb8 ⟨hp _ (zi8 hk), hp _ (zi8 (by omega))⟩ (zfe fun x3 e3 => ?_)
   rw [zos l k hk] at k3
   refine zlg (fun hx => ?_) fun hx => zef ?_
   ·rw [e3, hx, if_pos rfl] at k3
    refine zb8 (by omega) ?_
    refine zqi (fun t : Int × List Tr => ∃ w : Nat, t.1 = w ∧ k ≤ w ∧ w < l.length ∧ t.2.length = l.length ∧ ze0 l = t.2.take w) ?_ ?_
    ·refine zoi (T := fun s : Int × Int × List Tr => ∃ (w j : Nat) (e : List Tr), s = ((w : Int), (j : Int), e) ∧ 1 ≤ j ∧ j ≤ l.length - k ∧ k ≤ w ∧ w ≤ k + j - 1 ∧ e.length = l.length ∧ (∀ i, k + j - 1 ≤ i → e[i]? = l[i]?) ∧ ze0 l = e.take w ++ ze7 (l.getD (k + j - 1) noneT) (l.drop (k + j)))
      (m := fun s => l.length - s.2.1.toNat) ?_ fuel _ (by simp only; omega) ⟨k, 1, l, rfl, by omega, by omega, by omega, by omega, rfl, fun _ _ => rfl, by simpa using k3⟩
     rintro s2 ⟨w, j, e, rfl, j1, j2, w1, w2, he, hsame, hc⟩
     simp only [Int.toNat_natCast]
     refine zlg (fun hj => ?_) fun hj => zef ?_
     ·have hj : j < l.length - k := by have := of_decide_eq_true hj; omega
      have q1 : e.getD (k + j) noneT = l.getD (k + j) noneT := by rw [List.getD_eq_getElem?_getD, List.getD_eq_getElem?_getD, hsame _ (by omega)]
      have q2 : e.getD (k + (j - 1)) noneT = l.getD (k + (j - 1)) noneT := by rw [List.getD_eq_getElem?_getD, List.getD_eq_getElem?_getD, hsame _ (by omega)]
      have hcs := hc
      rw [zos l (k + j) (by omega)] at hcs
      refine zqi (fun t : Int × List Tr => ∃ (w' : Nat) (e' : List Tr), t = ((w' : Int), e') ∧ k ≤ w' ∧ w' ≤ k + j ∧ e'.length = l.length ∧ (∀ i, k + j ≤ i → e'[i]? = l[i]?) ∧ ze0 l = e'.take w' ++ ze7 (l.getD (k + j) noneT) (l.drop (k + j + 1))) ?_ ?_
      ·refine zb8 (by omega) (zb8 (by omega) (zfe fun x4 e4 => zb8 (by omega) (zb8 (by omega) (zb8 (by omega) (zfe fun x5 e5 => ?_)))))
       rw [show ((k : Int) + (j : Int)) = ((k + j : Nat) : Int) by omega, zpl, q1] at e4
       rw [show ((k : Int) + ((j : Int) - 1)) = ((k + (j - 1) : Nat) : Int) by omega, zpl, q2, show k + (j - 1) = k + j - 1 by omega] at e5
       subst e4 e5
       refine zb8 ⟨hp _ (zi8 (by omega)), hp _ (zi8 (by omega))⟩ (zfe fun x6 e6 => ?_)
       rw [e6] at hcs
       refine zlg (fun hx6 => ?_) fun hx6 => zef ⟨w, e, rfl, w1, by omega, he, fun i hi => hsame i (by omega), ?_⟩
       ·have hx6 : x6 = false := by simpa using hx6
        rw [hx6, if_neg (by decide)] at hcs
        refine zb8 (by omega) (zb8 (by omega) (zfe fun x7 e7 => zb8 (by omega) (zb8 (by omega) (zfe fun x8 e8 => zb8 (by omega) (zef ?_)))))
        rw [show ((k : Int) + (j : Int)) = ((k + j : Nat) : Int) by omega, zpl, q1] at e7
        subst e7
        refine ⟨w + 1, e.set w (l.getD (k + j) noneT), by simp, by omega, by omega, by rw [List.length_set]; exact he, fun i hi => ?_, ?_⟩
        ·rw [List.getElem?_set_ne (by omega)]; exact hsame i (by omega)
        ·have hwl : w < (e.set w (l.getD (k + j) noneT)).length := by rw [List.length_set]; omega
         have hg : (e.set w (l.getD (k + j) noneT)).getD w noneT = l.getD (k + j) noneT := by
          rw [List.getD_eq_getElem?_getD, List.getElem?_set_self (by omega)]; rfl
         rw [zjq hwl, hg, List.take_set_of_le (Nat.le_refl _), hcs, List.append_assoc]; rfl
       ·have hx6 : x6 = true := by simpa using hx6
        rw [hx6, if_pos rfl] at hcs
        exact hcs
      ·rintro t ⟨w', e', rfl, a1, a2, a3, a4, a5⟩
       exact zb8 (by omega) (zef ⟨⟨w', j + 1, e', by simp, by omega, by omega, a1, by omega, a3, fun i hi => a4 i (by omega), by rw [show k + (j + 1) - 1 = k + j by omega, show k + (j + 1) = k + j + 1 by omega]; exact a5⟩, by simp only; omega⟩)
     ·have hj : j = l.length - k := by have := of_decide_eq_false hj; omega
      refine ⟨w, rfl, w1, by omega, he, ?_⟩
      rw [show k + j = l.length by omega, List.drop_length] at hc
      simpa [ze7] using hc
    ·rintro ⟨t1, e⟩ ⟨w, hw, a1, a2, a3, a4⟩
     simp only at hw a3 a4
     subst hw
     simp only [Int.toNat_natCast]
     exact zb8 (by omega) (zb8 (by omega) (zb8 ⟨by omega, by rw [List.length_take]; omega⟩ (zef a4.symm)))
   ·rw [e3, hx, if_neg (by decide)] at k3
    rw [k3, zjq hk, List.append_assoc]; rfl
  ·have hk : k = l.length := by have := of_decide_eq_false hk; omega
   show ze0 l = l
   rw [k3, hk, List.take_length, List.drop_length]; simp [ze7]
 ·match l, h2 with
  | x :: l, _ => rfl
theorem z5u {l : List Tr} (h : 0 < l.length) : 0 < (ze0 l).length := by
 cases l with
 | nil => cases h
 | cons x l => simp [ze0]
theorem z2g (l : List Tr) {n : Nat} (hn : l.length = n) (g : (0 < l.length ∧ l.length < 2 ^ 60) ∧ ∀ y ∈ l, (pre y).length < 2 ^ 61) {x : List Tr} (hx : ze0 l = x) {σ : St} {s : Nat} {fl : Bool} (hb : σ.boxes[s]? = some (30, Enc.cellsL l)) :
 Snd (ITP Try.prog) Try.prog 63 [.bsl s 0 n 8 fl, .clos 11 []] σ (.bsl s 0 x.length 8 false) { σ with boxes := σ.boxes.set s (30, Enc.cellsL x) } := by
 subst hn hx
 exact snd_box (zas _) (comp_s0 (l.length + 1) l _ (comp_eq l (by omega) g.1.2 g.2)) (ar := [.clos 11 []]) rfl rfl (Enc.cloL _) (Enc.cloL _) (z2p (List.length_pos_iff.1 g.1.1)) hb
end Go.Ab
namespace Go.Proofs
open Go.Shelf
def Try.sortL_ren : Go.Shelf.Ren := ⟨fun | 6 => 61 | 15 => 71 | 14 => 70 | 28 => 81 | 29 => 82 | 20 => 73 | 21 => 74 | 22 => 75 | 23 => 76 | 24 => 77 | 25 => 78 | 26 => 79 | 27 => 80 | 46 => 89 | 47 => 90 | 48 => 91 | 49 => 92 | 50 => 93 | 57 => 99 | n => n, fun | 22 => 24 | 24 => 30 | 25 => 77 | 3 => 3 | 39 => 84 | 0 => 0 | 53 => 94 | 55 => 26 | 4 => 4 | 46 => 87 | 45 => 86 | 50 => 91 | 5 => 5 | 9 => 9 | 66 => 102 | 70 => 106 | 76 => 114 | 77 => 115 | n => n, fun | n => n⟩
theorem Try.sortL : Go.Proofs.SlLaysF0.n6 Try.prog Try.sortL_ren := {
 mixed := by kernel_rfl
 f6 := ⟨Try.f61.name, by decide, Try.func61.trans (congrArg some (by kernel_rfl))⟩
 f14 := ⟨Try.f70.name, by decide, Try.func70.trans (congrArg some (by kernel_rfl))⟩
 f15 := Try.func71.trans (congrArg some (by kernel_rfl))
 f20 := ⟨Try.f73.name, by decide, Try.func73.trans (congrArg some (by kernel_rfl))⟩
 f21 := ⟨Try.f74.name, by decide, Try.func74.trans (congrArg some (by kernel_rfl))⟩
 f22 := ⟨Try.f75.name, by decide, Try.func75.trans (congrArg some (by kernel_rfl))⟩
 f23 := ⟨Try.f76.name, by decide, Try.func76.trans (congrArg some (by kernel_rfl))⟩
 f24 := ⟨Try.f77.name, by decide, Try.func77.trans (congrArg some (by kernel_rfl))⟩
 f25 := ⟨Try.f78.name, by decide, Try.func78.trans (congrArg some (by kernel_rfl))⟩
 f26 := ⟨Try.f79.name, by decide, Try.func79.trans (congrArg some (by kernel_rfl))⟩
 f27 := ⟨Try.f80.name, by decide, Try.func80.trans (congrArg some (by kernel_rfl))⟩
 f28 := Try.func81.trans (congrArg some (by kernel_rfl))
 f29 := Try.func82.trans (congrArg some (by kernel_rfl))
 f46 := ⟨Try.f89.name, by decide, Try.func89.trans (congrArg some (by kernel_rfl))⟩
 f47 := Try.func90.trans (congrArg some (by kernel_rfl))
 f48 := Try.func91.trans (congrArg some (by kernel_rfl))
 f49 := ⟨Try.f92.name, by decide, Try.func92.trans (congrArg some (by kernel_rfl))⟩
 f50 := ⟨Try.f93.name, by decide, Try.func93.trans (congrArg some (by kernel_rfl))⟩
 f57 := ⟨Try.f99.name, by decide, Try.func99.trans (congrArg some (by kernel_rfl))⟩
 t0 := Try.underlying0
 a0 := Try.isAgg0
 z0 := Try.sizeOf0
 v0 := Try.zeroValue0
 t3 := Try.underlying3
 a3 := Try.isAgg3
 z3 := Try.sizeOf3
 v3 := Try.zeroValue3
 t4 := Try.underlying4
 a4 := Try.isAgg4
 z4 := Try.sizeOf4
 v4 := Try.zeroValue4
 t5 := Try.underlying5
 a5 := Try.isAgg5
 z5 := Try.sizeOf5
 v5 := Try.zeroValue5
 t9 := Try.underlying9
 a9 := Try.isAgg9
 z9 := Try.sizeOf9
 v9 := Try.zeroValue9
 t22 := Try.underlying24
 a22 := Try.isAgg24
 z22 := Try.sizeOf24
 v22 := Try.zeroValue24
 t25 := Try.underlying77
 a25 := Try.isAgg77
 z25 := Try.sizeOf77
 v25 := Try.zeroValue77
 t39 := Try.underlying84
 a39 := Try.isAgg84
 z39 := Try.sizeOf84
 v39 := Try.zeroValue84
 t45 := Try.underlying86
 a45 := Try.isAgg86
 z45 := Try.sizeOf86
 v45 := Try.zeroValue86
 t46 := Try.underlying87
 a46 := Try.isAgg87
 z46 := Try.sizeOf87
 v46 := Try.zeroValue87
 t50 := Try.underlying91
 a50 := Try.isAgg91
 z50 := Try.sizeOf91
 v50 := Try.zeroValue91
 t53 := Try.underlying94
 a53 := Try.isAgg94
 z53 := Try.sizeOf94
 v53 := Try.zeroValue94
 t55 := Try.underlying26
 a55 := Try.isAgg26
 z55 := Try.sizeOf26
 v55 := Try.zeroValue26
 t66 := Try.underlying102
 a66 := Try.isAgg102
 z66 := Try.sizeOf102
 v66 := Try.zeroValue102
 t70 := Try.underlying106
 a70 := Try.isAgg106
 z70 := Try.sizeOf106
 v70 := Try.zeroValue106
 t76 := Try.underlying114
 a76 := Try.isAgg114
 z76 := Try.sizeOf114
 v76 := Try.zeroValue114
 t77 := Try.underlying115
 a77 := Try.isAgg115
 z77 := Try.sizeOf115
 v77 := Try.zeroValue115 }
end Go.Proofs
set_option linter.unusedSimpArgs false
set_option linter.unusedVariables false
namespace Go.Ab
open Go Go.RowKit Go.Fwd Go.Proofs Go.Sort
def leT (x y : Tr) : Bool := decide (zf1 x y ≤ 0)
theorem z2u (a b c : Tr) (h : leT a b = true) (k : leT b c = true) : leT a c = true := by
 simp only [leT, decide_eq_true_eq] at *
 exact ze4 a b c h k
theorem z4k (a b : Tr) : leT a b = true ∨ leT b a = true := by
 have := zel a b
 simp only [leT, decide_eq_true_eq]; omega
def insT (x : Tr) : List Tr → List Tr
 | [] => [x]
 | y :: l => if leT x y = true then x :: y :: l else y :: insT x l
def zfu (l : List Tr) : List Tr := l.foldr insT []
theorem zot (x : Tr) : ∀ l : List Tr, (insT x l).Perm (x :: l)
 | [] => List.Perm.refl _
 | y :: l => by
  unfold insT
  split
  ·exact List.Perm.refl _
  ·exact ((zot x l).cons y).trans (List.Perm.swap x y l)
theorem zde : ∀ l : List Tr, (zfu l).Perm l
 | [] => List.Perm.refl _
 | x :: l => (zot x (zfu l)).trans ((zde l).cons x)
theorem zoe (x : Tr) : ∀ l : List Tr, l.Pairwise (fun a b => leT a b = true) → (insT x l).Pairwise fun a b => leT a b = true
 | [], _ => by simp [insT]
 | y :: l, h => by
  obtain ⟨h1, h2⟩ := List.pairwise_cons.1 h
  unfold insT
  split
  ·rename_i hxy
   refine List.pairwise_cons.2 ⟨fun z hz => ?_, h⟩
   rcases List.mem_cons.1 hz with rfl | hz
   ·exact hxy
   ·exact z2u _ _ _ hxy (h1 z hz)
  ·rename_i hxy
   refine List.pairwise_cons.2 ⟨fun z hz => ?_, zoe x l h2⟩
   rcases List.mem_cons.1 ((zot x l).subset hz) with rfl | hz
   ·exact (z4k z y).resolve_left hxy
   ·exact h1 z hz
theorem zy7 : ∀ l : List Tr, (zfu l).Pairwise fun a b => leT a b = true
 | [] => List.Pairwise.nil
 | x :: l => zoe x _ (zy7 l)
theorem zmv (l : List Tr) : (zfu l).Pairwise fun x y => zf1 x y ≤ 0 := (zy7 l).imp fun h => by simpa [leT] using h
theorem zjw {t : Tr} (h : zbj t = true) : CR t := by rw [zbj, Bool.and_eq_true] at h; exact h.2
theorem zc4 {a b : Tr} (ha : zbj a = true) (hb : zbj b = true) : zjj a b = zf1 a b := by
 have l1 : zcl a = true := zhw.2 (zej ha)
 have l2 : zcl b = true := zhw.2 (zej hb)
 rw [zjj, l1, l2]; rfl
set_option maxRecDepth 100000 in
theorem z3g (l : List Tr) (g : (0 < l.length ∧ l.length < 4611686018427387904) ∧ ∀ y ∈ l, zbj y = true) {x : List Tr} (hx : zfu l = x) {σ : St} {s n : Nat} {fl : Bool} (hb : σ.boxes[s]? = some (30, Enc.cellsL l)) (hn : l.length = n) :
 Snd (ITP Try.prog) Try.prog 61 [.bsl s 0 n 8 fl, .clos 62 []] σ (.tup []) { σ with boxes := σ.boxes.set s (30, Enc.cellsL x) } := by
 subst hx hn
 refine z6g (α := Tr) (g := 62) (zas _) (enters_of Try.func61 (by kernel_rfl) rfl) (enters_of Try.func62 (by kernel_rfl) rfl) ?_ zjj (fun y => zbj y = true) ?_ ?_ ?_ ?_ ?_ l (zfu l) g.2 g.1 (zde l) ?_ hb
 ·intro β _ enc hk h1 cf hO blk off cap d w hcmp hH hblk hsz
  exact AnyQ.slices_SortFunc Try.sortL 8 Try.isAgg30 Try.sizeOf30 enc hk h1 cf hO 62 #[] blk off cap d w (enters_of Try.func62 (by kernel_rfl) rfl) hcmp hH hblk hsz
 ·intro a b ha hb
  have h1 := zej ha; have h2 := zej hb
  exact z2l a b ⟨by omega, by omega⟩
 ·intro a ha
  rw [zc4 ha ha, zsn]; decide
 ·intro a b c ha hb hc h1 h2
  rw [zc4 ha hb] at h1
  rw [zc4 hb hc] at h2
  rw [zc4 ha hc]
  have q1 := ze4 c b a; have q2 := zel a b; have q3 := zel b c; have q4 := zel a c
  have q5 := ze4 b a c
  have q6 := ze4 b c a
  have q7 := ze4 a b c
  have q8 := ze4 a c b
  have q9 := ze4 c a b
  omega
 ·intro a b c ha hb hc h1 h2
  rw [zc4 ha hb] at h1
  rw [zc4 hb hc] at h2
  rw [zc4 ha hc]
  have q1 := ze4 c b a; have q2 := zel a b; have q3 := zel b c; have q4 := zel a c
  omega
 ·intro a b ha hb h1 h2
  rw [zc4 ha hb] at h1
  rw [zc4 hb ha] at h2
  have q := zel a b
  exact zv2 a b (zjw ha) (zjw hb) (by omega)
 ·refine (zmv l).imp_of_mem fun {a b} ha hb h => ?_
  have ca := g.2 a ((zde l).mem_iff.1 ha); have cb := g.2 b ((zde l).mem_iff.1 hb)
  rw [zc4 cb ca]
  have q := zel a b
  omega
theorem z1b : Pure (ITP Try.prog) Try.prog 61 [.list 0 [] .none, .clos 62 []] (.tup []) := zd7 z4d 300 (by kernel_rfl)
theorem z37 : Pure (ITP Try.prog) Try.prog 63 [.list 0 [] .none, .clos 11 []] (.list 0 [] .none) := zd7 z4d 300 (by kernel_rfl)
end Go.Ab
