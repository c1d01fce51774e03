/-
  Values without boxes and own rows; contracts in abstract words.
-/
import Derived.Test.YtmoncghgagmilaaZdG
import Derived.Test.YtmoncghgagmilaaZdRegIn
set_option linter.unusedSimpArgs false
set_option linter.unusedVariables false
namespace Go.Ab
open Go Go.RowKit Go.Fwd
mutual
def za8 (n : Nat) : AV → Bool
 | .agg cs => z7 n cs
 | .tup cs => z7 n cs
 | .list _ cs _ => z7 n cs
 | .ptr s _ => decide (s < n)
 | .bsl s _ _ _ _ => decide (s < n)
 | .iptr cs => z7 n cs
 | .clos _ cs => z7 n cs
 | .iter _ => true
 | .yld _ => true
 | .raw _ => true
 | .top => true
 | .bad => true
def z7 (n : Nat) : List AV → Bool
 | [] => true
 | a :: l => za8 n a && z7 n l
end
mutual
def zcm : AV → AV
 | .agg cs => .agg (stripL cs)
 | .tup cs => .tup (stripL cs)
 | .list n cs _ => .list n (stripL cs) .none
 | .ptr s o => .ptr s o
 | .bsl s o n sz f => .bsl s o n sz f
 | .iptr cs => .iptr (stripL cs)
 | .clos f cs => .clos f (stripL cs)
 | .iter xs => .iter xs
 | .yld l => .yld l
 | .raw v => .raw v
 | .top => .top
 | .bad => .bad
def stripL : List AV → List AV
 | [] => []
 | a :: l => zcm a :: stripL l
end
theorem zjk : ∀ l, stripL l = l.map zcm
 | [] => by simp [stripL]
 | a :: l => by rw [stripL, zjk l, List.map_cons]
theorem zgt (n : Nat) : ∀ l, z7 n l = l.all (za8 n)
 | [] => by simp [z7]
 | a :: l => by rw [z7, zgt n l, List.all_cons]
mutual
theorem znz {IT : IterP} (hIT : ITMono IT) {X Y : Cx} {n : Nat} (hF : Y.F = X.F) (hw : Y.w = X.w) (hβ : Y.β = X.β) (hl : Y.lens = X.lens) (hκ : Y.κ = X.κ.take n) : ∀ (a : AV) (v : Value), za8 n a = true → Rep IT X a v → Rep IT Y a v
 | .raw u, v, _, hr => hr
 | .agg cs, v, ho, ⟨vs, e, hr, h1⟩ => ⟨vs, e, zi8 hIT hF hw hβ hl hκ cs vs (by simpa [za8] using ho) hr, h1⟩
 | .tup cs, v, ho, ⟨vs, e, hr⟩ => ⟨vs, e, zi8 hIT hF hw hβ hl hκ cs vs (by simpa [za8] using ho) hr⟩
 | .list m cs st, v, ho, ⟨a, cap, e, hcap, hc, hs⟩ => ⟨a, cap, e, hcap, hc.imp id fun ⟨b, o, e1, e2⟩ => ⟨b, o, e1, zwe hIT hF hw hβ hl hκ cs b o (by simpa [za8] using ho) e2⟩, by cases st <;> simp only [hl, hβ] <;> exact hs⟩
 | .ptr s off, v, ho, ⟨b, e1, e2⟩ => ⟨b, by rw [hκ, List.getElem?_take, if_pos (by simpa [za8] using ho)]; exact e1, e2⟩
 | .bsl s off m sz f, v, ho, hr => Bsl.mono (fun b e1 => by rw [hκ, List.getElem?_take, if_pos (by simpa [za8] using ho)]; exact e1) hw hr
 | .iptr cs, v, ho, ⟨b, o, e, hc⟩ => ⟨b, o, e, zwe hIT hF hw hβ hl hκ cs b o (by simpa [za8] using ho) hc⟩
 | .clos f caps, v, ho, ⟨vs, e, hr⟩ => ⟨vs, e, zi8 hIT hF hw hβ hl hκ caps vs (by simpa [za8] using ho) hr⟩
 | .iter xs, v, ho, h2 => hIT.it _ _ _ _ (fun b o h => by rw [hF]; exact h) (fun b o h => by rw [hw]) (Szs.eq hw) h2
 | .yld _, _, _, hr => hr
 | .top, _, _, hr => hr
 | .bad, _, _, hr => hr
theorem zi8 {IT : IterP} (hIT : ITMono IT) {X Y : Cx} {n : Nat} (hF : Y.F = X.F) (hw : Y.w = X.w) (hβ : Y.β = X.β) (hl : Y.lens = X.lens) (hκ : Y.κ = X.κ.take n) : ∀ (l : List AV) (vs : List Value), z7 n l = true → zbf IT X l vs → zbf IT Y l vs
 | [], _, _, hr => hr
 | a :: l, vs, ho, ⟨v, r, e, h1, h2⟩ => by
  rw [z7, Bool.and_eq_true] at ho
  exact ⟨v, r, e, znz hIT hF hw hβ hl hκ a v ho.1 h1, zi8 hIT hF hw hβ hl hκ l r ho.2 h2⟩
theorem zwe {IT : IterP} (hIT : ITMono IT) {X Y : Cx} {n : Nat} (hF : Y.F = X.F) (hw : Y.w = X.w) (hβ : Y.β = X.β) (hl : Y.lens = X.lens) (hκ : Y.κ = X.κ.take n) : ∀ (cs : List AV) (b o : Nat), z7 n cs = true → At IT X cs b o → At IT Y cs b o
 | [], _, _, _, _ => trivial
 | c :: cs, b, o, ho, ⟨⟨hf, v, hv, h1, hr⟩, ht⟩ => by
  rw [z7, Bool.and_eq_true] at ho
  exact ⟨⟨by rw [hF]; exact hf, v, by rw [hw]; exact hv, h1, znz hIT hF hw hβ hl hκ c v ho.1 hr⟩, zwe hIT hF hw hβ hl hκ cs b (o + 1) ho.2 ht⟩
end
mutual
theorem zfx {IT : IterP} (hIT : ITMono IT) {X Y : Cx} (hF : Y.F = X.F) (hw : Y.w = X.w) : ∀ (a : AV) (v : Value), (za8 0 a = true ∨ Y.κ = X.κ) → Rep IT X a v → Rep IT Y (zcm a) v
 | .raw u, v, _, hr => hr
 | .agg cs, v, ho, ⟨vs, e, hr, h1⟩ => ⟨vs, e, zc0 hIT hF hw cs vs (by simpa [za8] using ho) hr, h1⟩
 | .tup cs, v, ho, ⟨vs, e, hr⟩ => ⟨vs, e, zc0 hIT hF hw cs vs (by simpa [za8] using ho) hr⟩
 | .list m cs st, v, ho, ⟨a, cap, e, hcap, hc, hs⟩ => ⟨a, cap, e, hcap, by
  rcases hc with rfl | ⟨b, o, e1, e2⟩
  ·exact .inl (by simp [stripL])
  ·exact .inr ⟨b, o, e1, zsw hIT hF hw cs b o (by simpa [za8] using ho) e2⟩, trivial⟩
 | .ptr s off, v, ho, ⟨b, e1, e2⟩ => by
  rcases ho with ho | ho
  ·simp [za8] at ho
  ·exact ⟨b, by rw [ho]; exact e1, e2⟩
 | .bsl s off m sz f, v, ho, hr => by
  rcases ho with ho | ho
  ·simp [za8] at ho
  ·exact Bsl.mono (fun b e1 => by rw [ho]; exact e1) hw hr
 | .iptr cs, v, ho, ⟨b, o, e, hc⟩ => ⟨b, o, e, zsw hIT hF hw cs b o (by simpa [za8] using ho) hc⟩
 | .clos f caps, v, ho, ⟨vs, e, hr⟩ => ⟨vs, e, zc0 hIT hF hw caps vs (by simpa [za8] using ho) hr⟩
 | .iter xs, v, ho, h2 => hIT.it _ _ _ _ (fun b o h => by rw [hF]; exact h) (fun b o h => by rw [hw]) (Szs.eq hw) h2
 | .yld _, _, _, hr => hr
 | .top, _, _, hr => hr
 | .bad, _, _, hr => hr
theorem zc0 {IT : IterP} (hIT : ITMono IT) {X Y : Cx} (hF : Y.F = X.F) (hw : Y.w = X.w) : ∀ (l : List AV) (vs : List Value), (z7 0 l = true ∨ Y.κ = X.κ) → zbf IT X l vs → zbf IT Y (stripL l) vs
 | [], _, _, hr => hr
 | a :: l, vs, ho, ⟨v, r, e, h1, h2⟩ => by
  rw [z7, Bool.and_eq_true] at ho
  exact ⟨v, r, e, zfx hIT hF hw a v (ho.imp And.left id) h1, zc0 hIT hF hw l r (ho.imp And.right id) h2⟩
theorem zsw {IT : IterP} (hIT : ITMono IT) {X Y : Cx} (hF : Y.F = X.F) (hw : Y.w = X.w) : ∀ (cs : List AV) (b o : Nat), (z7 0 cs = true ∨ Y.κ = X.κ) → At IT X cs b o → At IT Y (stripL cs) b o
 | [], _, _, _, _ => trivial
 | c :: cs, b, o, ho, ⟨⟨hf, v, hv, h1, hr⟩, ht⟩ => by
  rw [z7, Bool.and_eq_true] at ho
  exact ⟨⟨by rw [hF]; exact hf, v, by rw [hw]; exact hv, h1, zfx hIT hF hw c v (ho.imp And.left id) hr⟩, zsw hIT hF hw cs b (o + 1) (ho.imp And.right id) ht⟩
end
mutual
theorem zss {IT : IterP} (hIT : ITMono IT) {X Y : Cx} (hF : Y.F = X.F) (hw : Y.w = X.w) (h0 : X.κ = []) (hl : X.lens = []) : ∀ (a : AV) (v : Value), Rep IT X a v → Rep IT Y a v
 | .raw u, v, hr => hr
 | .agg cs, v, ⟨vs, e, hr, h1⟩ => ⟨vs, e, zkx hIT hF hw h0 hl cs vs hr, h1⟩
 | .tup cs, v, ⟨vs, e, hr⟩ => ⟨vs, e, zkx hIT hF hw h0 hl cs vs hr⟩
 | .list m cs st, v, ⟨a, cap, e, hcap, hc, hs⟩ => ⟨a, cap, e, hcap, hc.imp id fun ⟨b, o, e1, e2⟩ => ⟨b, o, e1, zxf hIT hF hw h0 hl cs b o e2⟩, by
  cases st with
  | none => trivial
  | full => exact hs
  | own s => obtain ⟨L, k1, _⟩ := hs; rw [hl] at k1; simp at k1⟩
 | .ptr s off, v, ⟨b, e1, e2⟩ => by rw [h0] at e1; simp at e1
 | .bsl s off m sz f, v, ⟨b, _, _, _, e1, _⟩ => by rw [h0] at e1; simp at e1
 | .iptr cs, v, ⟨b, o, e, hc⟩ => ⟨b, o, e, zxf hIT hF hw h0 hl cs b o hc⟩
 | .clos f caps, v, ⟨vs, e, hr⟩ => ⟨vs, e, zkx hIT hF hw h0 hl caps vs hr⟩
 | .iter xs, v, h2 => hIT.it _ _ _ _ (fun b o h => by rw [hF]; exact h) (fun b o h => by rw [hw]) (Szs.eq hw) h2
 | .yld _, _, hr => hr
 | .top, _, hr => hr
 | .bad, _, hr => hr
theorem zkx {IT : IterP} (hIT : ITMono IT) {X Y : Cx} (hF : Y.F = X.F) (hw : Y.w = X.w) (h0 : X.κ = []) (hl : X.lens = []) : ∀ (l : List AV) (vs : List Value), zbf IT X l vs → zbf IT Y l vs
 | [], _, hr => hr
 | a :: l, vs, ⟨v, r, e, h1, h2⟩ => ⟨v, r, e, zss hIT hF hw h0 hl a v h1, zkx hIT hF hw h0 hl l r h2⟩
theorem zxf {IT : IterP} (hIT : ITMono IT) {X Y : Cx} (hF : Y.F = X.F) (hw : Y.w = X.w) (h0 : X.κ = []) (hl : X.lens = []) : ∀ (cs : List AV) (b o : Nat), At IT X cs b o → At IT Y cs b o
 | [], _, _, _ => trivial
 | c :: cs, b, o, ⟨⟨hf, v, hv, h1, hr⟩, ht⟩ => ⟨⟨by rw [hF]; exact hf, v, by rw [hw]; exact hv, h1, zss hIT hF hw h0 hl c v hr⟩, zxf hIT hF hw h0 hl cs b (o + 1) ht⟩
end
def St.empty : St := ⟨[], [], [], 0, false⟩
def Ent (P : Program) (f : FuncId) : Prop := ∀ args w, (callFunc f args).run P w = .ok (.enter f args) w
def Snd (IT : IterP) (P : Program) (f : FuncId) (args : List AV) (σ : St) (r : AV) (σ' : St) : Prop :=
 Ent P f ∧ ∀ (X : Cx) (vs : List Value), Inv IT σ X → zbf IT X args vs → Calls P f vs.toArray X.w fun e w' => ∃ v X', e = .returned v ∧ X'.w = w' ∧ Ext X X' ∧ Inv IT σ' X' ∧ Rep IT X' r v
def Pure (IT : IterP) (P : Program) (f : FuncId) (args : List AV) (r : AV) : Prop := Snd IT P f args St.empty r St.empty
theorem ziz {IT : IterP} {σ : St} {X : Cx} (hI : Inv IT σ X) : Inv IT St.empty ⟨X.F, [], [], [], X.w, fun _ => False, fun _ _ => False⟩ where
 lens := rfl
 elems := rfl
 κlen := rfl
 κnd := fun s s' b h => by simp at h
 box := fun s b t cs h => by simp at h
 κF := fun s b t cs h => by simp at h
 βlen := rfl
 βnd := List.nodup_nil
 βκ := fun r h => by simp at h
 row := fun s r L h => by simp at h
 Ok := fun b h => h.elim
 Fcell := hI.Fcell
 gv := hI.gv
theorem zi6 {IT : IterP} (hIT : ITMono IT) {P : Program} {f : FuncId} {args args' : List AV} {r : AV} (h : Pure IT P f args' r) (hargs : stripL args = args') (hok : z7 0 args = true) {σ : St} {X : Cx} (hI : Inv IT σ X) {vs : List Value} (hr : zbf IT X args vs) :
 Calls P f vs.toArray X.w fun e w' => ∃ v X', e = .returned v ∧ X'.w = w' ∧ Ext X X' ∧ Inv IT σ X' ∧ Rep IT X' r v ∧ Grows X.w X'.w ∧ X'.κ = X.κ ∧ X'.β = X.β ∧ X'.lens = X.lens ∧ (X'.O = X.O ∧ X'.C = X.C) ∧ ∀ b i, X'.F b i → X.F b i ∨ X.w.heap.size ≤ b := by
 subst hargs
 have h0 : zbf IT ⟨X.F, [], [], [], X.w, fun _ => False, fun _ _ => False⟩ (stripL args) vs := zc0 (X := X) (Y := ⟨X.F, [], [], [], X.w, fun _ => False, fun _ _ => False⟩) hIT rfl rfl args vs (.inl hok) hr
 refine (h.2 ⟨X.F, [], [], [], X.w, fun _ => False, fun _ _ => False⟩ vs (ziz hI) h0).mono ?_
 rintro e w' ⟨v, Y, rfl, rfl, hE, hIY, hv⟩
 have hκ : Y.κ = [] := by have := hIY.κlen; simpa [St.empty] using this
 have hl : Y.lens = [] := hIY.lens
 have hblk : ∀ b, b < X.w.heap.size → Y.w.heap[b]? = X.w.heap[b]? := fun b hb => hE.frame b hb (by simp) (by simp)
 have hg : Grows X.w Y.w := ⟨⟨hE.os, hE.tape, hE.output, hE.size, hblk⟩, hE.drawn⟩
 have hFn : ∀ b i, Y.F b i → X.F b i ∨ X.w.heap.size ≤ b := fun b i hf => by
  rcases hE.Fnew b i hf with h | h | ⟨q, hq, _⟩ | h
  ·exact .inl h
  ·exact .inr h
  ·simp at hq
  ·simp at h
 have hX : Ext X ⟨Y.F, X.κ, X.β, X.lens, Y.w, X.O, X.C⟩ := {
  os := hE.os, tape := hE.tape, output := hE.output, size := hE.size, drawn := hE.drawn, F := hE.F, cell := hE.cell
  κ := fun _ _ h => h
  lens := fun s L h => ⟨L, h, Nat.le_refl _, fun _ => rfl⟩
  blk := fun s b hs cur t f h => ⟨cur, (hblk b (hI.κlt (List.mem_of_getElem? hs))).trans h, rfl⟩
  szs := Szs.old hblk
  frame := fun b hb _ _ => hblk b hb
  κnew := fun _ h => .inl h
  βnew := fun r h => .inl ⟨r, h, rfl⟩
  O := rfl
  C := rfl
  Fnew := fun b i hf => (hFn b i hf).imp id .inl }
 refine ⟨v, ⟨Y.F, X.κ, X.β, X.lens, Y.w, X.O, X.C⟩, rfl, rfl, hX, ?_, zss (X := Y) (Y := ⟨Y.F, X.κ, X.β, X.lens, Y.w, X.O, X.C⟩) hIT rfl rfl hκ hl r v hv, hg, rfl, rfl, rfl, ⟨rfl, rfl⟩, hFn⟩
 refine { lens := hI.lens, elems := hI.elems, κlen := hI.κlen, κnd := hI.κnd, box := ?_, κF := ?_, βlen := hI.βlen, βnd := hI.βnd, βκ := hI.βκ, row := ?_, Ok := ?_, Fcell := hIY.Fcell }
 ·intro s b t cs hs hb
  obtain ⟨us, zs, u1, u2, u3⟩ := hI.box s b t cs hs hb
  exact ⟨us, zs, (hblk b (hI.κlt (List.mem_of_getElem? hs))).trans u1, zat hIT hX _ _ u2, u3⟩
 ·intro s b t cs hs hb hc o hf
  rcases hFn b o hf with h | h
  ·exact hI.κF s b t cs hs hb hc o h
  ·have := hI.κlt (List.mem_of_getElem? hs); omega
 ·intro s q L hq hL
  obtain ⟨cur, fz, c1, c2, c3, c4, c5, c6, c7⟩ := hI.row s q L hq hL
  have hlt := hI.βlt (List.mem_of_getElem? hq)
  refine ⟨cur, fz, (hblk _ hlt).trans c1, c2, c3, c4, c5, fun o hf => ?_, c7⟩
  rcases hFn _ o hf with h | h
  ·exact c6 o h
  ·omega
 ·intro b ho
  obtain ⟨⟨cs0, t0, f0, h0⟩, h2, h3, h4⟩ := hI.Ok b ho
  have hlt := hI.Olt ho
  exact ⟨⟨cs0, t0, f0, (hblk b hlt).trans h0⟩, h2, h3, fun o hf => (hFn b o hf).elim (h4 o) fun h => by omega⟩
abbrev FZ := (Nat → Nat → AV) × (Nat → Nat → Nat → Nat → AV)
mutual
def zdw (g : FZ) : AV → AV
 | .raw u => .raw u
 | .agg cs => .agg (zbe g cs)
 | .tup cs => .tup (zbe g cs)
 | .list n cs _ => .list n (zbe g cs) .none
 | .ptr s off => g.1 s off
 | .bsl s off n sz _ => g.2 s off n sz
 | .iptr cs => .iptr (zbe g cs)
 | .clos f caps => .clos f (zbe g caps)
 | .iter xs => .iter xs
 | .yld l => .yld l
 | .top => .top
 | .bad => .bad
def zbe (g : FZ) : List AV → List AV
 | [] => []
 | a :: l => zdw g a :: zbe g l
end
def frz (bs : List (TypeId × List AV)) : Nat → FZ
 | 0 => (fun _ _ => .top, fun _ _ _ _ => .top)
 | n + 1 => (fun s off => .iptr (zbe (frz bs n) (((bs[s]?).map fun b => b.2.drop off).getD [])),
  fun s off m sz => .list m ((zbe (frz bs n) (((bs[s]?).map fun b => b.2.drop off).getD [])).take (m * sz)) .none)
mutual
theorem zma {IT : IterP} (hIT : ITMono IT) {X Y : Cx} {g : FZ} (hF : ∀ b o, X.F b o → Y.F b o) (hw : Y.w = X.w) (hg : (∀ s off v, Rep IT X (.ptr s off) v → Rep IT Y (g.1 s off) v) ∧ ∀ s off n sz f v, Rep IT X (.bsl s off n sz f) v → Rep IT Y (g.2 s off n sz) v) : ∀ (a : AV) (v : Value), Rep IT X a v → Rep IT Y (zdw g a) v
 | .raw u, v, hr => hr
 | .agg cs, v, ⟨vs, e, hr, h1⟩ => ⟨vs, e, zes hIT hF hw hg cs vs hr, h1⟩
 | .tup cs, v, ⟨vs, e, hr⟩ => ⟨vs, e, zes hIT hF hw hg cs vs hr⟩
 | .list m cs st, v, ⟨a, cap, e, hcap, hc, hs⟩ => ⟨a, cap, e, hcap, hc.imp (fun h => by subst h; rfl) fun ⟨b, o, e1, e2⟩ => ⟨b, o, e1, zo1 hIT hF hw hg cs b o e2⟩, trivial⟩
 | .ptr s off, v, hr => hg.1 s off v hr
 | .bsl s off n sz f, v, hr => hg.2 s off n sz f v hr
 | .iptr cs, v, ⟨b, o, e, hc⟩ => ⟨b, o, e, zo1 hIT hF hw hg cs b o hc⟩
 | .clos f caps, v, ⟨vs, e, hr⟩ => ⟨vs, e, zes hIT hF hw hg caps vs hr⟩
 | .iter xs, v, h2 => hIT.it _ _ _ _ hF (fun b o h => by rw [hw]) (Szs.eq hw) h2
 | .yld _, _, hr => hr
 | .top, _, hr => hr
 | .bad, _, hr => hr
theorem zes {IT : IterP} (hIT : ITMono IT) {X Y : Cx} {g : FZ} (hF : ∀ b o, X.F b o → Y.F b o) (hw : Y.w = X.w) (hg : (∀ s off v, Rep IT X (.ptr s off) v → Rep IT Y (g.1 s off) v) ∧ ∀ s off n sz f v, Rep IT X (.bsl s off n sz f) v → Rep IT Y (g.2 s off n sz) v) : ∀ (l : List AV) (vs : List Value), zbf IT X l vs → zbf IT Y (zbe g l) vs
 | [], _, hr => hr
 | a :: l, vs, ⟨v, r, e, h1, h2⟩ => ⟨v, r, e, zma hIT hF hw hg a v h1, zes hIT hF hw hg l r h2⟩
theorem zo1 {IT : IterP} (hIT : ITMono IT) {X Y : Cx} {g : FZ} (hF : ∀ b o, X.F b o → Y.F b o) (hw : Y.w = X.w) (hg : (∀ s off v, Rep IT X (.ptr s off) v → Rep IT Y (g.1 s off) v) ∧ ∀ s off n sz f v, Rep IT X (.bsl s off n sz f) v → Rep IT Y (g.2 s off n sz) v) : ∀ (cs : List AV) (b o : Nat), At IT X cs b o → At IT Y (zbe g cs) b o
 | [], _, _, _ => trivial
 | c :: cs, b, o, ⟨⟨hf, v, hv, h1, hr⟩, ht⟩ => ⟨⟨hF b o hf, v, by rw [hw]; exact hv, h1, zma hIT hF hw hg c v hr⟩, zo1 hIT hF hw hg cs b (o + 1) ht⟩
end
def zxy (Y : Cx) (b o : Nat) : Prop := Y.F b o ∨ b ∈ Y.κ ∧ ∃ v, Y.w.cell? ⟨b, o, none⟩ = some v
theorem zw2 {IT : IterP} (hIT : ITMono IT) {σ : St} {Y : Cx} {O C} (hI : Inv IT σ Y) : ∀ n, (∀ s off v, Rep IT Y (.ptr s off) v → Rep IT ⟨zxy Y, [], [], [], Y.w, O, C⟩ ((frz σ.boxes n).1 s off) v) ∧
 ∀ s off m sz f v, Rep IT Y (.bsl s off m sz f) v → Rep IT ⟨zxy Y, [], [], [], Y.w, O, C⟩ ((frz σ.boxes n).2 s off m sz) v := by
 intro n
 induction n with
 | zero => exact ⟨fun _ _ _ _ => trivial, fun _ _ _ _ _ _ _ => trivial⟩
 | succ n ih =>
  have key : ∀ (s b off : Nat), Y.κ[s]? = some b → At IT ⟨zxy Y, [], [], [], Y.w, O, C⟩ (zbe (frz σ.boxes n) (((σ.boxes[s]?).map fun b => b.2.drop off).getD [])) b off := fun s b off hb => by
   have hs : s < σ.boxes.length := by rw [← hI.κlen]; exact (List.getElem?_eq_some_iff.1 hb).1
   obtain ⟨us, zs, u1, u2, u3⟩ := hI.box s b (σ.boxes[s]).1 (σ.boxes[s]).2 hb (by simp [hs])
   simp only [List.getElem?_eq_getElem hs, Option.map_some, Option.getD_some]
   have hcell : ∀ (i : Nat) v, (us.drop off)[i]? = some v → Y.w.cell? ⟨b, off + i, none⟩ = some v := fun i v hv => by
    rw [List.getElem?_drop] at hv
    have := (List.getElem?_eq_some_iff.1 hv).1
    unfold World.cell?
    simp [u1, List.getElem?_append_left this, hv]
   exact zvc (fun i hi => .inr ⟨List.mem_of_getElem? hb, _, hcell i _ (List.getElem?_eq_getElem hi)⟩) (fun v hv => u3 v (List.mem_of_mem_drop hv)) (zes (Y := ⟨zxy Y, [], [], [], Y.w, O, C⟩) hIT (fun b o h => Or.inl h) rfl ih _ _ (zf2 u2 off)) hcell
  refine ⟨?_, ?_⟩
  ·rintro s off v ⟨b, hb, rfl⟩
   exact ⟨b, off, rfl, key s b off hb⟩
  ·rintro s off m sz f v ⟨b, cap, cur, t, hb, rfl, hcap, hful, _⟩
   exact ⟨_, cap, rfl, ⟨hcap, fun h => by cases h⟩, .inr ⟨b, off, rfl, zs2 _ (key s b off hb)⟩, trivial⟩
def zsr : AV → Bool
 | .raw _ => true
 | _ => false
def zo7 : AV → Bool
 | .raw _ => true
 | .agg cs => cs.all zsr
 | .tup cs => cs.all zsr
 | _ => false
theorem ziw {IT : IterP} {X Y : Cx} : ∀ (l : List AV) (vs : List Value), l.all zsr = true → zbf IT X l vs → zbf IT Y l vs
 | [], _, _, h => h
 | a :: l, vs, ho, ⟨v, r, e, h1, h2⟩ => by
  rw [List.all_cons, Bool.and_eq_true] at ho
  refine ⟨v, r, e, ?_, ziw l r ho.2 h2⟩
  cases a with
  | raw u => exact h1
  | _ => simp [zsr] at ho
theorem zmh {IT : IterP} {X Y : Cx} {a : AV} {v : Value} (ho : zo7 a = true) (h : Rep IT X a v) : Rep IT Y a v := by
 cases a with
 | raw u => exact h
 | agg cs => obtain ⟨vs, e, h1, h2⟩ := h; exact ⟨vs, e, ziw cs vs ho h1, h2⟩
 | tup cs => obtain ⟨vs, e, h1⟩ := h; exact ⟨vs, e, ziw cs vs ho h1⟩
 | _ => simp [zo7] at ho
theorem z5m {IT : IterP} (hIT : ITMono IT) {P : Program} {f : FuncId} {args args' : List AV} {r : AV} (n : Nat) {σ : St} (h : Pure IT P f args' r) (hargs : zbe (frz σ.boxes n) args = args') (hraw : zo7 r = true) {X : Cx} (hI : Inv IT σ X) {vs : List Value} (hr : zbf IT X args vs) :
 Calls P f vs.toArray X.w fun e w' => ∃ v X', e = .returned v ∧ X'.w = w' ∧ Ext X X' ∧ Inv IT σ X' ∧ Rep IT X' r v := by
 subst hargs
 have h0 : zbf IT ⟨zxy X, [], [], [], X.w, fun _ => False, fun _ _ => False⟩ (zbe (frz σ.boxes n) args) vs := zes (Y := ⟨zxy X, [], [], [], X.w, fun _ => False, fun _ _ => False⟩) hIT (fun b o h => Or.inl h) rfl (zw2 hIT hI n) args vs hr
 have hI0 : Inv IT St.empty ⟨zxy X, [], [], [], X.w, fun _ => False, fun _ _ => False⟩ := { ziz hI with
  gv := hIT.gv _ _ _ _ (fun b o h => Or.inl h) (fun _ _ _ => rfl) (Szs.refl _) hI.gv
  box := fun s b t cs h => by simp at h
  κF := fun s b t cs h => by simp at h
  row := fun s r L h => by simp at h
  Ok := fun b h => h.elim
  Fcell := fun b o hf => hf.elim (hI.Fcell b o) And.right }
 refine (h.2 ⟨zxy X, [], [], [], X.w, fun _ => False, fun _ _ => False⟩ vs hI0 h0).mono ?_
 rintro e w' ⟨v, Y, rfl, rfl, hE, hIY, hv⟩
 have hblk : ∀ b, b < X.w.heap.size → Y.w.heap[b]? = X.w.heap[b]? := fun b hb => hE.frame b hb (by simp) (by simp)
 have hFn : ∀ b i, ((Y.F b i ∧ b ∉ X.κ) ∨ X.F b i) → X.F b i ∨ X.w.heap.size ≤ b := fun b i h => by
  rcases h with ⟨hf, hk⟩ | h
  ·rcases hE.Fnew b i hf with (h | ⟨h, _⟩) | h | ⟨q, hq, _⟩ | h
   ·exact .inl h
   ·exact absurd h hk
   ·exact .inr h
   ·simp at hq
   ·simp at h
  ·exact .inl h
 have hX : Ext X ⟨fun b o => (Y.F b o ∧ b ∉ X.κ) ∨ X.F b o, X.κ, X.β, X.lens, Y.w, X.O, X.C⟩ := {
  os := hE.os, tape := hE.tape, output := hE.output, size := hE.size, drawn := hE.drawn
  F := fun b o h => .inr h
  cell := fun b o h => hE.cell b o (.inl h)
  κ := fun _ _ h => h
  lens := fun s L h => ⟨L, h, Nat.le_refl _, fun _ => rfl⟩
  blk := fun s b hs cur t f h => ⟨cur, (hblk b (hI.κlt (List.mem_of_getElem? hs))).trans h, rfl⟩
  szs := Szs.old hblk
  frame := fun b hb _ _ => hblk b hb
  κnew := fun _ h => .inl h
  βnew := fun r h => .inl ⟨r, h, rfl⟩
  O := rfl
  C := rfl
  Fnew := fun b i hf => (hFn b i hf).imp id .inl }
 refine ⟨v, ⟨fun b o => (Y.F b o ∧ b ∉ X.κ) ∨ X.F b o, X.κ, X.β, X.lens, Y.w, X.O, X.C⟩, rfl, rfl, hX, ?_, zmh hraw hv⟩
 refine { lens := hI.lens, elems := hI.elems, κlen := hI.κlen, κnd := hI.κnd, box := ?_, κF := ?_, βlen := hI.βlen, βnd := hI.βnd, βκ := hI.βκ, row := ?_, Ok := ?_, Fcell := fun b o hf => hIY.Fcell b o (hf.elim And.left fun h => hE.F b o (.inl h)) }
 ·intro s b t cs hs hb
  obtain ⟨us, zs, u1, u2, u3⟩ := hI.box s b t cs hs hb
  exact ⟨us, zs, (hblk b (hI.κlt (List.mem_of_getElem? hs))).trans u1, zat hIT hX _ _ u2, u3⟩
 ·intro s b t cs hs hb hc o hf
  rcases hf with ⟨_, hf⟩ | hf
  ·exact hf (List.mem_of_getElem? hs)
  ·exact hI.κF s b t cs hs hb hc o hf
 ·intro s q L hq hL
  obtain ⟨cur, fz, c1, c2, c3, c4, c5, c6, c7⟩ := hI.row s q L hq hL
  have hlt := hI.βlt (List.mem_of_getElem? hq)
  refine ⟨cur, fz, (hblk _ hlt).trans c1, c2, c3, c4, c5, fun o hf => ?_, c7⟩
  rcases hFn _ o hf with h | h
  ·exact c6 o h
  ·omega
 ·intro b ho
  obtain ⟨⟨cs0, t0, f0, h0⟩, h2, h3, h4⟩ := hI.Ok b ho
  have hlt := hI.Olt ho
  exact ⟨⟨cs0, t0, f0, (hblk b hlt).trans h0⟩, h2, h3, fun o hf => (hFn b o hf).elim (h4 o) fun h => by omega⟩
theorem z4q {IT : IterP} (hIT : ITMono IT) {P : Program} {f : FuncId} {args args' : List AV} {r : AV} (n : Nat) {σ : St} (h : Pure IT P f args' r) (hargs : zbe (frz σ.boxes n) args = args') (hraw : zo7 r = true) {X : Cx} (hI : Inv IT σ X) {vs : List Value} (hr : zbf IT X args vs) :
 Calls P f vs.toArray X.w fun e w' => ∃ v, e = .returned v ∧ Grows X.w w' ∧ Rep IT X r v := by
 subst hargs
 have h0 : zbf IT ⟨zxy X, [], [], [], X.w, fun _ => False, fun _ _ => False⟩ (zbe (frz σ.boxes n) args) vs := zes (Y := ⟨zxy X, [], [], [], X.w, fun _ => False, fun _ _ => False⟩) hIT (fun b o h => Or.inl h) rfl (zw2 hIT hI n) args vs hr
 have hI0 : Inv IT St.empty ⟨zxy X, [], [], [], X.w, fun _ => False, fun _ _ => False⟩ := { ziz hI with
  gv := hIT.gv _ _ _ _ (fun b o h => Or.inl h) (fun _ _ _ => rfl) (Szs.refl _) hI.gv
  box := fun s b t cs h => by simp at h
  κF := fun s b t cs h => by simp at h
  row := fun s r L h => by simp at h
  Ok := fun b h => h.elim
  Fcell := fun b o hf => hf.elim (hI.Fcell b o) And.right }
 refine (h.2 ⟨zxy X, [], [], [], X.w, fun _ => False, fun _ _ => False⟩ vs hI0 h0).mono ?_
 rintro e w' ⟨v, Y, rfl, rfl, hE, hIY, hv⟩
 exact ⟨v, rfl, ⟨⟨hE.os, hE.tape, hE.output, hE.size, fun b hb => hE.frame b hb (by simp) (by simp)⟩, hE.drawn⟩, zmh hraw hv⟩
end Go.Ab
