/-
  rx: Clean, Same, Compare, copied as plain functions.
-/
import Derived.Test.YtmoncghgagmilaaZdQr
import Derived.Test.YtmoncghgagmilaaZdCq
import Derived.Shelf.Spec.SlicesInsert
import Derived.Lib.AppendZerosOnto
import Derived.Laws.CopyRow
import Derived.Test.YtmoncghgagmilaaZnCl
set_option linter.unusedSimpArgs false
set_option linter.unusedVariables false
namespace Go.Ab
open Go Go.RowKit Go.Fwd
end Go.Ab
set_option linter.unusedSimpArgs false
set_option linter.unusedVariables false
namespace Go.Ab
open Go Go.RowKit Go.Fwd Go.Proofs
structure InsLaw (P : Program) (f : FuncId) (S e : TypeId) (sz by' : Nat) : Prop where
 room : ∀ (b n c i vb voff m vc : Nat) (R V : List Value) (t0 : TypeId) (tA : TypeId) (kA : Nat) (w : World) (hi : i < n) (hm : 0 < m) (hroom : n + m ≤ c) (hc63 : n + m ≤ 4611686018427387904) (hvb : vb ≠ b)
  (hrow : w.heap[b]? = some (.cells R.toArray t0 (0, 0))) (hR : c * sz ≤ R.length) (hone : ∀ v ∈ R.take (n * sz), v.oneCell' = true) (hVl : V.length = m * sz) (hV : ∀ j v, V[j]? = some v → w.cell? ⟨vb, voff + j, none⟩ = some v) (h1v : ∀ v ∈ V, v.oneCell' = true)
  (hsa : w.shape? vb = some (tA, kA)) (hkA : kA ≠ 0),
  Calls P f #[.slice (some ⟨b, 0, none⟩) n c, .int .i64 i, .slice (some ⟨vb, voff, none⟩) m vc] w fun e w' =>
   e = .returned (.slice (some ⟨b, 0, none⟩) (n + m) c) ∧ w' = w.drew.setRow b (R.take (i * sz) ++ V ++ (R.drop (i * sz)).take ((n - i) * sz) ++ R.drop ((n + m) * sz)).toArray
 stop : ∀ (base : Option Addr) (n c m vc : Nat) (va : Option Addr) (r : Value) (w w1 : World) (hm : 0 < m) (hnc : n ≤ c) (hc63 : n + m ≤ 4611686018427387904) (hnil : base = none → c = 0)
  (hrun : (Builtin.append_ #[S, S] S #[.slice base n c, .slice va m vc]).run P w = .ok r w1),
  Calls P f #[.slice base n c, .int .i64 n, .slice va m vc] w fun e w' => e = .returned r ∧ w' = w1
 grow : ∀ (b n c i vb voff m vc : Nat) (R V : List Value) (t0 : TypeId) (tA : TypeId) (kA : Nat) (w : World) (hi : i < n) (hm : 0 < m) (hnc : n ≤ c) (hroom : c < n + m) (hbig : (n + m) * by' ≤ 140737488355328) (hvb : vb < w.heap.size)
  (hrow : w.heap[b]? = some (.cells R.toArray t0 (0, 0))) (hR : c * sz ≤ R.length) (hone : ∀ v ∈ R.take (n * sz), v.oneCell' = true) (hVl : V.length = m * sz) (hV : ∀ j v, V[j]? = some v → w.cell? ⟨vb, voff + j, none⟩ = some v) (h1v : ∀ v ∈ V, v.oneCell' = true),
  Calls P f #[.slice (some ⟨b, 0, none⟩) n c, .int .i64 i, .slice (some ⟨vb, voff, none⟩) m vc] w fun e' w' =>
   ∃ G Z, n + m ≤ G ∧ e' = .returned (.slice (some ⟨w.heap.size, 0, none⟩) (n + m) G) ∧ Z.length + (n + m) * sz = G * sz ∧ w' = w.drew.drew.alloc (.cells (R.take (i * sz) ++ V ++ (R.drop (i * sz)).take ((n - i) * sz) ++ Z : List Value).toArray e)
section
variable {α : Type} [Enc α]
end
theorem z0a {IT : IterP} (hIT : ITMono IT) {σ : St} {X : Cx} (hI : Inv IT σ X) {s b : Nat} {t : TypeId} {cs : List AV} (hs : X.κ[s]? = some b) (hb : σ.boxes[s]? = some (t, cs)) :
 ∃ X', X'.w = X.w ∧ Ext X X' ∧ Inv IT { σ with boxes := σ.boxes.set s (t, []) } X' ∧ At IT X' cs b 0 := by
 have hbm : b ∈ X.κ := List.mem_of_getElem? hs
 obtain ⟨us, zs, k1, k2, k3⟩ := hI.box s b t cs hs hb
 have hul := zq k2
 have hE : Ext X { X with F := fun b' o => X.F b' o ∨ (b' = b ∧ o < us.length) } := { Ext.refl X with
  F := fun _ _ h => .inl h
  cell := fun _ _ _ => rfl
  Fnew := fun b' o h => h.elim .inl fun h => .inr (.inr (.inr (h.1 ▸ hbm))) }
 have hK := zsm hI hb
 refine ⟨{ X with F := fun b' o => X.F b' o ∨ (b' = b ∧ o < us.length) }, rfl, hE, ?_, ?_⟩
 ·refine { lens := hK.lens, elems := hK.elems, κlen := hK.κlen, κnd := hK.κnd, box := ?_, κF := ?_, βlen := hK.βlen, βnd := hK.βnd, βκ := hK.βκ, row := ?_, Ok := ?_, Fcell := ?_ }
  ·intro s' b' t' cs' hs' hb'
   obtain ⟨vs', zs', u1, u2, u3⟩ := hK.box s' b' t' cs' hs' hb'
   exact ⟨vs', zs', u1, zao hIT hE _ _ u2, u3⟩
  ·intro s' b' t' cs' hs' hb' hc o hf
   rcases hf with hf | ⟨rfl, hlt⟩
   ·exact hK.κF s' b' t' cs' hs' hb' hc o hf
   ·have hne : cs ≠ [] := fun e => by rw [e] at hul; simp at hul; omega
    have hs0 : s < σ.boxes.length := (List.getElem?_eq_some_iff.1 hb).1
    by_cases e : s = s'
    ·subst e
     have hb'' : (σ.boxes.set s (t, []))[s]? = some (t', cs') := hb'
     rw [List.getElem?_set_self hs0] at hb''
     cases hb''
     exact hc rfl
    ·have hb'' : (σ.boxes.set s (t, []))[s']? = some (t', cs') := hb'
     rw [List.getElem?_set_ne e] at hb''
     rcases hI.κnd s s' b' hs hs' e with ⟨t0, h0⟩ | ⟨t0, h0⟩
     ·rw [hb] at h0; exact hne (congrArg Prod.snd (Option.some.inj h0))
     ·rw [hb''] at h0; exact hc (congrArg Prod.snd (Option.some.inj h0))
  ·intro s' r L hr hL
   obtain ⟨cur, fz, c1, c2, c3, c4, c5, c6, c7⟩ := hI.row s' r L hr hL
   refine ⟨cur, fz, c1, c2, c3, c4, c5, fun o hf => ?_, c7⟩
   rcases hf with hf | ⟨e, _⟩
   ·exact c6 o hf
   ·exact absurd (e ▸ hbm) (hI.βκ r (List.mem_of_getElem? hr))
  ·intro b' ho
   obtain ⟨h1, h2, h3, h4⟩ := hI.Ok b' ho
   exact ⟨h1, h2, h3, fun o hf => hf.elim (h4 o) fun h => absurd (h.1 ▸ hbm) h2⟩
  ·intro b' o hf
   rcases hf with hf | ⟨rfl, hlt⟩
   ·exact hI.Fcell b' o hf
   ·refine ⟨us[o], ?_⟩
    show X.w.cell? _ = _
    rw [cell_of_row _ _ _ _ _ _ k1, List.getElem?_toArray, List.getElem?_append_left hlt]
    exact List.getElem?_eq_getElem hlt
 ·refine ztt (fun j hj => .inr ⟨rfl, by omega⟩) k3 (zao hIT hE _ _ k2) fun j u hu => ?_
  show X.w.cell? _ = _
  have hj := (List.getElem?_eq_some_iff.1 hu).1
  rw [cell_of_row _ _ _ _ _ _ k1, Nat.zero_add, List.getElem?_toArray, List.getElem?_append_left hj]
  exact hu
theorem z3u {IT : IterP} (hIT : ITMono IT) {α : Type} [Enc α] {P : Program} {f : FuncId} {ar ar' : List AV} {r : AV} {σ : St} {s : Nat} {t : TypeId} {l : List α} {fl : Bool} (h : Pure IT P f (.list (List.length l) (Enc.cellsL l) .none   :: ar') r) (has : stripL ar = ar') (hok : z7 0 ar = true) (hb : σ.boxes[s]? = some (t, Enc.cellsL l)) :
 Snd IT P f (.bsl s 0 (List.length l) (Enc.sz α) fl :: ar) σ r { σ with boxes := σ.boxes.set s (t, []) } := by
 refine ⟨h.1, fun X vs hI hr => ?_⟩
 rw [za9] at hr
 obtain ⟨v0, vr, rfl, hv0, hrr⟩ := hr
 have hv0 : Bsl X s 0 l.length (Enc.sz α) fl v0 := hv0
 obtain ⟨b, c, cur, t1, hκ, rfl, hcap, _, hrow, hfit⟩ := hv0
 obtain ⟨X', x1, x2, x3, x4⟩ := z0a hIT hI hκ hb
 have hr' : za9 IT X' (.list (List.length l) (Enc.cellsL l) .none :: ar) (.slice (some ⟨b, 0, none⟩) l.length c :: vr) := by
  rw [za9]
  refine ⟨_, vr, rfl, ?_, zao hIT x2 _ _ hrr⟩
  rw [Rep]
  exact ⟨_, _, rfl, ⟨hcap, fun h => by cases h⟩, .inr ⟨_, _, rfl, x4⟩, trivial⟩
 have hl := ziu hIT h (args := .list (List.length l) (Enc.cellsL l) .none :: ar) (by rw [Go.Ab.stripL, zb7, Enc.stripL, has]) (by rw [zb (zah (Enc.cloL l)) hok]) x3 hr'
 rw [x1] at hl
 refine hl.mono ?_
 rintro e w' ⟨v, Y, h1, h2, h3, h4, h5, _⟩
 exact ⟨v, Y, h1, h2, x2.trans h3, h4, h5⟩
section
variable {IT : IterP} {P : Program} {W : Owed} {k0 : Nat}
theorem zx2 {x y : Code} {Q : AQ} {S : List AV} {σ : St} (h : awp IT P W k0 x (zng (fun S σ => ∃ S' σ', Wk k0 S σ S' σ' ∧ awp IT P W k0 y Q S' σ') Q) S σ) : awp IT P W k0 (.seq x y) Q S σ := h
theorem z5p {y : Code} {Q : AQ} {S S' : List AV} {σ σ' : St} (hw : Wk k0 S σ S' σ') (h : awp IT P W k0 y Q S' σ') : ∃ S' σ', Wk k0 S σ S' σ' ∧ awp IT P W k0 y Q S' σ' := ⟨S', σ', hw, h⟩
end
end Go.Ab
set_option linter.unusedSimpArgs false
set_option linter.unusedVariables false
set_option maxRecDepth 100000
set_option maxHeartbeats 4000000
namespace Go.Ab
open Go Go.RowKit Go.Fwd Go.Proofs
def zs2 (t : Tr) : Option Bool :=
 (chk ((pre t).length < 2 ^ 61) (zan (zcl t) (fun x1 => (bif (!x1) then (some false) else (zdo (τ := Unit) (chk ((pre t).length < 2 ^ 61) (zan (pre t) (fun x2 => (zdo (zg2 (β := Unit) (fun s1 w1 => (chk ((pre w1).length < 2 ^ 61) (zan (zcm w1) (fun x3 => (bif (!x3) then (some (Sum.inr (Sum.inr false))) else (some (Sum.inl ()))))))) x2 ()) (fun s1 => (some (Sum.inl ()))))))) (fun j1 => (some true)))))))
theorem ent25 : Ent Try.prog 25 := enters_of Try.func25 (by kernel_rfl) rfl
theorem z5i (t : Tr) (r : Bool) (h : zs2 t = some r) : Pure (ITP Try.prog) Try.prog 25 [.A (t : Tr)] (.raw (.bool r)) := by
 unfold zs2 at h
 refine zaw 12 mix Try.func25 ent25 ?_
 refine ze (zc ?_)
 refine zbc (a := .ptr 0 0) (σ'' := (.B [(30, (Enc.cells (t : Tr)))])) ?_
 refine zbc (a := .ptr 1 0) (σ'' := (.B [(30, (Enc.cells (t : Tr))), (4, [.b false])])) ?_
 refine ze ?_
 refine zw [.v (.A (t : Tr))] ?_
 obtain ⟨g1, h⟩ := zh h
 obtain ⟨x1, hx1, h⟩ := zj h
 refine zbs (args' := [.A (t : Tr)]) (r := .b x1) (by rw [← hx1]; exact (zlv t g1)) ?_
 refine w_o (a := .b (!x1)) ?_
 refine zbu h (fun hc1 h => ?_) (fun hc1 h => ?_)
 refine ze (zc ?_)
 refine zbk 1 (.B [(30, (Enc.cells (t : Tr))), (4, [.b false])]) ?_
 exact za4 h
 refine za0 h (bz 0 13 8187) (fun j1 => []) (fun j1 => (.B [(30, (Enc.cells (t : Tr))), (4, [.b false])])) ?_ ?_
 intro or1 h hr1
 refine zw [.v (.A (t : Tr))] ?_
 obtain ⟨g2, h⟩ := zh h
 obtain ⟨x2, hx2, h⟩ := zj h
 refine zbs (args' := [.A (t : Tr)]) (r := .iter (List.map zvq x2)) (by rw [← hx2]; exact (z35 t g2)) ?_
 refine zr ?_
 refine znq h zvq (fun s1 => (.B [(30, (Enc.cells (t : Tr))), (4, [.b false])])) rfl (fun _ => rfl) rfl rfl ?_ ?_
 intro s1 w1 p1 h
 refine zam (by dsimp only [znf, List.zip, List.zipWith, List.foldl, List.set, Array.toList]) rfl ?_
 refine zc (k0 := 0) (id := 4) ?_
 refine zbc (a := .ptr 2 0) (σ'' := (.B [(30, (Enc.cells (t : Tr))), (4, [.b false]), (30, [.u 0, .raw (.int .u64 0), .raw (.int .u64 0), .raw (.int .u64 0), .raw (.int .u64 0), .i 0, .i 0, .list 0 [] .full])])) ?_
 refine zbk 8 (.B [(30, (Enc.cells (t : Tr))), (4, [.b false]), (30, (Enc.cells (w1 : Tr)))]) ?_
 refine zr ?_
 refine zw [.v (.A (w1 : Tr))] ?_
 obtain ⟨g3, h⟩ := zh h
 obtain ⟨x3, hx3, h⟩ := zj h
 refine zbs (args' := [.A (w1 : Tr)]) (r := .b x3) (by rw [← hx3]; exact (k_right w1 g3)) ?_
 refine w_o (a := .b (!x3)) ?_
 refine zbu h (fun hc2 h => ?_) (fun hc2 h => ?_)
 refine ze (zc ?_)
 refine zbk 1 (.B [(30, (Enc.cells (t : Tr))), (4, [.b false]), (30, (Enc.cells (w1 : Tr)))]) ?_
 refine zae h (fun h => ⟨(zba (zv (zo _ _ (Enc.clo _)) (zv (by kernel_rfl) rfl))), ?_⟩)
 replace h := zp h hr1
 exact za4 h
 exact zl8 (p := p1) () h (zba (zv (zo _ _ (Enc.clo _)) (zv (by kernel_rfl) rfl))) (by kernel_rfl)
 intro s1 h
 refine zg (o := or1) () h ?_
 exact zc7 (bl 13 4)
 intro j1 h
 refine zf8 ?_
 refine ze (zc ?_)
 refine zbk 1 (.B [(30, (Enc.cells (t : Tr))), (4, [.b true])]) ?_
 exact za4 h
def zyl (a : Tr) (b : Tr) : Option Bool :=
 (chk ((pre a).length < 2 ^ 61) (zan (zcl a) (fun x1 => (bif x1 then (chk ((pre b).length < 2 ^ 61) (zan (zcl b) (fun x2 => (bif x2 then (chk ((pre a).length < 2 ^ 60 ∧ (pre b).length < 2 ^ 60) (zan (zim a b) (fun x3 => (some x3)))) else (some false))))) else (some false)))))
theorem ent11 : Ent Try.prog 11 := enters_of Try.func11 (by kernel_rfl) rfl
theorem same_sh (a : Tr) (b : Tr) (r : Bool) (h : zyl a b = some r) : Pure (ITP Try.prog) Try.prog 11 [.A (a : Tr), .A (b : Tr)] (.raw (.bool r)) := by
 unfold zyl at h
 refine zaw 14 mix Try.func11 ent11 ?_
 refine ze (zc ?_)
 refine zbc (a := .ptr 0 0) (σ'' := (.B [(30, (Enc.cells (a : Tr)))])) ?_
 refine zbc (a := .ptr 1 0) (σ'' := (.B [(30, (Enc.cells (a : Tr))), (30, (Enc.cells (b : Tr)))])) ?_
 refine w_o (a := .b false) ?_
 refine zw [.v (.A (a : Tr))] ?_
 obtain ⟨g1, h⟩ := zh h
 obtain ⟨x1, hx1, h⟩ := zj h
 refine zbs (args' := [.A (a : Tr)]) (r := .b x1) (by rw [← hx1]; exact (zlv a g1)) ?_
 refine zu h (fun hc1 h => ?_) (fun hc1 h => ?_)
 refine zau hc1 ?_
 refine zac rfl rfl ?_
 refine w_o (a := .A (b : Tr)) ?_
 refine zac rfl rfl ?_
 obtain ⟨g2, h⟩ := zh h
 obtain ⟨x2, hx2, h⟩ := zj h
 refine zbs (args' := [.A (b : Tr)]) (r := .b x2) (by rw [← hx2]; exact (zlv b g2)) ?_
 refine w_o (a := .b x2) ?_
 refine zu h (fun hc2 h => ?_) (fun hc2 h => ?_)
 refine zau hc2 ?_
 refine w_r [.v (.A (a : Tr)), .v (.A (b : Tr))] ?_
 refine zac rfl rfl ?_
 obtain ⟨g3, h⟩ := zh h
 obtain ⟨x3, hx3, h⟩ := zj h
 refine zbs (args' := [.A (a : Tr), .A (b : Tr)]) (r := .b x3) (by rw [← hx3]; exact (z1z a b g3)) ?_
 refine w_r [.v (.b x3), .m _] ?_
 exact za4 h
 refine zau hc2 ?_
 refine w_r [.p, .p, .p, .v (.b false), .m _] ?_
 exact za4 h
 refine zau hc1 ?_
 refine w_r [.p, .p, .v (.b false), .m _, .p] ?_
 refine w_r [.p, .p, .v (.b false), .m _] ?_
 exact za4 h
def zln (a : Tr) (b : Tr) : Option Int :=
 (chk ((pre a).length < 2 ^ 61) (zan (zcl a) (fun x1 => (bif (!x1) then (some 0) else (chk ((pre b).length < 2 ^ 61) (zan (zcl b) (fun x2 => (bif (!x2) then (some 0) else (chk ((pre a).length < 2 ^ 60 ∧ (pre b).length < 2 ^ 60) (zan (zf1 a b) (fun x3 => (some x3))))))))))))
theorem ent62 : Ent Try.prog 62 := enters_of Try.func62 (by kernel_rfl) rfl
theorem zz8 (a : Tr) (b : Tr) (r : Int) (h : zln a b = some r) : Pure (ITP Try.prog) Try.prog 62 [.A (a : Tr), .A (b : Tr)] (.raw (.int .i64 r)) := by
 unfold zln at h
 refine zaw 14 mix Try.func62 ent62 ?_
 refine ze (zc ?_)
 refine zbc (a := .ptr 0 0) (σ'' := (.B [(30, (Enc.cells (a : Tr)))])) ?_
 refine zbc (a := .ptr 1 0) (σ'' := (.B [(30, (Enc.cells (a : Tr))), (30, (Enc.cells (b : Tr)))])) ?_
 refine w_o (a := .i 0) ?_
 refine ze ?_
 refine zw [.v (.A (a : Tr))] ?_
 obtain ⟨g1, h⟩ := zh h
 obtain ⟨x1, hx1, h⟩ := zj h
 refine zbs (args' := [.A (a : Tr)]) (r := .b x1) (by rw [← hx1]; exact (zlv a g1)) ?_
 refine w_o (a := .b (!x1)) ?_
 refine zu h (fun hc1 h => ?_) (fun hc1 h => ?_)
 refine zau hc1 ?_
 refine w_r [.p, .p, .p, .v (.b true)] ?_
 refine zbo rfl ?_
 refine zw [.v (.i 0)] ?_
 exact zd0 h
 refine zau hc1 ?_
 refine zac rfl rfl ?_
 refine w_o (a := .A (b : Tr)) ?_
 refine zac rfl rfl ?_
 obtain ⟨g2, h⟩ := zh h
 obtain ⟨x2, hx2, h⟩ := zj h
 refine zbs (args' := [.A (b : Tr)]) (r := .b x2) (by rw [← hx2]; exact (zlv b g2)) ?_
 refine w_r [.v (.b (!x2)), .v (.b (!x2))] ?_
 refine zbu h (fun hc2 h => ?_) (fun hc2 h => ?_)
 refine zw [.v (.i 0)] ?_
 exact zd0 h
 refine zw [.v (.A (a : Tr)), .v (.A (b : Tr))] ?_
 obtain ⟨g3, h⟩ := zh h
 obtain ⟨x3, hx3, h⟩ := zj h
 refine zbs (args' := [.A (a : Tr), .A (b : Tr)]) (r := .i x3) (by rw [← hx3]; exact (cmp_at a b g3)) ?_
 refine zab ?_
 exact zd0 h
def zko (fuel : Nat) (n : Nat) (t : Tr) : Option Tr :=
 (bif (List.isEmpty t.l) then (zdo (τ := Unit) (zch (β := Int) (fun s1 => (bif (decide (s1 < 0)) then none else (some (Sum.inr (Sum.inl ()))))) fuel (0)) (fun j1 => (some (Tr.mk t.k t.s t.mn t.mx [])))) else (chk (List.length t.l * 80 ≤ 140737488355328) (zdo (τ := (List Tr)) (zch (β := Int × (List Tr)) (fun s2 => (bif (decide (s2.1 < (((List.length t.l) : Nat) : Int))) then (chk (0 ≤ s2.1 ∧ s2.1 < (((List.length t.l) : Nat) : Int)) (chk (0 ≤ s2.1 ∧ s2.1 < (List.length s2.2 : Int)) (zan (ix s2.2 s2.1) (fun x1 => (chk ((pre x1).length < n) (zan x1 (fun x2 => (chk (0 ≤ s2.1 ∧ s2.1 < (((List.length t.l) : Nat) : Int)) (chk (0 ≤ s2.1 ∧ s2.1 < (List.length s2.2 : Int)) (zan (ix s2.2 s2.1) (fun x3 => (chk (-9223372036854775808 ≤ (s2.1 + 1) ∧ (s2.1 + 1) < 9223372036854775808) (some (Sum.inl ((s2.1 + 1), (List.set s2.2 (Int.toNat s2.1) x2)))))))))))))))) else (some (Sum.inr (Sum.inl (s2.2)))))) fuel (0, t.l)) (fun j2 => (chk (List.length j2 = (List.length t.l)) (some (Tr.mk t.k t.s t.mn t.mx j2)))))))
theorem ent37 : Ent Try.prog 37 := enters_of Try.func37 (by kernel_rfl) rfl
theorem zzu (fuel : Nat) (n : Nat) (t : Tr) (r : Tr) (ih : ∀ x : Tr, (pre x).length < n → Pure (ITP Try.prog) Try.prog 37 [.A x] (.A x)) (h : zko fuel n t = some r) : Pure (ITP Try.prog) Try.prog 37 [.A (t : Tr)] (.A (r : Tr)) := by
 unfold zko at h
 refine zaw 24 mix Try.func37 ent37 ?_
 refine ze (zc ?_)
 refine zbc (a := .ptr 0 0) (σ'' := (.B [(30, (Enc.cells (t : Tr)))])) ?_
 refine zbc (a := .ptr 1 0) (σ'' := (.B [(30, (Enc.cells (t : Tr))), (30, [.u 0, .raw (.int .u64 0), .raw (.int .u64 0), .raw (.int .u64 0), .raw (.int .u64 0), .i 0, .i 0, .list 0 [] .full])])) ?_
 refine zw [.v (.ptr 0 7), .v (.L (t.l : List Tr))] ?_
 refine zu h (fun hc1 h => ?_) (fun hc1 h => ?_)
 refine zvl (r := .list 0 [] .full) (σ' := (.B [(30, (Enc.cells (t : Tr))), (30, [.u 0, .raw (.int .u64 0), .raw (.int .u64 0), .raw (.int .u64 0), .raw (.int .u64 0), .i 0, .i 0, .list 0 [] .full])])) (z0o t.l hc1 _) rfl rfl ⟨rfl, rfl⟩ (by dsimp only [zn, List.set]) ?_
 refine w_o (a := .ptr 0 7) ?_
 refine zbc (σ'' := (.B [(30, [.u ((t.k : Nat) : Int), .raw (.int .u64 (wd t.s 0)), .raw (.int .u64 (wd t.s 1)), .raw (.int .u64 (wd t.s 2)), .raw (.int .u64 (wd t.s 3)), .i t.mn, .i t.mx, .list 0 [] .full]), (30, [.u 0, .raw (.int .u64 0), .raw (.int .u64 0), .raw (.int .u64 0), .raw (.int .u64 0), .i 0, .i 0, .list 0 [] .full])])) (h := zn3 (n := 1) rfl rfl rfl rfl rfl ⟨rfl, rfl, Nat.le_of_ble_eq_true rfl, by decide⟩) ?_
 refine za0 h (bz 0 25 33554425) (fun j1 => []) (fun j1 => (.B [(30, [.u ((t.k : Nat) : Int), .raw (.int .u64 (wd t.s 0)), .raw (.int .u64 (wd t.s 1)), .raw (.int .u64 (wd t.s 2)), .raw (.int .u64 (wd t.s 3)), .i t.mn, .i t.mx, .list 0 [] .full]), (30, [.u 0, .raw (.int .u64 0), .raw (.int .u64 0), .raw (.int .u64 0), .raw (.int .u64 0), .i 0, .i 0, .list 0 [] .full])])) ?_ ?_
 intro or1 h hr1
 refine zw [.v (.ptr 0 7), .v (.list 0 [] .full), .v (.i 0), .v (.i 0)] ?_
 refine zr ?_
 refine zcf h (bz 0 25 33551353) (fun s1 => [(12, .i s1)]) (fun s1 => (.B [(30, [.u ((t.k : Nat) : Int), .raw (.int .u64 (wd t.s 0)), .raw (.int .u64 (wd t.s 1)), .raw (.int .u64 (wd t.s 2)), .raw (.int .u64 (wd t.s 3)), .i t.mn, .i t.mx, .list 0 [] .full]), (30, [.u 0, .raw (.int .u64 0), .raw (.int .u64 0), .raw (.int .u64 0), .raw (.int .u64 0), .i 0, .i 0, .list 0 [] .full])])) ?_ ?_
 exact zc7 (bl 25 7174)
 intro s1 p1 h
 refine zf8 ?_
 refine zw [.v (.b (decide (s1 < 0)))] ?_
 refine ze ?_
 refine zbu h (fun hc2 h => ?_) (fun hc2 h => ?_)
 refine ze ?_
 refine zr ?_
 refine zw [.m _] ?_
 cases h
 refine zae h (fun h => ?_)
 refine zg (o := or1) () h ?_
 exact zc7 (bl 25 6)
 intro j1 h
 refine zf8 ?_
 refine zx2 (zc ?_)
 refine w_o (a := .agg [.u ((t.k : Nat) : Int), .raw (.int .u64 (wd t.s 0)), .raw (.int .u64 (wd t.s 1)), .raw (.int .u64 (wd t.s 2)), .raw (.int .u64 (wd t.s 3)), .i t.mn, .i t.mx, .list 0 [] .full]) ?_
 refine zbk 8 (.B [(30, [.u ((t.k : Nat) : Int), .raw (.int .u64 (wd t.s 0)), .raw (.int .u64 (wd t.s 1)), .raw (.int .u64 (wd t.s 2)), .raw (.int .u64 (wd t.s 3)), .i t.mn, .i t.mx, .list 0 [] .full]), (30, [.u ((t.k : Nat) : Int), .raw (.int .u64 (wd t.s 0)), .raw (.int .u64 (wd t.s 1)), .raw (.int .u64 (wd t.s 2)), .raw (.int .u64 (wd t.s 3)), .i t.mn, .i t.mx, .list 0 [] .full])]) ?_
 refine z5p (S' := (.top :: .top :: .ptr 0 0 :: .top :: .top :: .top :: .top :: .top :: .top :: .top :: .top :: .top :: .top :: .top :: .top :: .top :: .top :: .top :: .top :: .top :: .top :: .top :: .top :: .top :: .top :: [])) (zdm (true :: false :: true :: true :: true :: true :: true :: true :: true :: true :: true :: true :: true :: true :: true :: true :: true :: true :: true :: true :: true :: true :: true :: true :: false :: []) 0 [] [1] 1 (Nat.le_refl _) rfl (zd rfl (za (zd rfl (zd rfl (zd rfl (zd rfl (zd rfl (zd rfl (zd rfl (zd rfl (zd rfl (zd rfl (zd rfl (zd rfl (zd rfl (zd rfl (zd rfl (zd rfl (zd rfl (zd rfl (zd rfl (zd rfl (zd rfl (zd rfl (za zdk))))))))))))))))))))))))) (zdh (z8 rfl (zbh (zk _ _ _ rfl) (zbh (zk _ _ _ rfl) (zbh (zk _ _ _ rfl) (zbh (zk _ _ _ rfl) (zbh (zk _ _ _ rfl) (zbh (zk _ _ _ rfl) (zbh (zk _ _ _ rfl) (zbh rfl zqr)))))))) zca) rfl)) ?_
 exact zal (fun (r : Tr) => .A (r : Tr)) h (.agg [.u ((t.k : Nat) : Int), .raw (.int .u64 (wd t.s 0)), .raw (.int .u64 (wd t.s 1)), .raw (.int .u64 (wd t.s 2)), .raw (.int .u64 (wd t.s 3)), .i t.mn, .i t.mx, .list 0 [] .full])
 obtain ⟨g1, h⟩ := zh h
 refine zvl (r := .bsl 2 0 (List.length t.l) 8 false) (σ' := (.B [(30, (Enc.cells (t : Tr))), (30, [.u 0, .raw (.int .u64 0), .raw (.int .u64 0), .raw (.int .u64 0), .raw (.int .u64 0), .i 0, .i 0, .list 0 [] .full]), (30, (Enc.cellsL (t.l : List Tr)))])) (zwl t.l g1 hc1 2 _ rfl) rfl rfl ⟨rfl, rfl⟩ (by dsimp only [zn, List.set]) ?_
 refine w_o (a := .ptr 0 7) ?_
 refine zbc (σ'' := (.B [(30, [.u ((t.k : Nat) : Int), .raw (.int .u64 (wd t.s 0)), .raw (.int .u64 (wd t.s 1)), .raw (.int .u64 (wd t.s 2)), .raw (.int .u64 (wd t.s 3)), .i t.mn, .i t.mx, .bsl 2 0 (List.length t.l) 8 false]), (30, [.u 0, .raw (.int .u64 0), .raw (.int .u64 0), .raw (.int .u64 0), .raw (.int .u64 0), .i 0, .i 0, .list 0 [] .full]), (30, (Enc.cellsL (t.l : List Tr)))])) (h := zn3 (n := 1) rfl rfl rfl rfl rfl ⟨rfl, rfl, Nat.le_of_ble_eq_true rfl, by decide⟩) ?_
 refine za0 h (bz 0 25 33554425) (fun j2 => []) (fun j2 => (.B [(30, [.u ((t.k : Nat) : Int), .raw (.int .u64 (wd t.s 0)), .raw (.int .u64 (wd t.s 1)), .raw (.int .u64 (wd t.s 2)), .raw (.int .u64 (wd t.s 3)), .i t.mn, .i t.mx, .bsl 2 0 (List.length t.l) 8 false]), (30, [.u 0, .raw (.int .u64 0), .raw (.int .u64 0), .raw (.int .u64 0), .raw (.int .u64 0), .i 0, .i 0, .list 0 [] .full]), (30, (Enc.cellsL (j2 : List Tr)))])) ?_ ?_
 intro or2 h hr2
 refine zw [.v (.ptr 0 7), .v (.bsl 2 0 (List.length t.l) 8 false), .v (.i (((List.length t.l) : Nat) : Int)), .v (.i 0)] ?_
 refine zr ?_
 refine zcf h (bz 0 25 33551353) (fun s2 => [(12, .i s2.1)]) (fun s2 => (.B [(30, [.u ((t.k : Nat) : Int), .raw (.int .u64 (wd t.s 0)), .raw (.int .u64 (wd t.s 1)), .raw (.int .u64 (wd t.s 2)), .raw (.int .u64 (wd t.s 3)), .i t.mn, .i t.mx, .bsl 2 0 (List.length t.l) 8 false]), (30, [.u 0, .raw (.int .u64 0), .raw (.int .u64 0), .raw (.int .u64 0), .raw (.int .u64 0), .i 0, .i 0, .list 0 [] .full]), (30, (Enc.cellsL (s2.2 : List Tr)))])) ?_ ?_
 exact zc7 (bl 25 7174)
 intro s2 p2 h
 refine zf8 ?_
 refine zw [.v (.b (decide (s2.1 < (((List.length t.l) : Nat) : Int))))] ?_
 refine ze ?_
 refine zbu h (fun hc3 h => ?_) (fun hc3 h => ?_)
 refine ze ?_
 refine zr ?_
 refine zw [.m _] ?_
 obtain ⟨g2, h⟩ := zh h
 refine w_o (a := .ptr 2 (0 + Int.toNat s2.1 * 8)) (h := za2 (zd9 (α := Tr) g2 rfl rfl rfl rfl rfl)) ?_
 obtain ⟨g3, h⟩ := zh h
 obtain ⟨x1, hx1, h⟩ := zj h
 refine w_o (a := .A (x1 : Tr)) (h := za2 (by rw [← hx1]; exact (zc6 (α := Tr) (l := s2.2) (i := s2.1) (k := 0) (te := 30) g3 rfl rfl rfl rfl))) ?_
 refine zbc (a := .ptr 3 0) (σ'' := (.B [(30, [.u ((t.k : Nat) : Int), .raw (.int .u64 (wd t.s 0)), .raw (.int .u64 (wd t.s 1)), .raw (.int .u64 (wd t.s 2)), .raw (.int .u64 (wd t.s 3)), .i t.mn, .i t.mx, .bsl 2 0 (List.length t.l) 8 false]), (30, [.u 0, .raw (.int .u64 0), .raw (.int .u64 0), .raw (.int .u64 0), .raw (.int .u64 0), .i 0, .i 0, .list 0 [] .full]), (30, (Enc.cellsL (s2.2 : List Tr))), (30, [.u 0, .raw (.int .u64 0), .raw (.int .u64 0), .raw (.int .u64 0), .raw (.int .u64 0), .i 0, .i 0, .list 0 [] .full])])) ?_
 refine zab ?_
 refine zbk 8 (.B [(30, [.u ((t.k : Nat) : Int), .raw (.int .u64 (wd t.s 0)), .raw (.int .u64 (wd t.s 1)), .raw (.int .u64 (wd t.s 2)), .raw (.int .u64 (wd t.s 3)), .i t.mn, .i t.mx, .bsl 2 0 (List.length t.l) 8 false]), (30, [.u 0, .raw (.int .u64 0), .raw (.int .u64 0), .raw (.int .u64 0), .raw (.int .u64 0), .i 0, .i 0, .list 0 [] .full]), (30, (Enc.cellsL (s2.2 : List Tr))), (30, (Enc.cells (x1 : Tr)))]) ?_
 refine zcw (k0 := 0) (id := 5) 5 (by kernel_rfl) (by kernel_rfl) ?_
 refine h_o (a := .ptr 0 7) ?_
 refine h_o (a := .bsl 2 0 (List.length t.l) 8 false) ?_
 refine zgc ?_
 refine h_o (a := .A (x1 : Tr)) ?_
 obtain ⟨g4, h⟩ := zh h
 obtain ⟨x2, hx2, h⟩ := zj h
 refine zni (args' := [.A (x1 : Tr)]) (r := .A (x2 : Tr)) (by rw [← hx2]; exact (ih x1 g4)) ?_
 refine zdr ?_
 obtain ⟨g5, h⟩ := zh h
 refine w_o (a := .ptr 2 (0 + Int.toNat s2.1 * 8)) (h := za2 (zd9 (α := Tr) g5 rfl rfl rfl rfl rfl)) ?_
 obtain ⟨g6, h⟩ := zh h
 obtain ⟨x3, hx3, h⟩ := zj h
 refine zbc (σ'' := (.B [(30, [.u ((t.k : Nat) : Int), .raw (.int .u64 (wd t.s 0)), .raw (.int .u64 (wd t.s 1)), .raw (.int .u64 (wd t.s 2)), .raw (.int .u64 (wd t.s 3)), .i t.mn, .i t.mx, .bsl 2 0 (List.length t.l) 8 false]), (30, [.u 0, .raw (.int .u64 0), .raw (.int .u64 0), .raw (.int .u64 0), .raw (.int .u64 0), .i 0, .i 0, .list 0 [] .full]), (30, (Enc.cellsL ((List.set s2.2 (Int.toNat s2.1) x2) : List Tr))), (30, (Enc.cells (x1 : Tr)))])) (h := zis (α := Tr) (l := s2.2) (i := s2.1) (k := 0) (te := 30) (n := 8) x2 g6 rfl rfl rfl rfl rfl rfl rfl (by decide) (by decide) (by rw [hx3]; rfl)) ?_
 refine zc (k0 := 0) (id := 6) ?_
 obtain ⟨g7, h⟩ := zh h
 refine zwt g7 ?_
 refine zab ?_
 refine zbb (p := p2) ((s2.1 + 1), (List.set s2.2 (Int.toNat s2.1) x2)) h ?_
 exact zb3 (bl 25 7174) 3 (by kernel_rfl) (Nat.le_of_ble_eq_true rfl) (zba (zv (by kernel_rfl) (zv rfl (zv (zo _ _ (Enc.cloL _)) rfl)))) (by dsimp only [zz, zad, List.foldl, List.set, bz, bzc, Nat.reduceMod, Nat.reduceDiv, Nat.reduceBEq, Nat.reduceAdd]; exact (zb rfl (zb (by decide) (zb (by decide) (by kernel_rfl))))) (by kernel_rfl)
 refine zae h (fun h => ?_)
 refine zg (o := or2) (s2.2) h ?_
 exact zc7 (bl 25 6)
 intro j2 h
 refine zf8 ?_
 refine zx2 (zc ?_)
 refine w_o (a := .agg [.u ((t.k : Nat) : Int), .raw (.int .u64 (wd t.s 0)), .raw (.int .u64 (wd t.s 1)), .raw (.int .u64 (wd t.s 2)), .raw (.int .u64 (wd t.s 3)), .i t.mn, .i t.mx, .bsl 2 0 (List.length t.l) 8 false]) ?_
 refine zbk 8 (.B [(30, [.u ((t.k : Nat) : Int), .raw (.int .u64 (wd t.s 0)), .raw (.int .u64 (wd t.s 1)), .raw (.int .u64 (wd t.s 2)), .raw (.int .u64 (wd t.s 3)), .i t.mn, .i t.mx, .bsl 2 0 (List.length t.l) 8 false]), (30, [.u ((t.k : Nat) : Int), .raw (.int .u64 (wd t.s 0)), .raw (.int .u64 (wd t.s 1)), .raw (.int .u64 (wd t.s 2)), .raw (.int .u64 (wd t.s 3)), .i t.mn, .i t.mx, .bsl 2 0 (List.length t.l) 8 false]), (30, (Enc.cellsL (j2 : List Tr)))]) ?_
 obtain ⟨g8, h⟩ := zh h
 refine z5p (S' := (.top :: .top :: .ptr 0 0 :: .top :: .top :: .top :: .top :: .top :: .top :: .top :: .top :: .top :: .top :: .top :: .top :: .top :: .top :: .top :: .top :: .top :: .top :: .top :: .top :: .top :: .top :: [])) (zdm (true :: false :: true :: true :: true :: true :: true :: true :: true :: true :: true :: true :: true :: true :: true :: true :: true :: true :: true :: true :: true :: true :: true :: true :: false :: []) 0 [] [1] 1 (Nat.le_refl _) rfl (zd rfl (za (zd rfl (zd rfl (zd rfl (zd rfl (zd rfl (zd rfl (zd rfl (zd rfl (zd rfl (zd rfl (zd rfl (zd rfl (zd rfl (zd rfl (zd rfl (zd rfl (zd rfl (zd rfl (zd rfl (zd rfl (zd rfl (zd rfl (za zdk))))))))))))))))))))))))) (zdh (z8 rfl (zbh (zk _ _ _ rfl) (zbh (zk _ _ _ rfl) (zbh (zk _ _ _ rfl) (zbh (zk _ _ _ rfl) (zbh (zk _ _ _ rfl) (zbh (zk _ _ _ rfl) (zbh (zk _ _ _ rfl) (zbh (kz_bsl (α := Tr) (t := 30) (l := j2) g8 rfl rfl) zqr)))))))) zca) rfl)) ?_
 exact zal (fun (r : Tr) => .A (r : Tr)) h (.A ((Tr.mk t.k t.s t.mn t.mx j2) : Tr))
end Go.Ab
set_option linter.unusedSimpArgs false
set_option linter.unusedVariables false
namespace Go.Ab
open Go Go.RowKit Go.Fwd Go.Proofs
theorem zv4 {ρ : Type} : ∀ (l : List Tr), (∀ x ∈ l, (pre x).length < 2 ^ 61) → zg2 (β := Unit) (ρ := Unit ⊕ Bool) (fun s1 w1 => (chk ((pre w1).length < 2 ^ 61) (zan (zcm w1) (fun x3 => (bif (!x3) then (some (Sum.inr (Sum.inr false))) else (some (Sum.inl ()))))))) l () = if l.all zcm = true then some (.inl ()) else some (.inr (.inr false)) := by
 intro l
 induction l with
 | nil => intro _; rfl
 | cons x l ih =>
  intro h
  have hb : (chk ((pre x).length < 2 ^ 61) (zan (zcm x) (fun x3 => (bif (!x3) then (some (Sum.inr (Sum.inr false))) else (some (Sum.inl ()))))) : Option (Unit ⊕ (Unit ⊕ Bool))) = if zcm x = true then some (.inl ()) else some (.inr (.inr false)) := by
   rw [zaz (h x (by simp)), zan]; cases zcm x <;> rfl
  simp only [zg2, hb, List.all_cons]
  by_cases hr : zcm x = true
  ·simp only [hr, if_true, Bool.true_and]; exact ih (fun y hy => h y (by simp [hy]))
  ·simp [hr]
theorem z51 (t : Tr) (h : (pre t).length < 2 ^ 61) : zs2 t = some (zbj t) := by
 unfold zs2 zbj
 rw [zaz h, zan]
 cases hl : zcl t with
 | false => rfl
 | true =>
  show zdo _ _ = _
  rw [zaz h, zan, zv4 (ρ := Unit) (pre t) (fun x hx => by have := zp2 hx; omega), Bool.true_and]
  cases (pre t).all zcm <;> rfl
theorem zl7 (t : Tr) (h : (pre t).length < 2 ^ 61) : Pure (ITP Try.prog) Try.prog 25 [.agg (Enc.cells t)] (.raw (.bool (zbj t))) := z5i t _ (z51 t h)
theorem zhw {t : Tr} : zcl t = true ↔ (pre t).length ≤ 10000 := by simp [zcl]
theorem same_eq (a b : Tr) (h : (pre a).length < 2 ^ 61 ∧ (pre b).length < 2 ^ 61) : zyl a b = some (zfc a b) := by
 unfold zyl zfc
 rw [zaz h.1, zan]
 cases hl : zcl a with
 | false => rfl
 | true =>
  show chk _ _ = _
  rw [zaz h.2, zan]
  cases hl2 : zcl b with
  | false => rfl
  | true =>
   have h1 := zhw.1 hl; have h2 := zhw.1 hl2
   show chk _ _ = _
   rw [zaz ⟨by omega, by omega⟩]; rfl
theorem zmo (a b : Tr) (h : (pre a).length < 2 ^ 61 ∧ (pre b).length < 2 ^ 61) : Pure (ITP Try.prog) Try.prog 11 [.agg (Enc.cells a), .agg (Enc.cells b)] (.raw (.bool (zfc a b))) := same_sh a b _ (same_eq a b h)
def zjj (a b : Tr) : Int := if zcl a && zcl b then zf1 a b else 0
theorem zxi (a b : Tr) (h : (pre a).length < 2 ^ 61 ∧ (pre b).length < 2 ^ 61) : zln a b = some (zjj a b) := by
 unfold zln zjj
 rw [zaz h.1, zan]
 cases hl : zcl a with
 | false => rfl
 | true =>
  show chk _ _ = _
  rw [zaz h.2, zan]
  cases hl2 : zcl b with
  | false => rfl
  | true =>
   have h1 := zhw.1 hl; have h2 := zhw.1 hl2
   show chk _ _ = _
   rw [zaz ⟨by omega, by omega⟩]; rfl
theorem z2l (a b : Tr) (h : (pre a).length < 2 ^ 61 ∧ (pre b).length < 2 ^ 61) : Pure (ITP Try.prog) Try.prog 62 [.agg (Enc.cells a), .agg (Enc.cells b)] (.raw (.int .i64 (zjj a b))) := zz8 a b _ (zxi a b h)
theorem z01 (n : Nat) (t : Tr) (h : (pre t).length < n + 1) (hl : (pre t).length < 2 ^ 40) : zko (n + 1) n t = some t := by
 have hlen := zo8 t
 have hp : (pre t).length = 1 + (zai t.l).length := by rw [zc8, List.length_cons]; omega
 unfold zko
 cases hn : t.l with
 | nil =>
  refine zby rfl ?_
  refine zc1 () ?_ ?_
  ·rw [zch]; rfl
  ·obtain ⟨k, s, mn, mx, l⟩ := t
   simp only [Tr.l] at hn; subst hn; rfl
 | cons x l =>
  rw [← hn]
  refine zbv (by rw [hn]; rfl) (zt (by omega) ?_)
  refine zc1 t.l ?_ ?_
  ·refine zfz t.l.length (fun i => ((i : Int), t.l)) rfl (fun i hi => ?_) ?_ (by omega)
   ·refine zby (by simp; omega) (zt (by simp only; omega) (zt (by simp only; omega) (zaj fun x1 e1 => ?_)))
    simp only at e1
    rw [zdz hi] at e1
    have hm : x1 ∈ t.l := e1 ▸ List.getElem_mem hi
    have hx := zev hm
    refine zt (by omega) (zaj fun x2 e2 => (zt (by simp only; omega) (zt (by simp only; omega) (zaj fun x3 e3 => zt (by simp only; omega) ?_))))
    subst e2
    simp only [Int.toNat_natCast]
    rw [← e1, List.set_getElem_self]; rfl
   ·exact zbv (by simp) rfl
  ·refine zt rfl ?_
   rw [← Tr.eta t]
theorem zqq : ∀ (n : Nat) (t : Tr), (pre t).length < n → n ≤ 2 ^ 40 → Pure (ITP Try.prog) Try.prog 37 [.agg (Enc.cells t)] (.agg (Enc.cells t))
 | 0, t, h, _ => absurd h (Nat.not_lt_zero _)
 | n + 1, t, h, hn => zzu (n + 1) n t t (fun x hx => zqq n x hx (by omega)) (z01 n t h (by omega))
theorem zh2 (t : Tr) (h : (pre t).length < 2 ^ 40) : Pure (ITP Try.prog) Try.prog 37 [.agg (Enc.cells t)] (.agg (Enc.cells t)) := zqq (2 ^ 40) t h (Nat.le_refl _)
end Go.Ab
