/-
  The abstract machine, run.
-/
import Derived.Test.YtmoncghgagmilaaZdL
set_option linter.unusedSimpArgs false
set_option linter.unusedVariables false
namespace Go.Ab
open Go Go.RowKit Go.Fwd
def z56 (P : Program) (σ : St) (S : List AV) : ResultVar → Option AV
 | .tmp t => some ((S[t]?).getD (.raw undef))
 | .cell t ty => z0s P σ ty ((S[t]?).getD (.raw undef))
def zz6 (P : Program) (σ : St) (S : List AV) : List ResultVar → Option (List AV)
 | [] => some []
 | x :: l => match z56 P σ S x, zz6 P σ S l with | some a, some r => some (a :: r) | _, _ => none
def zbl (P : Program) (fn : Func) (σ : St) (S : List AV) : Option AV :=
 match zz6 P σ S fn.results.toList with
 | some [a] => some a
 | some l => some (.tup l)
 | none => none
theorem zxw {IT : IterP} {P : Program} {X : Cx} {σ : St} {S : List AV} {tmps : Array Value} {x : ResultVar} {a : AV} (h : z56 P σ S x = some a) (hr : zlp IT X S tmps) (hI : Inv IT σ X) :
 ∃ v, ((match x with | .tmp t => pure (tmps.getD t undef) | .cell a t => do loadVar t (← asAddr (tmps.getD a undef))) : Sem Value).run P X.w = .ok v X.w ∧ Rep IT X a v := by
 have hev : ∀ t, Rep IT X ((S[t]?).getD (.raw undef)) (tmps.getD t undef) := fun t => zib (a := { tmps := tmps, defers := [] }) hr (.tmp t)
 cases x with
 | tmp t =>
  simp only [z56, Option.some.injEq] at h; subst h
  exact ⟨_, rfl, hev t⟩
 | cell t ty =>
  simp only [z56] at h
  obtain ⟨v, h1, h2⟩ := zpx (P := P) h (hev t) hI
  refine ⟨v, ?_, h2⟩
  have hp : ∃ ad, tmps.getD t undef = .pointer (some ad) := by
   have := hev t
   generalize (S[t]?).getD (.raw undef) = y at h this
   cases y with
   | ptr s off => rw [Rep] at this; obtain ⟨b, _, e⟩ := this; exact ⟨_, e⟩
   | iptr cs => rw [Rep] at this; obtain ⟨b, o, e, _⟩ := this; exact ⟨_, e⟩
   | _ => cases h
  obtain ⟨ad, e⟩ := hp
  rw [e] at h1
  simp only [Instr.loadAt, Instr.sureAddr, Sem.run_bind, Sem.run_pure, Result.andThen_ok] at h1
  simp only [e, asAddr, Sem.run_bind, Sem.run_pure, Result.andThen_ok, h1]
theorem zpk {IT : IterP} {P : Program} {X : Cx} {σ : St} {S : List AV} {tmps : Array Value} (hr : zlp IT X S tmps) (hI : Inv IT σ X) : ∀ (l : List ResultVar) (r : List AV), zz6 P σ S l = some r →
 ∃ vs, (l.mapM fun x => ((match x with | .tmp t => pure (tmps.getD t undef) | .cell a t => do loadVar t (← asAddr (tmps.getD a undef))) : Sem Value)).run P X.w = .ok vs X.w ∧ za9 IT X r vs
 | [], r, h => by simp [zz6] at h; subst h; exact ⟨[], by simp, by rw [za9]⟩
 | x :: l, r, h => by
  simp only [zz6] at h
  split at h <;> cases h
  rename_i a r' h1 h2
  obtain ⟨v, e1, e2⟩ := zxw h1 hr hI
  obtain ⟨vs, k1, k2⟩ := zpk hr hI l r' h2
  refine ⟨v :: vs, ?_, by rw [za9]; exact ⟨v, vs, rfl, e2, k2⟩⟩
  rw [List.mapM_cons]
  simp only [Sem.run_bind, e1, Result.andThen_ok, k1, Sem.run_pure]
theorem zp5 {IT : IterP} {P : Program} {X : Cx} {σ : St} {S : List AV} {fn : Func} {tmps : Array Value} {a : AV} (h : zbl P fn σ S = some a) (hr : zlp IT X S tmps) (hI : Inv IT σ X) :
 ∃ v, (results fn tmps).run P X.w = .ok v X.w ∧ Rep IT X a v := by
 unfold zbl at h
 have run : ∀ r, zz6 P σ S fn.results.toList = some r → ∃ vs, (results fn tmps).run P X.w = .ok (if h : vs.length = 1 then vs[0] else .tuple vs.toArray) X.w ∧ za9 IT X r vs := fun r hr' => by
  obtain ⟨vs, k1, k2⟩ := zpk hr hI _ r hr'
  refine ⟨vs, ?_, k2⟩
  unfold results
  rw [Array.mapM_eq_mapM_toList]
  simp only [Sem.run_bind, Sem.run_map, Sem.run_pure]
  exact congrArg (fun r : Result (List Value) => (r.andThen (fun a w' => Result.ok a.toArray w')).andThen fun a w' => Result.ok (if h : a.size = 1 then a[0] else Value.tuple a) w') k1
 split at h
 ·rename_i b hl
  cases h
  obtain ⟨vs, k1, k2⟩ := run _ hl
  rw [za9] at k2
  obtain ⟨v, r, rfl, k3, k4⟩ := k2
  rw [za9] at k4; subst k4
  exact ⟨v, by simpa using k1, k3⟩
 ·rename_i l hne hl
  cases h
  obtain ⟨vs, k1, k2⟩ := run _ hl
  have hlen := zq k2
  refine ⟨.tuple vs.toArray, ?_, by rw [Rep]; exact ⟨vs, rfl, k2⟩⟩
  rw [k1, dif_neg]
  intro h1
  obtain ⟨x, rfl⟩ := List.length_eq_one_iff.1 (hlen.trans h1)
  exact hne x rfl
 ·cases h
theorem zm9 {F : Fence} {n : Nat} {P : Program} {fn : Func} {tmps : Array Value} {R : Ending → World → Prop} {B : Nat} : ∀ (Ds : List Nat) (w : World), Ds.Nodup → (∀ D ∈ Ds, B ≤ D ∧ w.heap[D]? = some (.deferred (some []))) →
 (∀ W', Turn B w W' → ∃ v, (results fn tmps).run P W' = .ok v W' ∧ R (.returned v) W') → LeavesInM F n P fn tmps R (Ds.map fun D => { target := .collected D, args := #[] }) .returning w
 | [], w, _, _, h => by
  obtain ⟨v, h1, h2⟩ := h w ⟨rfl, rfl, rfl, Nat.le_refl _, Nat.le_refl _, fun _ _ h _ => h⟩
  exact ⟨_, h1, h2⟩
 | D :: Ds, w, hnd, hD, h => by
  rw [List.nodup_cons] at hnd
  obtain ⟨hB, hd⟩ := hD D (by simp)
  have hT := Turn.putObj (B := B) (.deferred none) hB hd rfl
  refine ⟨by simp, .inl ⟨D, _, rfl, run_takeDeferred hd, ?_⟩⟩
  refine zm9 Ds _ hnd.2 (fun D' h' => ⟨(hD D' (by simp [h'])).1, ?_⟩) fun W' hT' => h W' ?_
  ·exact (World.putObj_heap_other (by intro e; subst e; exact hnd.1 h')).trans (hD D' (by simp [h'])).2
  ·exact ⟨hT'.os.trans hT.os, hT'.tape.trans hT.tape, hT'.output.trans hT.output, Nat.le_trans hT.size hT'.size, Nat.le_trans hT.drawn hT'.drawn, fun k o hk hc => hT'.same k o (hT.same k o hk hc) hc⟩
def zbq (fn : Func) (args : List AV) : List AV := args ++ List.replicate (fn.ntmps - args.length) (.raw undef)
def Ends (P : Program) (σ : St) (a r : AV) : Prop := ∀ (Y : Cx) (v : Value), Inv (ITP P) σ Y → Rep (ITP P) Y a v → ∃ F' : Nat → Nat → Prop, (∀ b o, Y.F b o → F' b o) ∧ (∀ b o, F' b o → Y.F b o ∨ b ∈ Y.κ) ∧
 (∀ b o, F' b o → ∃ v, Y.w.cell? ⟨b, o, none⟩ = some v) ∧ Rep (ITP P) ⟨F', [], [], [], Y.w, Y.O, Y.C⟩ r v
theorem zqe {P : Program} {σ : St} {a r : AV} (h1 : za5 0 a = true) (h2 : zb7 a = r) : Ends P σ a r := fun Y v hI hv => by
 subst h2
 exact ⟨Y.F, fun _ _ h => h, fun _ _ h => .inl h, hI.Fcell, zfq (X := Y) (Y := ⟨Y.F, [], [], [], Y.w, Y.O, Y.C⟩) (zas P) rfl rfl a v (.inl h1) hv⟩
def zte (P : Program) (fn : Func) (r : AV) : AQ
 | .exit _, _, _ => False
 | _, S, σ => ∃ a, zbl P fn σ S = some a ∧ Ends P σ a r
def z6o (P : Program) (n m : Nat) (σ : St) (a r : AV) (σ' : St) : Prop := ∀ (X Y : Cx) (v : Value), Ext X Y → X.κ.length = n → X.lens.length = m → Inv (ITP P) σ Y → Rep (ITP P) Y a v → ∃ X', X'.w = Y.w ∧ Ext X X' ∧ Inv (ITP P) σ' X' ∧ Rep (ITP P) X' r v
theorem z4v {P : Program} {n m : Nat} {σ σ' : St} {a r : AV} (fs js : List Nat) (d : Nat) (hok : zex σ n js = true) (hr : znh m (kz σ.boxes m n fs js d) a = r) (hσ : zkd σ m n fs js d = σ') : z6o P n m σ a r σ' := fun X Y v hE hn hm hI hv => by
 subst hr hσ
 exact ⟨zc9 σ m n fs js Y, rfl, zth hE hI hok (by omega) (by omega), zsy (zas P) hI hok d, zky (X := Y) (Y := zc9 σ m n fs js Y) (zas P) (fun b o h => Or.inl h) rfl zhg (znx (zas P) hI hok d) _ _ hv⟩
theorem zuw {P : Program} {n m : Nat} {σ σ' : St} {a r : AV} (h1 : za5 n a = true) (h2 : ztk n σ = true) (h3 : a = r) (h4 : zei n σ = σ') : z6o P n m σ a r σ' := fun X Y v hE hn hm hI hv => by
 subst h3 h4
 have htr := znw (M := none) (zas P) none (F := Fence.wide.inRound 0) (B := 0) (S := []) (a := { tmps := #[], defers := [] }) ⟨hE, hI, by unfold zlp; rw [za9], ⟨Nat.zero_le _, fun h => absurd h (zk5 0), fun _ => rfl⟩, trivial⟩ (Nat.le_of_eq hn) h2
 exact ⟨{ Y with κ := Y.κ.take n }, rfl, htr.ext, htr.inv, zn5 (X := Y) (Y := { Y with κ := Y.κ.take n }) (zas P) rfl rfl rfl rfl rfl a v h1 hv⟩
def aendS (P : Program) (fn : Func) (n m : Nat) (r : AV) (σ' : St) : AQ
 | .exit _, _, _ => False
 | _, S, σ => ∃ a, zbl P fn σ S = some a ∧ z6o P n m σ a r σ'
def zz0 (P : Program) (fn : Func) (n : Nat) : AQ
 | .exit _, _, _ => False
 | _, S, σ => (∃ a, zbl P fn σ S = some a) ∧ (σ.stop = true ∨ σ.out = n)
theorem zij {P : Program} (hmix : P.follows .mixedOrders = true) {f : FuncId} {fn : Func} {c : Code} {args : List AV} {σ : St} {Q : AQ} {X : Cx} {vs : List Value} {R : Ending → World → Prop} {M : Option Gen} (hG : zvd P X.w.heap.size M) (hf : P.funcs[f]? = some fn) (hb : fn.body = some c)
 {k0 : Nat} (hk0 : σ.boxes.length = k0) (h : awp (ITP P) P (zdb M) k0 c Q (zbq fn args) σ) (hI : Inv (ITP P) σ X) (hM : FrM M σ X) (hr : za9 (ITP P) X args vs)
 (hQ : ∀ e S σ' Y, Q e S σ' → Rel M X Y → Inv (ITP P) σ' Y → FrM M σ' Y → (e = .normal ∨ e = .ret) ∧ ∃ a, zbl P fn σ' S = some a ∧ ∀ v, Rep (ITP P) Y a v → R (.returned v) Y.w) : Calls P f vs.toArray X.w R := by
 refine (callsIn_wide (n := 3)).1 (callsIn_of_wp_marks hf hb trivial ?_ rfl)
 have hlen := zq hr
 have hreps : zlp (ITP P) X (zbq fn args) (vs.toArray ++ Array.replicate (fn.ntmps - vs.toArray.size) undef) := by
  unfold zlp zbq
  have e : (vs.toArray ++ Array.replicate (fn.ntmps - vs.toArray.size) undef).toList = vs ++ List.replicate (fn.ntmps - args.length) undef := by simp [hlen]
  rw [e]
  refine zbn hr (zes (by simp) fun i a v h1 h2 => ?_)
  have h1 := List.eq_of_mem_replicate (List.mem_of_getElem? h1)
  have h2 := List.eq_of_mem_replicate (List.mem_of_getElem? h2)
  subst h1 h2; rw [Rep]
 refine zvs hmix c (M := M) (B := X.w.heap.size) hG (zt8 P) k0 Q _ σ X X { tmps := vs.toArray ++ Array.replicate (fn.ntmps - vs.toArray.size) undef, defers := [] } _ (Nat.le_of_eq (hI.κlen.trans hk0)) ⟨Nat.le_refl _, σ, hI⟩ h
  ⟨Rel.of (Ext.refl X), hI, hreps, ⟨Nat.le_refl _, fun _ => ⟨Nat.le_refl _, [], rfl, List.nodup_nil, by simp⟩, fun h => absurd rfl h⟩, hM⟩ (.inl (.inl rfl)) ?_
 intro e S σ' Y a hq hn
 obtain ⟨_, Ds, d1, d2, d3⟩ := hn.marks.2.1 rfl
 have key : (e = .normal ∨ e = .ret) ∧ LeavesInM Fence.wide 3 P fn a.tmps R a.defers .returning Y.w := by
  obtain ⟨he, _⟩ := hQ e S σ' Y hq hn.ext hn.inv hn.frn
  refine ⟨he, ?_⟩
  rw [d1]
  refine zm9 (B := X.w.heap.size) Ds Y.w d2 d3 fun W' hT => ?_
  obtain ⟨k1, k2, k3, _, k5⟩ := zkl (N := fun _ => False) (Bm := X.w.heap.size) hG (Nat.le_refl _) (fun _ h => h.elim) hn.ext hn.inv hn.frn (zjn M Y) (Nat.le_refl _) (zi5 hn.inv (zjn M Y) hn.ext.size hT)
  obtain ⟨_, x, hx, hv⟩ := hQ e S σ' _ hq k1 k2 k3
  obtain ⟨v, r1, r2⟩ := zp5 (P := P) (fn := fn) hx (show zlp (ITP P) { Y with w := W' } S a.tmps from zbz (zas P) k5 _ _ hn.reps) k2
  exact ⟨v, r1, hv v r2⟩
 obtain ⟨he, hl⟩ := key
 rcases he with rfl | rfl <;> exact hl
theorem zh5 {P : Program} (hmix : P.follows .mixedOrders = true) {f : FuncId} {fn : Func} {c : Code} {args : List AV} {r : AV} (hf : P.funcs[f]? = some fn) (hb : fn.body = some c) (he : Ent P f)
    (h : awp (ITP P) P none 0 c (zte P fn r) (zbq fn args) St.empty) : Pure (ITP P) P f args r := by
  refine ⟨he, fun X vs hI hr => zij (M := none) hmix trivial hf hb (σ := St.empty) (k0 := 0) rfl h hI trivial hr ?_⟩
  intro e S σ' Y hq (hE : Ext X Y) hIY _
  have hκ : X.κ = [] := by have := hI.κlen; simpa [St.empty] using this
  have hl : X.lens = [] := hI.lens
  have hβ : X.β = [] := by have := hI.βlen; rw [hl] at this; simpa using this
  have fin : ∀ a, zbl P fn σ' S = some a → Ends P σ' a r → ∃ a, zbl P fn σ' S = some a ∧ ∀ v, Rep (ITP P) Y a v →
      ∃ v' X', Ending.returned v = .returned v' ∧ X'.w = Y.w ∧ Ext X X' ∧ Inv (ITP P) St.empty X' ∧ Rep (ITP P) X' r v' := fun a h1 h2 => by
    refine ⟨a, h1, fun v hv => ?_⟩
    obtain ⟨F', f1, f2, f3, f4⟩ := h2 Y v hIY hv
    refine ⟨v, ⟨F', [], [], [], Y.w, Y.O, Y.C⟩, rfl, rfl, ?_, ?_, f4⟩
    · exact { os := hE.os, tape := hE.tape, output := hE.output, size := hE.size, drawn := hE.drawn, F := fun b o h => f1 b o (hE.F b o h), cell := hE.cell
              κ := fun s b hs => by rw [hκ] at hs; simp at hs
              lens := fun s L hs => by rw [hl] at hs; simp at hs
              blk := fun s b hs => by rw [hκ] at hs; simp at hs
              szs := hE.szs
              frame := hE.frame
              κnew := fun b hb => by simp at hb
              βnew := fun r hr => by simp at hr
              O := hE.O
              C := hE.C
              Fnew := fun b o h => (f2 b o h).elim (hE.Fnew b o) fun hm => by
                rcases hE.κnew b hm with h | h
                · rw [hκ] at h; simp at h
                · exact .inr (.inl h) }
    · exact { lens := rfl, elems := rfl, κlen := rfl, κnd := fun s s' b h => by simp at h, box := fun s b t cs h => by simp at h, κF := fun s b t cs h => by simp at h, βlen := rfl, βnd := List.nodup_nil, βκ := fun r h => by simp at h
              row := fun s r L h => by simp at h
              Ok := fun b hb => by
                obtain ⟨k1, k2, k3, k4⟩ := hIY.Ok b hb
                exact ⟨k1, by simp, by simp, fun o hf => (f2 b o hf).elim (k4 o) fun hm => absurd hm k2⟩
              Fcell := f3
              gv := (zas P).gv _ _ _ _ f1 (fun _ _ _ => rfl) (Szs.refl _) hIY.gv }
  cases e with
  | normal => obtain ⟨a, h1, h2⟩ := hq; exact ⟨.inl rfl, fin a h1 h2⟩
  | ret => obtain ⟨a, h1, h2⟩ := hq; exact ⟨.inr rfl, fin a h1 h2⟩
  | exit id => exact hq.elim
theorem zy9 {P : Program} (hmix : P.follows .mixedOrders = true) {f : FuncId} {fn : Func} {c : Code} {args : List AV} {σ σ' : St} {r : AV} (hf : P.funcs[f]? = some fn) (hb : fn.body = some c) (he : Ent P f)
 (h : awp (ITP P) P none σ.boxes.length c (aendS P fn σ.boxes.length σ.lens.length r σ') (zbq fn args) σ) : Snd (ITP P) P f args σ r σ' := by
 refine ⟨he, fun X vs hI hr => zij (M := none) hmix trivial hf hb rfl h hI trivial hr ?_⟩
 intro e S σ1 Y hq (hE : Ext X Y) hIY _
 have hκn := hI.κlen
 have fin : ∀ a, zbl P fn σ1 S = some a → z6o P σ.boxes.length σ.lens.length σ1 a r σ' → ∃ a, zbl P fn σ1 S = some a ∧ ∀ v, Rep (ITP P) Y a v →
  ∃ v' X', Ending.returned v = .returned v' ∧ X'.w = Y.w ∧ Ext X X' ∧ Inv (ITP P) σ' X' ∧ Rep (ITP P) X' r v' := fun a h1 h2 => ⟨a, h1, fun v hv => by
  obtain ⟨X', k1, k2, k3, k4⟩ := h2 X Y v hE hκn (by rw [hI.lens]) hIY hv
  exact ⟨v, X', rfl, k1, k2, k3, k4⟩⟩
 cases e with
 | normal => obtain ⟨a, h1, h2⟩ := hq; exact ⟨.inl rfl, fin a h1 h2⟩
 | ret => obtain ⟨a, h1, h2⟩ := hq; exact ⟨.inr rfl, fin a h1 h2⟩
 | exit id => exact hq.elim
theorem z6t {P : Program} (hmix : P.follows .mixedOrders = true) {g : FuncId} {fn : Func} {c : Code} {caps : List AV} {lb : List Value} {rows : List (List AV)} {F0 : Nat → Nat → Prop} {w0 : World} {O C} (hf : P.funcs[g]? = some fn) (hb : fn.body = some c)
    (h : ∀ l, awp (ITP P) P (some (l, rows)) 0 c (zz0 P fn rows.length) (zbq fn (.yld l :: caps)) St.empty) (hr : za9 (ITP P) ⟨F0, [], [], [], w0, O, C⟩ caps lb) (hgv : (ITP P).gv F0 w0) : z67 P g lb.toArray rows (fun _ => False) F0 w0 := by
  intro l W J Jx s0 hc hz _ hG hF0 hO hC hJ
  have hI : Inv (ITP P) St.empty ⟨F0, [], [], [], W, s0.O, s0.C⟩ :=
    { lens := rfl, elems := rfl, κlen := rfl, κnd := fun s s' b h => by simp at h, box := fun s b t cs h => by simp at h, κF := fun s b t cs h => by simp at h, βlen := rfl, βnd := List.nodup_nil, βκ := fun r h => by simp at h
      row := fun s r L h => by simp at h
      Ok := fun b hb => ⟨hO b hb, by simp, by simp, fun o hf => (hF0 b o hf).resolve_left (fun h => h hb)⟩
      Fcell := fun b o hf => (hc b o hf).1
      gv := (zas P).gv _ _ _ _ (fun _ _ h => h) (fun b o hf => (hc b o hf).2) hz hgv }
  have hr' : za9 (ITP P) ⟨F0, [], [], [], W, s0.O, s0.C⟩ (.yld l :: caps) (.func (.yield l) #[] #[] :: lb) :=
    ⟨_, lb, rfl, rfl, zbz (X := ⟨F0, [], [], [], w0, O, C⟩) (X' := ⟨F0, [], [], [], W, s0.O, s0.C⟩) (zas P) ⟨fun _ _ h => h, fun b o hf => (hc b o hf).2, fun _ _ h => h, fun s L h => by simp at h, fun s b h => by simp at h, hz⟩ _ _ hr⟩
  have hFr : FrM (some ⟨W.heap.size, F0, l, rows, J, Jx, fun _ => False⟩) St.empty ⟨F0, [], [], [], W, s0.O, s0.C⟩ :=
    ⟨s0, fun _ => Iff.rfl, ⟨fun _ _ => Iff.rfl, fun b o hc => .inr ⟨hC b o hc, by simp, by simp⟩⟩, hJ, Nat.le_refl _, by simp, by simp, fun b o hf => .inl hf⟩
  have e : (#[.func (.yield l) #[] #[]] ++ lb.toArray : Array Value) = (Value.func (.yield l) #[] #[] :: lb).toArray := by simp
  rw [e]
  refine zij (M := some ⟨W.heap.size, F0, l, rows, J, Jx, fun _ => False⟩) (X := ⟨F0, [], [], [], W, s0.O, s0.C⟩) hmix ⟨hG, rfl⟩ hf hb (k0 := 0) rfl (h l) hI hFr hr' ?_
  intro e S σ' Y hq _ _ hF
  have fin : (∃ a, zbl P fn σ' S = some a) ∧ (σ'.stop = true ∨ σ'.out = rows.length) → ∃ a, zbl P fn σ' S = some a ∧ ∀ v, Rep (ITP P) Y a v → (∃ v', Ending.returned v = .returned v') ∧ ∃ s, (J rows.length s Y.w ∨ Jx s Y.w) := fun ⟨⟨a, h1⟩, h2⟩ => by
    obtain ⟨s, _, _, h3, _⟩ : Fr _ σ' Y := hF
    refine ⟨a, h1, fun v _ => ⟨⟨v, rfl⟩, s, ?_⟩⟩
    by_cases hst : σ'.stop = true
    · rw [if_pos hst] at h3; exact .inr h3
    · rw [if_neg hst, h2.resolve_left hst] at h3; exact .inl h3
  cases e with
  | normal => exact ⟨.inl rfl, fin hq⟩
  | ret => exact ⟨.inr rfl, fin hq⟩
  | exit id => exact hq.elim
theorem z5x {P : Program} (hmix : P.follows .mixedOrders = true) {g : FuncId} {fn : Func} {c : Code} {caps : List AV} {rows : List (List AV)} (hne : rows ≠ errRows) (hf : P.funcs[g]? = some fn) (hb : fn.body = some c) (he : Ent P g)
 (h : ∀ l, awp (ITP P) P (some (l, rows)) 0 c (zz0 P fn rows.length) (zbq fn (.yld l :: stripL caps)) St.empty) (hok : z7 0 caps = true) {X : Cx} {v : Value} (hgv : (ITP P).gv X.F X.w) (hv : Rep (ITP P) X (.clos g caps) v) : Rep (ITP P) X (.iter rows) v := by
 obtain ⟨vs, rfl, hr⟩ := hv
 exact .inr ⟨hne, g, vs.toArray, X.F, rfl, he, fun _ _ h => h, z6t hmix hf hb h (O := X.O) (C := X.C) (zcy (X := X) (Y := ⟨X.F, [], [], [], X.w, X.O, X.C⟩) (zas P) rfl rfl caps vs (.inl hok) hr) hgv⟩
theorem z1s {P : Program} (hmix : P.follows .mixedOrders = true) {σ : St} {a : AV} {g : FuncId} {fn : Func} {c : Code} {caps : List AV} {rows : List (List AV)} (hne : rows ≠ errRows) (h0 : Ends P σ a (.clos g caps)) (hf : P.funcs[g]? = some fn) (hb : fn.body = some c) (he : Ent P g)
 (h : ∀ l, awp (ITP P) P (some (l, rows)) 0 c (zz0 P fn rows.length) (zbq fn (.yld l :: stripL caps)) St.empty) (hok : z7 0 caps = true) : Ends P σ a (.iter rows) := fun Y v hI hv => by
 obtain ⟨F', f1, f2, f3, f4⟩ := h0 Y v hI hv
 exact ⟨F', f1, f2, f3, z5x hmix hne hf hb he h hok ((zas P).gv _ _ _ _ f1 (fun _ _ _ => rfl) (Szs.refl _) hI.gv) f4⟩
theorem zzi {P : Program} {σ : St} {a r : AV} (n : Nat) (h : zdu (frz σ.boxes n) a = r) : Ends P σ a r := fun Y v hI hv => by
 subst h
 refine ⟨zzq Y, fun _ _ h => .inl h, fun b o h => h.imp id And.left, fun b o h => ?_, zl9 (Y := ⟨zzq Y, [], [], [], Y.w, Y.O, Y.C⟩) (zas P) (fun b o h => Or.inl h) rfl (zv8 (zas P) hI n) a v hv⟩
 rcases h with h | ⟨_, h⟩
 ·exact hI.Fcell b o h
 ·exact h
end Go.Ab
set_option linter.unusedSimpArgs false
set_option linter.unusedVariables false
namespace Go.Ab
open Go Go.RowKit Go.Fwd
def quiet (o : Oper) : Bool :=
 match o.op with
 | .alloc _ | .box _ _ | .store _ _ _ => false
 | .call c => match c.callee with | .builtin .append => false | _ => true
 | _ => true
abbrev CallP := FuncId → List AV → Option AV
abbrev CallS := FuncId → List AV → St → Option (AV × St)
abbrev Run := Code → Nat → List AV → St → Option (AExit × List AV × St)
def zqm (P : Program) (cp : CallP) (cs : CallS) (o : Oper) (S : List AV) (σ : St) : Option (AV × St) :=
 match zc3 S o with
 | some (f, args) => if z7 0 args = true then (match cp f (stripL args) with | some r => some (r, σ) | none => none) else (match cs f args σ with | some (r, σ') => if σ'.out = σ.out ∧ σ'.stop = σ.stop then some (r, σ') else none | none => none)
 | none => match zdi S o with
  | some _ => none
  | none => match aop P (zcp S) σ o with
   | some r => some r
   | none => zp0 P (zcp S) σ o
def zoy (P : Program) (cp : CallP) (cs : CallS) (ops : Array Oper) : List Oper → List AV → St → Option (List AV × St)
 | [], S, σ => some (S, σ)
 | o :: l, S, σ => match o.guard with
  | none => match zqm P cp cs o S σ with
   | some (a, σ') => zoy P cp cs ops l (zn S o.dst a) σ'
   | none => none
  | some (k, b) => match zea ops S k with
   | some c => if c = some b then (match zqm P cp cs o S σ with
    | some (a, σ') => zoy P cp cs ops l (zn S o.dst a) σ'
    | none => none) else zoy P cp cs ops l (zn S o.dst (.raw undef)) σ
   | none => none
def zma (P : Program) (cp : CallP) (o : Oper) (S : List AV) (σ : St) : Option AV :=
 match zc3 S o with
 | some (f, args) => if z7 0 args = true then cp f (stripL args) else none
 | none => qop P (zcp S) σ o
def zm3 (P : Program) (cp : CallP) (ops : Array Oper) (size : Nat) (σ : St) : List Oper → List AV → Option (List AV)
 | [], S => some S
 | o :: l, S => if (o.dst.all fun d => decide (d < size)) = true then (match o.guard with
  | none => match zma P cp o S σ with
   | some a => zm3 P cp ops size σ l (zn S o.dst a)
   | none => none
  | some (k, b) => match zea ops S k with
   | some c => if c = some b then (match zma P cp o S σ with
    | some a => zm3 P cp ops size σ l (zn S o.dst a)
    | none => none) else zm3 P cp ops size σ l (zn S o.dst (.raw undef))
   | none => none) else none
def zin (P : Program) (cp : CallP) (ops : Array Oper) (size : Nat) (σ : St) : List Oper → List AV → Pend → Option (List AV × Pend)
 | [], S, ps => some (S, ps)
 | o :: l, S, ps => if (o.dst.all fun d => decide (d < size)) = true ∧ (ps.all fun p => o.dst != some p.1) = true then (match o.guard with
  | none => match zma P cp o S σ with
   | some a => zin P cp ops size σ l (zn S o.dst a) ps
   | none => match o.op, o.dst with
    | .alloc t, some d => match zhm P t with
     | some z => zin P cp ops size σ l (S.set d .top) (ps ++ [(d, t, z)])
     | none => none
    | _, _ => none
  | some (k, b) => match zea ops S k with
   | some c => if c = some b then (match zma P cp o S σ with
    | some a => zin P cp ops size σ l (zn S o.dst a) ps
    | none => none) else zin P cp ops size σ l (zn S o.dst (.raw undef)) ps
   | none => none) else none
def quietB (o : Oper) : Bool := match o.op with | .alloc _ => true | _ => quiet o
def findB (ops : Array Oper) (size : Nat) : Option Nat :=
 let n := (ops.toList.takeWhile quietB).length
 if chk ops size n = true then some n else none
def zpt (Ea : List AV → St → Option (AExit × List AV × St)) (Eb : List AV → St → Option (AExit × List AV × St)) (ps : Array Tmp) (S0 : List AV) (n : Nat) : List (List AV) → St → Option (AExit × List AV × St)
 | [], σ => some (.normal, S0, σ)
 | x :: xs, σ => match Ea (znf S0 ps x) σ with
  | some (.normal, S1, σ1) => (match Eb S1 σ1 with
   | some (e, S2, σ2) => if ztk n σ2 = true then (match e with
    | .normal => zpt Ea Eb ps S0 n xs (zei n σ2)
    | e => some (e, S0, zei n σ2)) else none
   | none => none)
  | _ => none
def zjs (P : Program) (Ω : CallP) (E : Run) (f : FuncId) (args : List AV) : Option AV :=
 match Ω f args with
 | some r => some r
 | none => match P.funcs[f]? with
  | some fn => match fn.body with
   | some c => if (zbq fn args).length = fn.ntmps then (match E c fn.ntmps (zbq fn args) St.empty with
    | some (.exit _, _, _) => none
    | some (_, S, σ) => match zbl P fn σ S with
     | some a => if za5 0 a = true then some (zb7 a) else none
     | none => none
    | none => none) else none
   | none => none
  | none => none
def zou (P : Program) (Ψ : CallS) (E : Run) (f : FuncId) (args : List AV) (σ : St) : Option (AV × St) :=
 match Ψ f args σ with
 | some r => some r
 | none => match P.funcs[f]? with
 | some fn => match fn.body with
  | some c => if (zbq fn args).length = fn.ntmps then (match E c fn.ntmps (zbq fn args) σ with
   | some (.exit _, _, _) => none
   | some (_, S, σ1) => match zbl P fn σ1 S with
    | some a => if za5 σ.boxes.length a = true ∧ ztk σ.boxes.length σ1 = true then some (a, zei σ.boxes.length σ1) else none
    | none => none
   | none => none) else none
  | none => none
 | none => none
def z7n (P : Program) (cp : CallP) (cs : CallS) (ops : Array Oper) (sz : Nat) (S : List AV) (σ : St) (n : Nat) : Option (List AV × St) :=
 if chk ops sz n = true then (match zm3 P cp ops sz σ (ops.toList.take n) S with
  | some S1 => zoy P cp cs ops (ops.toList.drop n) S1 σ
  | none => none) else none
def z2b (P : Program) (cp : CallP) (cs : CallS) (ops : Array Oper) (sz : Nat) (S : List AV) (σ : St) : Option (List AV × St) :=
 (List.range ((ops.toList.takeWhile quiet).length + 1)).reverse.findSome? (z7n P cp cs ops sz S σ)
def zu1 (P : Program) (cp : CallP) (cs : CallS) (ops : Array Oper) (r : List AV × St) : Nat → Array Bool → List AV → St → Bool
 | 0, listed, S, σ => (Region.ready .any ops listed).isEmpty && zlh S r.1 && eqSt σ r.2
 | k + 1, listed, S, σ => (!(Region.ready .any ops listed).isEmpty || (zlh S r.1 && eqSt σ r.2)) && (Region.ready .any ops listed).all fun i =>
  match ops[i]? with
  | none => zu1 P cp cs ops r k (listed.setIfInBounds i true) S σ
  | some o => match o.guard with
   | none => (match zqm P cp cs o S σ with
    | some (a, σ') => zu1 P cp cs ops r k (listed.setIfInBounds i true) (zn S o.dst a) σ'
    | none => false)
   | some (j, b) => (match zea ops S j with
    | some c => if c = some b then (match zqm P cp cs o S σ with
     | some (a, σ') => zu1 P cp cs ops r k (listed.setIfInBounds i true) (zn S o.dst a) σ'
     | none => false) else zu1 P cp cs ops r k (listed.setIfInBounds i true) (zn S o.dst (.raw undef)) σ
    | none => false)
def ev (P : Program) (Ω : CallP) (Ψ : CallS) : Nat → Run
 | 0, _, _, _, _ => none
 | k + 1, c, sz, S, σ => match c with
  | .skip => some (.normal, S, σ)
  | .seq x y => match ev P Ω Ψ k x sz S σ with
   | some (.normal, S1, σ1) => ev P Ω Ψ k y sz S1 σ1
   | r => r
  | .cond c x y => match zcp S c with
   | .raw (.bool t) => if t = true then ev P Ω Ψ k x sz S σ else ev P Ω Ψ k y sz S σ
   | _ => none
  | .block id x => match ev P Ω Ψ k x sz S σ with
   | some (.exit j, S1, σ1) => if j = id then some (.normal, S1, σ1) else some (.exit j, S1, σ1)
   | r => r
  | .exit id => some (.exit id, S, σ)
  | .label _ => some (.normal, S, σ)
  | .scope x => ev P Ω Ψ k x sz S σ
  | .ret => some (.ret, S, σ)
  | .loop x => match ev P Ω Ψ k x sz S σ with
   | some (.normal, S1, σ1) => ev P Ω Ψ k (.loop x) sz S1 σ1
   | r => r
  | .region _ ops false => match zoy P (zjs P Ω (ev P Ω Ψ k)) (zou P Ψ (ev P Ω Ψ k)) ops ops.toList S σ with
   | some (S1, σ1) => some (.normal, S1, σ1)
   | none => none
  | .region _ ops true => if zlz ops.toList = true then (match z2b P (zjs P Ω (ev P Ω Ψ k)) (zou P Ψ (ev P Ω Ψ k)) ops sz S σ with
   | some (S2, σ2) => some (.normal, S2, σ2)
   | none => match findB ops sz with
    | some n => (match zin P (zjs P Ω (ev P Ω Ψ k)) ops sz σ (ops.toList.take n) S [] with
     | some (S1, ps) => match zoy P (zjs P Ω (ev P Ω Ψ k)) (zou P Ψ (ev P Ω Ψ k)) ops (ops.toList.drop n) (zsx σ.boxes.length ps S1) (zsf σ ps) with
      | some (S2, σ2) => some (.normal, S2, σ2)
      | none => none
     | none => none)
    | none => match zoy P (zjs P Ω (ev P Ω Ψ k)) (zou P Ψ (ev P Ω Ψ k)) ops ops.toList S σ with
     | some r => if zu1 P (zjs P Ω (ev P Ω Ψ k)) (zou P Ψ (ev P Ω Ψ k)) ops r ops.size (Array.replicate ops.size false) S σ = true then some (.normal, r.1, r.2) else none
     | none => none) else none
  | .rangeFunc f ps asg body => match zcp S f with
   | .iter xs => if Nat.ble ps.size 8 = true ∧ (xs.all fun x => decide (x.length = ps.size)) = true ∧ zdf asg = true then zpt (ev P Ω Ψ k asg sz) (ev P Ω Ψ k body sz) ps S σ.boxes.length xs σ else none
   | _ => none
  | _ => none
end Go.Ab
