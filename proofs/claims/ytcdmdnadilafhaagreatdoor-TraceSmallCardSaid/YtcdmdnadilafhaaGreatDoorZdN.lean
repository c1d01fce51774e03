/-
  The abstract machine, run.
-/
import Derived.Test.YtcdmdnadilafhaaGreatDoorZdL
set_option linter.unusedSimpArgs false
set_option linter.unusedVariables false
namespace Go.Ab
open Go Go.RowKit Go.Fwd
def z0v (P : Program) (σ : St) (S : List AV) : ResultVar → Option AV
 | .tmp t => some ((S[t]?).getD (.raw undef))
 | .cell t ty => zti P σ ty ((S[t]?).getD (.raw undef))
def zvy (P : Program) (σ : St) (S : List AV) : List ResultVar → Option (List AV)
 | [] => some []
 | x :: l => match z0v P σ S x, zvy P σ S l with | some a, some r => some (a :: r) | _, _ => none
def zbl (P : Program) (fn : Func) (σ : St) (S : List AV) : Option AV :=
 match zvy P σ S fn.results.toList with
 | some [a] => some a
 | some l => some (.tup l)
 | none => none
theorem zsx {IT : IterP} {P : Program} {X : Cx} {σ : St} {S : List AV} {tmps : Array Value} {x : ResultVar} {a : AV} (h : z0v P σ S x = some a) (hr : zjx IT X S tmps) (hI : Inv IT σ X) :
 ∃ v, ((match x with | .tmp t => pure (tmps.getD t undef) | .cell a t => do loadVar t (← asAddr (tmps.getD a undef))) : Sem Value).run P X.w = .ok v X.w ∧ Rep IT X a v := by
 have hev : ∀ t, Rep IT X ((S[t]?).getD (.raw undef)) (tmps.getD t undef) := fun t => zgc (a := { tmps := tmps, defers := [] }) hr (.tmp t)
 cases x with
 | tmp t =>
  simp only [z0v, Option.some.injEq] at h; subst h
  exact ⟨_, rfl, hev t⟩
 | cell t ty =>
  simp only [z0v] at h
  obtain ⟨v, h1, h2⟩ := znt (P := P) h (hev t) hI
  refine ⟨v, ?_, h2⟩
  have hp : ∃ ad, tmps.getD t undef = .pointer (some ad) := by
   have := hev t
   generalize (S[t]?).getD (.raw undef) = y at h this
   cases y with
   | ptr s off => rw [Rep] at this; obtain ⟨b, _, e⟩ := this; exact ⟨_, e⟩
   | iptr cs => rw [Rep] at this; obtain ⟨b, o, e, _⟩ := this; exact ⟨_, e⟩
   | _ => cases h
  obtain ⟨ad, e⟩ := hp
  rw [e] at h1
  simp only [Instr.loadAt, Instr.sureAddr, Sem.run_bind, Sem.run_pure, Result.andThen_ok] at h1
  simp only [e, asAddr, Sem.run_bind, Sem.run_pure, Result.andThen_ok, h1]
theorem zni {IT : IterP} {P : Program} {X : Cx} {σ : St} {S : List AV} {tmps : Array Value} (hr : zjx IT X S tmps) (hI : Inv IT σ X) : ∀ (l : List ResultVar) (r : List AV), zvy P σ S l = some r →
 ∃ vs, (l.mapM fun x => ((match x with | .tmp t => pure (tmps.getD t undef) | .cell a t => do loadVar t (← asAddr (tmps.getD a undef))) : Sem Value)).run P X.w = .ok vs X.w ∧ za9 IT X r vs
 | [], r, h => by simp [zvy] at h; subst h; exact ⟨[], by simp, by rw [za9]⟩
 | x :: l, r, h => by
  simp only [zvy] at h
  split at h <;> cases h
  rename_i a r' h1 h2
  obtain ⟨v, e1, e2⟩ := zsx h1 hr hI
  obtain ⟨vs, k1, k2⟩ := zni hr hI l r' h2
  refine ⟨v :: vs, ?_, by rw [za9]; exact ⟨v, vs, rfl, e2, k2⟩⟩
  rw [List.mapM_cons]
  simp only [Sem.run_bind, e1, Result.andThen_ok, k1, Sem.run_pure]
theorem zoa {IT : IterP} {P : Program} {X : Cx} {σ : St} {S : List AV} {fn : Func} {tmps : Array Value} {a : AV} (h : zbl P fn σ S = some a) (hr : zjx IT X S tmps) (hI : Inv IT σ X) :
 ∃ v, (results fn tmps).run P X.w = .ok v X.w ∧ Rep IT X a v := by
 unfold zbl at h
 have run : ∀ r, zvy P σ S fn.results.toList = some r → ∃ vs, (results fn tmps).run P X.w = .ok (if h : vs.length = 1 then vs[0] else .tuple vs.toArray) X.w ∧ za9 IT X r vs := fun r hr' => by
  obtain ⟨vs, k1, k2⟩ := zni hr hI _ r hr'
  refine ⟨vs, ?_, k2⟩
  unfold results
  rw [Array.mapM_eq_mapM_toList]
  simp only [Sem.run_bind, Sem.run_map, Sem.run_pure]
  exact congrArg (fun r : Result (List Value) => (r.andThen (fun a w' => Result.ok a.toArray w')).andThen fun a w' => Result.ok (if h : a.size = 1 then a[0] else Value.tuple a) w') k1
 split at h
 ·rename_i b hl
  cases h
  obtain ⟨vs, k1, k2⟩ := run _ hl
  rw [za9] at k2
  obtain ⟨v, r, rfl, k3, k4⟩ := k2
  rw [za9] at k4; subst k4
  exact ⟨v, by simpa using k1, k3⟩
 ·rename_i l hne hl
  cases h
  obtain ⟨vs, k1, k2⟩ := run _ hl
  have hlen := zu k2
  refine ⟨.tuple vs.toArray, ?_, by rw [Rep]; exact ⟨vs, rfl, k2⟩⟩
  rw [k1, dif_neg]
  intro h1
  obtain ⟨x, rfl⟩ := List.length_eq_one_iff.1 (hlen.trans h1)
  exact hne x rfl
 ·cases h
theorem zk4 {F : Fence} {n : Nat} {P : Program} {fn : Func} {tmps : Array Value} {R : Ending → World → Prop} {B : Nat} : ∀ (Ds : List Nat) (w : World), Ds.Nodup → (∀ D ∈ Ds, B ≤ D ∧ w.heap[D]? = some (.deferred (some []))) →
 (∀ W', Turn B w W' → ∃ v, (results fn tmps).run P W' = .ok v W' ∧ R (.returned v) W') → LeavesInM F n P fn tmps R (Ds.map fun D => { target := .collected D, args := #[] }) .returning w
 | [], w, _, _, h => by
  obtain ⟨v, h1, h2⟩ := h w ⟨rfl, rfl, rfl, Nat.le_refl _, Nat.le_refl _, fun _ _ h _ => h⟩
  exact ⟨_, h1, h2⟩
 | D :: Ds, w, hnd, hD, h => by
  rw [List.nodup_cons] at hnd
  obtain ⟨hB, hd⟩ := hD D (by simp)
  have hT := Turn.putObj (B := B) (.deferred none) hB hd rfl
  refine ⟨by simp, .inl ⟨D, _, rfl, run_takeDeferred hd, ?_⟩⟩
  refine zk4 Ds _ hnd.2 (fun D' h' => ⟨(hD D' (by simp [h'])).1, ?_⟩) fun W' hT' => h W' ?_
  ·exact (World.putObj_heap_other (by intro e; subst e; exact hnd.1 h')).trans (hD D' (by simp [h'])).2
  ·exact ⟨hT'.os.trans hT.os, hT'.tape.trans hT.tape, hT'.output.trans hT.output, Nat.le_trans hT.size hT'.size, Nat.le_trans hT.drawn hT'.drawn, fun k o hk hc => hT'.same k o (hT.same k o hk hc) hc⟩
def zdb (fn : Func) (args : List AV) : List AV := args ++ List.replicate (fn.ntmps - args.length) (.raw undef)
def Ends (P : Program) (σ : St) (a r : AV) : Prop := ∀ (Y : Cx) (v : Value), Inv (ITP P) σ Y → Rep (ITP P) Y a v → ∃ F' : Nat → Nat → Prop, (∀ b o, Y.F b o → F' b o) ∧ (∀ b o, F' b o → Y.F b o ∨ b ∈ Y.κ) ∧
 (∀ b o, F' b o → ∃ v, Y.w.cell? ⟨b, o, none⟩ = some v) ∧ Rep (ITP P) ⟨F', [], [], [], Y.w, Y.O, Y.C⟩ r v
theorem zo2 {P : Program} {σ : St} {a r : AV} (h1 : za4 0 a = true) (h2 : zcn a = r) : Ends P σ a r := fun Y v hI hv => by
 subst h2
 exact ⟨Y.F, fun _ _ h => h, fun _ _ h => .inl h, hI.Fcell, zfx (X := Y) (Y := ⟨Y.F, [], [], [], Y.w, Y.O, Y.C⟩) (za5 P) rfl rfl a v (.inl h1) hv⟩
def zpw (P : Program) (fn : Func) (r : AV) : AQ
 | .exit _, _, _ => False
 | _, S, σ => ∃ a, zbl P fn σ S = some a ∧ Ends P σ a r
def zyr (P : Program) (n m : Nat) (σ : St) (a r : AV) (σ' : St) : Prop := ∀ (X Y : Cx) (v : Value), Ext X Y → X.κ.length = n → X.lens.length = m → Inv (ITP P) σ Y → Rep (ITP P) Y a v → ∃ X', X'.w = Y.w ∧ Ext X X' ∧ Inv (ITP P) σ' X' ∧ Rep (ITP P) X' r v
theorem zxo {P : Program} {n m : Nat} {σ σ' : St} {a r : AV} (fs js : List Nat) (d : Nat) (hok : zdg σ n js = true) (hr : zjy m (kz σ.boxes m n fs js d) a = r) (hσ : zg4 σ m n fs js d = σ') : zyr P n m σ a r σ' := fun X Y v hE hn hm hI hv => by
 subst hr hσ
 exact ⟨zck σ m n fs js Y, rfl, zp0 hE hI hok (by omega) (by omega), zqa (za5 P) hI hok d, zi7 (X := Y) (Y := zck σ m n fs js Y) (za5 P) (fun b o h => Or.inl h) rfl zf0 (zl7 (za5 P) hI hok d) _ _ hv⟩
theorem zxf {P : Program} {n m : Nat} {σ σ' : St} {a r : AV} (h1 : za4 n a = true) (h2 : zwz n σ = true) (h3 : a = r) (h4 : ze9 n σ = σ') : zyr P n m σ a r σ' := fun X Y v hE hn hm hI hv => by
 subst h3 h4
 have htr := zmc (M := none) (za5 P) none (F := Fence.wide.inRound 0) (B := 0) (S := []) (a := { tmps := #[], defers := [] }) ⟨hE, hI, by unfold zjx; rw [za9], ⟨Nat.zero_le _, fun h => absurd h (zje 0), fun _ => rfl⟩, trivial⟩ (Nat.le_of_eq hn) h2
 exact ⟨{ Y with κ := Y.κ.take n }, rfl, htr.ext, htr.inv, zlx (X := Y) (Y := { Y with κ := Y.κ.take n }) (za5 P) rfl rfl rfl rfl rfl a v h1 hv⟩
def aendS (P : Program) (fn : Func) (n m : Nat) (r : AV) (σ' : St) : AQ
 | .exit _, _, _ => False
 | _, S, σ => ∃ a, zbl P fn σ S = some a ∧ zyr P n m σ a r σ'
theorem zlg {P : Program} (hmix : P.follows .mixedOrders = true) {f : FuncId} {fn : Func} {c : Code} {args : List AV} {σ : St} {Q : AQ} {X : Cx} {vs : List Value} {R : Ending → World → Prop} {M : Option Gen} (hG : zrx P X.w.heap.size M) (hf : P.funcs[f]? = some fn) (hb : fn.body = some c)
 {k0 : Nat} (hk0 : σ.boxes.length = k0) (h : awp (ITP P) P (zcm M) k0 c Q (zdb fn args) σ) (hI : Inv (ITP P) σ X) (hM : FrM M σ X) (hr : za9 (ITP P) X args vs)
 (hQ : ∀ e S σ' Y, Q e S σ' → Rel M X Y → Inv (ITP P) σ' Y → FrM M σ' Y → (e = .normal ∨ e = .ret) ∧ ∃ a, zbl P fn σ' S = some a ∧ ∀ v, Rep (ITP P) Y a v → R (.returned v) Y.w) : Calls P f vs.toArray X.w R := by
 refine (callsIn_wide (n := 3)).1 (callsIn_of_wp_marks hf hb trivial ?_ rfl)
 have hlen := zu hr
 have hreps : zjx (ITP P) X (zdb fn args) (vs.toArray ++ Array.replicate (fn.ntmps - vs.toArray.size) undef) := by
  unfold zjx zdb
  have e : (vs.toArray ++ Array.replicate (fn.ntmps - vs.toArray.size) undef).toList = vs ++ List.replicate (fn.ntmps - args.length) undef := by simp [hlen]
  rw [e]
  refine zbj hr (zdk (by simp) fun i a v h1 h2 => ?_)
  have h1 := List.eq_of_mem_replicate (List.mem_of_getElem? h1)
  have h2 := List.eq_of_mem_replicate (List.mem_of_getElem? h2)
  subst h1 h2; rw [Rep]
 refine zst hmix c (M := M) (B := X.w.heap.size) hG (zrn P) k0 Q _ σ X X { tmps := vs.toArray ++ Array.replicate (fn.ntmps - vs.toArray.size) undef, defers := [] } _ (Nat.le_of_eq (hI.κlen.trans hk0)) ⟨Nat.le_refl _, σ, hI⟩ h
  ⟨Rel.of (Ext.refl X), hI, hreps, ⟨Nat.le_refl _, fun _ => ⟨Nat.le_refl _, [], rfl, List.nodup_nil, by simp⟩, fun h => absurd rfl h⟩, hM⟩ (.inl (.inl rfl)) ?_
 intro e S σ' Y a hq hn
 obtain ⟨_, Ds, d1, d2, d3⟩ := hn.marks.2.1 rfl
 have key : (e = .normal ∨ e = .ret) ∧ LeavesInM Fence.wide 3 P fn a.tmps R a.defers .returning Y.w := by
  obtain ⟨he, _⟩ := hQ e S σ' Y hq hn.ext hn.inv hn.frn
  refine ⟨he, ?_⟩
  rw [d1]
  refine zk4 (B := X.w.heap.size) Ds Y.w d2 d3 fun W' hT => ?_
  obtain ⟨k1, k2, k3, _, k5⟩ := zju (N := fun _ => False) (Bm := X.w.heap.size) hG (Nat.le_refl _) (fun _ h => h.elim) hn.ext hn.inv hn.frn (zh2 M Y) (Nat.le_refl _) (zhl hn.inv (zh2 M Y) hn.ext.size hT)
  obtain ⟨_, x, hx, hv⟩ := hQ e S σ' _ hq k1 k2 k3
  obtain ⟨v, r1, r2⟩ := zoa (P := P) (fn := fn) hx (show zjx (ITP P) { Y with w := W' } S a.tmps from zbp (za5 P) k5 _ _ hn.reps) k2
  exact ⟨v, r1, hv v r2⟩
 obtain ⟨he, hl⟩ := key
 rcases he with rfl | rfl <;> exact hl
theorem zt1 {P : Program} (hmix : P.follows .mixedOrders = true) {f : FuncId} {fn : Func} {c : Code} {args : List AV} {r : AV} (hf : P.funcs[f]? = some fn) (hb : fn.body = some c) (he : Ent P f)
    (h : awp (ITP P) P none 0 c (zpw P fn r) (zdb fn args) St.empty) : Pure (ITP P) P f args r := by
  refine ⟨he, fun X vs hI hr => zlg (M := none) hmix trivial hf hb (σ := St.empty) (k0 := 0) rfl h hI trivial hr ?_⟩
  intro e S σ' Y hq (hE : Ext X Y) hIY _
  have hκ : X.κ = [] := by have := hI.κlen; simpa [St.empty] using this
  have hl : X.lens = [] := hI.lens
  have hβ : X.β = [] := by have := hI.βlen; rw [hl] at this; simpa using this
  have fin : ∀ a, zbl P fn σ' S = some a → Ends P σ' a r → ∃ a, zbl P fn σ' S = some a ∧ ∀ v, Rep (ITP P) Y a v →
      ∃ v' X', Ending.returned v = .returned v' ∧ X'.w = Y.w ∧ Ext X X' ∧ Inv (ITP P) St.empty X' ∧ Rep (ITP P) X' r v' := fun a h1 h2 => by
    refine ⟨a, h1, fun v hv => ?_⟩
    obtain ⟨F', f1, f2, f3, f4⟩ := h2 Y v hIY hv
    refine ⟨v, ⟨F', [], [], [], Y.w, Y.O, Y.C⟩, rfl, rfl, ?_, ?_, f4⟩
    · exact { os := hE.os, tape := hE.tape, output := hE.output, size := hE.size, drawn := hE.drawn, F := fun b o h => f1 b o (hE.F b o h), cell := hE.cell
              κ := fun s b hs => by rw [hκ] at hs; simp at hs
              lens := fun s L hs => by rw [hl] at hs; simp at hs
              blk := fun s b hs => by rw [hκ] at hs; simp at hs
              szs := hE.szs
              frame := hE.frame
              κnew := fun b hb => by simp at hb
              βnew := fun r hr => by simp at hr
              O := hE.O
              C := hE.C
              Fnew := fun b o h => (f2 b o h).elim (hE.Fnew b o) fun hm => by
                rcases hE.κnew b hm with h | h
                · rw [hκ] at h; simp at h
                · exact .inr (.inl h) }
    · exact { lens := rfl, elems := rfl, κlen := rfl, κnd := fun s s' b h => by simp at h, box := fun s b t cs h => by simp at h, κF := fun s b t cs h => by simp at h, βlen := rfl, βnd := List.nodup_nil, βκ := fun r h => by simp at h
              row := fun s r L h => by simp at h
              Ok := fun b hb => by
                obtain ⟨k1, k2, k3, k4⟩ := hIY.Ok b hb
                exact ⟨k1, by simp, by simp, fun o hf => (f2 b o hf).elim (k4 o) fun hm => absurd hm k2⟩
              Fcell := f3
              gv := (za5 P).gv _ _ _ _ f1 (fun _ _ _ => rfl) (Szs.refl _) hIY.gv }
  cases e with
  | normal => obtain ⟨a, h1, h2⟩ := hq; exact ⟨.inl rfl, fin a h1 h2⟩
  | ret => obtain ⟨a, h1, h2⟩ := hq; exact ⟨.inr rfl, fin a h1 h2⟩
  | exit id => exact hq.elim
theorem zut {P : Program} (hmix : P.follows .mixedOrders = true) {f : FuncId} {fn : Func} {c : Code} {args : List AV} {σ σ' : St} {r : AV} (hf : P.funcs[f]? = some fn) (hb : fn.body = some c) (he : Ent P f)
 (h : awp (ITP P) P none σ.boxes.length c (aendS P fn σ.boxes.length σ.lens.length r σ') (zdb fn args) σ) : Snd (ITP P) P f args σ r σ' := by
 refine ⟨he, fun X vs hI hr => zlg (M := none) hmix trivial hf hb rfl h hI trivial hr ?_⟩
 intro e S σ1 Y hq (hE : Ext X Y) hIY _
 have hκn := hI.κlen
 have fin : ∀ a, zbl P fn σ1 S = some a → zyr P σ.boxes.length σ.lens.length σ1 a r σ' → ∃ a, zbl P fn σ1 S = some a ∧ ∀ v, Rep (ITP P) Y a v →
  ∃ v' X', Ending.returned v = .returned v' ∧ X'.w = Y.w ∧ Ext X X' ∧ Inv (ITP P) σ' X' ∧ Rep (ITP P) X' r v' := fun a h1 h2 => ⟨a, h1, fun v hv => by
  obtain ⟨X', k1, k2, k3, k4⟩ := h2 X Y v hE hκn (by rw [hI.lens]) hIY hv
  exact ⟨v, X', rfl, k1, k2, k3, k4⟩⟩
 cases e with
 | normal => obtain ⟨a, h1, h2⟩ := hq; exact ⟨.inl rfl, fin a h1 h2⟩
 | ret => obtain ⟨a, h1, h2⟩ := hq; exact ⟨.inr rfl, fin a h1 h2⟩
 | exit id => exact hq.elim
theorem zz8 {P : Program} {σ : St} {a r : AV} (n : Nat) (h : zdh (frz σ.boxes n) a = r) : Ends P σ a r := fun Y v hI hv => by
 subst h
 refine ⟨zvm Y, fun _ _ h => .inl h, fun b o h => h.imp id And.left, fun b o h => ?_, zkw (Y := ⟨zvm Y, [], [], [], Y.w, Y.O, Y.C⟩) (za5 P) (fun b o h => Or.inl h) rfl (zs6 (za5 P) hI n) a v hv⟩
 rcases h with h | ⟨_, h⟩
 ·exact hI.Fcell b o h
 ·exact h
end Go.Ab
set_option linter.unusedSimpArgs false
set_option linter.unusedVariables false
namespace Go.Ab
open Go Go.RowKit Go.Fwd
def quiet (o : Oper) : Bool :=
 match o.op with
 | .alloc _ | .box _ _ | .store _ _ _ => false
 | .call c => match c.callee with | .builtin .append => false | _ => true
 | _ => true
abbrev CallP := FuncId → List AV → Option AV
abbrev CallS := FuncId → List AV → St → Option (AV × St)
abbrev Run := Code → Nat → List AV → St → Option (AExit × List AV × St)
def zoo (P : Program) (cp : CallP) (cs : CallS) (o : Oper) (S : List AV) (σ : St) : Option (AV × St) :=
 match zci S o with
 | some (f, args) => if zx 0 args = true then (match cp f (stripL args) with | some r => some (r, σ) | none => none) else (match cs f args σ with | some (r, σ') => if σ'.out = σ.out ∧ σ'.stop = σ.stop then some (r, σ') else none | none => none)
 | none => match zcv S o with
  | some _ => none
  | none => match aop P (zbz S) σ o with
   | some r => some r
   | none => zob P (zbz S) σ o
def zn2 (P : Program) (cp : CallP) (cs : CallS) (ops : Array Oper) : List Oper → List AV → St → Option (List AV × St)
 | [], S, σ => some (S, σ)
 | o :: l, S, σ => match o.guard with
  | none => match zoo P cp cs o S σ with
   | some (a, σ') => zn2 P cp cs ops l (z6 S o.dst a) σ'
   | none => none
  | some (k, b) => match zc4 ops S k with
   | some c => if c = some b then (match zoo P cp cs o S σ with
    | some (a, σ') => zn2 P cp cs ops l (z6 S o.dst a) σ'
    | none => none) else zn2 P cp cs ops l (z6 S o.dst (.raw undef)) σ
   | none => none
def zkg (P : Program) (cp : CallP) (o : Oper) (S : List AV) (σ : St) : Option AV :=
 match zci S o with
 | some (f, args) => if zx 0 args = true then cp f (stripL args) else none
 | none => qop P (zbz S) σ o
def zkz (P : Program) (cp : CallP) (ops : Array Oper) (size : Nat) (σ : St) : List Oper → List AV → Option (List AV)
 | [], S => some S
 | o :: l, S => if (o.dst.all fun d => decide (d < size)) = true then (match o.guard with
  | none => match zkg P cp o S σ with
   | some a => zkz P cp ops size σ l (z6 S o.dst a)
   | none => none
  | some (k, b) => match zc4 ops S k with
   | some c => if c = some b then (match zkg P cp o S σ with
    | some a => zkz P cp ops size σ l (z6 S o.dst a)
    | none => none) else zkz P cp ops size σ l (z6 S o.dst (.raw undef))
   | none => none) else none
def zg9 (P : Program) (cp : CallP) (ops : Array Oper) (size : Nat) (σ : St) : List Oper → List AV → Pend → Option (List AV × Pend)
 | [], S, ps => some (S, ps)
 | o :: l, S, ps => if (o.dst.all fun d => decide (d < size)) = true ∧ (ps.all fun p => o.dst != some p.1) = true then (match o.guard with
  | none => match zkg P cp o S σ with
   | some a => zg9 P cp ops size σ l (z6 S o.dst a) ps
   | none => match o.op, o.dst with
    | .alloc t, some d => match zgm P t with
     | some z => zg9 P cp ops size σ l (S.set d .top) (ps ++ [(d, t, z)])
     | none => none
    | _, _ => none
  | some (k, b) => match zc4 ops S k with
   | some c => if c = some b then (match zkg P cp o S σ with
    | some a => zg9 P cp ops size σ l (z6 S o.dst a) ps
    | none => none) else zg9 P cp ops size σ l (z6 S o.dst (.raw undef)) ps
   | none => none) else none
def quietB (o : Oper) : Bool := match o.op with | .alloc _ => true | _ => quiet o
def findB (ops : Array Oper) (size : Nat) : Option Nat :=
 let n := (ops.toList.takeWhile quietB).length
 if chk ops size n = true then some n else none
def zm6 (Ea : List AV → St → Option (AExit × List AV × St)) (Eb : List AV → St → Option (AExit × List AV × St)) (ps : Array Tmp) (S0 : List AV) (n : Nat) : List (List AV) → St → Option (AExit × List AV × St)
 | [], σ => some (.normal, S0, σ)
 | x :: xs, σ => match Ea (zvp S0 ps x) σ with
  | some (.normal, S1, σ1) => (match Eb S1 σ1 with
   | some (e, S2, σ2) => if zwz n σ2 = true then (match e with
    | .normal => zm6 Ea Eb ps S0 n xs (ze9 n σ2)
    | e => some (e, S0, ze9 n σ2)) else none
   | none => none)
  | _ => none
def zgx (P : Program) (Ω : CallP) (E : Run) (f : FuncId) (args : List AV) : Option AV :=
 match Ω f args with
 | some r => some r
 | none => match P.funcs[f]? with
  | some fn => match fn.body with
   | some c => if (zdb fn args).length = fn.ntmps then (match E c fn.ntmps (zdb fn args) St.empty with
    | some (.exit _, _, _) => none
    | some (_, S, σ) => match zbl P fn σ S with
     | some a => if za4 0 a = true then some (zcn a) else none
     | none => none
    | none => none) else none
   | none => none
  | none => none
def znd (P : Program) (Ψ : CallS) (E : Run) (f : FuncId) (args : List AV) (σ : St) : Option (AV × St) :=
 match Ψ f args σ with
 | some r => some r
 | none => match P.funcs[f]? with
 | some fn => match fn.body with
  | some c => if (zdb fn args).length = fn.ntmps then (match E c fn.ntmps (zdb fn args) σ with
   | some (.exit _, _, _) => none
   | some (_, S, σ1) => match zbl P fn σ1 S with
    | some a => if za4 σ.boxes.length a = true ∧ zwz σ.boxes.length σ1 = true then some (a, ze9 σ.boxes.length σ1) else none
    | none => none
   | none => none) else none
  | none => none
 | none => none
def z2b (P : Program) (cp : CallP) (cs : CallS) (ops : Array Oper) (sz : Nat) (S : List AV) (σ : St) (n : Nat) : Option (List AV × St) :=
 if chk ops sz n = true then (match zkz P cp ops sz σ (ops.toList.take n) S with
  | some S1 => zn2 P cp cs ops (ops.toList.drop n) S1 σ
  | none => none) else none
def zzd (P : Program) (cp : CallP) (cs : CallS) (ops : Array Oper) (sz : Nat) (S : List AV) (σ : St) : Option (List AV × St) :=
 (List.range ((ops.toList.takeWhile quiet).length + 1)).reverse.findSome? (z2b P cp cs ops sz S σ)
def zsa (P : Program) (cp : CallP) (cs : CallS) (ops : Array Oper) (r : List AV × St) : Nat → Array Bool → List AV → St → Bool
 | 0, listed, S, σ => (Region.ready .any ops listed).isEmpty && ziv S r.1 && eqSt σ r.2
 | k + 1, listed, S, σ => (!(Region.ready .any ops listed).isEmpty || (ziv S r.1 && eqSt σ r.2)) && (Region.ready .any ops listed).all fun i =>
  match ops[i]? with
  | none => zsa P cp cs ops r k (listed.setIfInBounds i true) S σ
  | some o => match o.guard with
   | none => (match zoo P cp cs o S σ with
    | some (a, σ') => zsa P cp cs ops r k (listed.setIfInBounds i true) (z6 S o.dst a) σ'
    | none => false)
   | some (j, b) => (match zc4 ops S j with
    | some c => if c = some b then (match zoo P cp cs o S σ with
     | some (a, σ') => zsa P cp cs ops r k (listed.setIfInBounds i true) (z6 S o.dst a) σ'
     | none => false) else zsa P cp cs ops r k (listed.setIfInBounds i true) (z6 S o.dst (.raw undef)) σ
    | none => false)
def ev (P : Program) (Ω : CallP) (Ψ : CallS) : Nat → Run
 | 0, _, _, _, _ => none
 | k + 1, c, sz, S, σ => match c with
  | .skip => some (.normal, S, σ)
  | .seq x y => match ev P Ω Ψ k x sz S σ with
   | some (.normal, S1, σ1) => ev P Ω Ψ k y sz S1 σ1
   | r => r
  | .cond c x y => match zbz S c with
   | .raw (.bool t) => if t = true then ev P Ω Ψ k x sz S σ else ev P Ω Ψ k y sz S σ
   | _ => none
  | .block id x => match ev P Ω Ψ k x sz S σ with
   | some (.exit j, S1, σ1) => if j = id then some (.normal, S1, σ1) else some (.exit j, S1, σ1)
   | r => r
  | .exit id => some (.exit id, S, σ)
  | .label _ => some (.normal, S, σ)
  | .scope x => ev P Ω Ψ k x sz S σ
  | .ret => some (.ret, S, σ)
  | .loop x => match ev P Ω Ψ k x sz S σ with
   | some (.normal, S1, σ1) => ev P Ω Ψ k (.loop x) sz S1 σ1
   | r => r
  | .region _ ops false => match zn2 P (zgx P Ω (ev P Ω Ψ k)) (znd P Ψ (ev P Ω Ψ k)) ops ops.toList S σ with
   | some (S1, σ1) => some (.normal, S1, σ1)
   | none => none
  | .region _ ops true => if zkj ops.toList = true then (match zzd P (zgx P Ω (ev P Ω Ψ k)) (znd P Ψ (ev P Ω Ψ k)) ops sz S σ with
   | some (S2, σ2) => some (.normal, S2, σ2)
   | none => match findB ops sz with
    | some n => (match zg9 P (zgx P Ω (ev P Ω Ψ k)) ops sz σ (ops.toList.take n) S [] with
     | some (S1, ps) => match zn2 P (zgx P Ω (ev P Ω Ψ k)) (znd P Ψ (ev P Ω Ψ k)) ops (ops.toList.drop n) (zg2 σ.boxes.length ps S1) (zj6 σ ps) with
      | some (S2, σ2) => some (.normal, S2, σ2)
      | none => none
     | none => none)
    | none => match zn2 P (zgx P Ω (ev P Ω Ψ k)) (znd P Ψ (ev P Ω Ψ k)) ops ops.toList S σ with
     | some r => if zsa P (zgx P Ω (ev P Ω Ψ k)) (znd P Ψ (ev P Ω Ψ k)) ops r ops.size (Array.replicate ops.size false) S σ = true then some (.normal, r.1, r.2) else none
     | none => none) else none
  | .rangeFunc f ps asg body => match zbz S f with
   | .iter xs => if (xs.all fun x => decide (x.length = ps.size)) = true ∧ zcx asg = true then zm6 (ev P Ω Ψ k asg sz) (ev P Ω Ψ k body sz) ps S σ.boxes.length xs σ else none
   | _ => none
  | _ => none
end Go.Ab
