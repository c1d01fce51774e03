/-
  The abstract machine: regions whose order is open, in whose midst boxes are made and written.
-/
import Derived.Test.YtmoncghgagmilaaZdJ2
import Derived.Test.YtmoncghgagmilaaZdT
set_option linter.unusedSimpArgs false
set_option linter.unusedVariables false
namespace Go.Ab
open Go Go.RowKit Go.Fwd
def zr8 (IT : IterP) (P : Program) (W : Owed) (ops : Array Oper) (K : List AV → St → Prop) (i : Nat) (S : List AV) (σ : St) : Prop :=
 match ops[i]? with
 | none => K S σ
 | some o => match o.guard with
  | none => zfa IT P W o S σ fun a σ' => K (zn S o.dst a) σ'
  | some (k, b) => ∃ c, zea ops S k = some c ∧ (if c = some b then zfa IT P W o S σ fun a σ' => K (zn S o.dst a) σ' else K (zn S o.dst (.raw undef)) σ)
def zpe (IT : IterP) (P : Program) (W : Owed) (ops : Array Oper) (Q : List AV → St → Prop) : Nat → Array Bool → List AV → St → Prop
 | 0, listed, S, σ => Region.ready .any ops listed = [] ∧ Q S σ
 | k + 1, listed, S, σ => (Region.ready .any ops listed = [] → Q S σ) ∧ ∀ i ∈ Region.ready .any ops listed, zr8 IT P W ops (fun S σ => zpe IT P W ops Q k (listed.setIfInBounds i true) S σ) i S σ
def z78 (IT : IterP) (P : Program) (W : Owed) (ops : Array Oper) (Q : List AV → St → Prop) (S : List AV) (σ : St) : Prop := zpe IT P W ops Q ops.size (Array.replicate ops.size false) S σ
section
variable {IT : IterP} {P : Program} {M : Option Gen} {F : Fence} {nn B : Nat}
theorem zhl (hIT : ITMono IT) (hF : FenceOk F P) (hG : zvd P B M) {ops : Array Oper} {Q : List AV → St → Prop} {K : Exit → Act → World → Prop} {X0 : Cx} (hQ : ∀ S σ X a, Q S σ → Now IT M F B X0 S σ X a → K .normal a X.w) :
 ∀ (k : Nat) (listed : Array Bool) (S : List AV) (σ : St) (X : Cx) (a : Act), zpe IT P (zdb M) ops Q k listed S σ → Now IT M F B X0 S σ X a → wpAnyIn F nn P .any ops K k listed a X.w
 | 0, listed, S, σ, X, a, h, hn => ⟨h.1, hQ _ _ _ _ h.2 hn⟩
 | k + 1, listed, S, σ, X, a, h, hn => by
  refine ⟨fun he => hQ _ _ _ _ (h.1 he) hn, fun i hi => ?_⟩
  have h := h.2 i hi
  unfold zr8 at h
  unfold wpOpIn
  cases ho : ops[i]? with
  | none =>
   rw [ho] at h
   exact zhl hIT hF hG hQ k _ S σ X a h hn
  | some o =>
   rw [ho] at h
   simp only at h ⊢
   cases hg : o.guard with
   | none =>
    rw [hg] at h
    rw [if_pos (by simp [Region.wanted, hg])]
    exact zh1 hIT hF hG h hn fun x σ' X' a' hk hn' => zhl hIT hF hG hQ k _ _ _ _ _ hk hn'
   | some kb =>
    obtain ⟨j, b⟩ := kb
    rw [hg] at h
    obtain ⟨c, hc, h⟩ := h
    have hy := zmw hc hn.reps
    by_cases e : c = some b
    ·rw [if_pos e] at h
     rw [if_pos (by simp [Region.wanted, hg, hy, e])]
     exact zh1 hIT hF hG h hn fun x σ' X' a' hk hn' => zhl hIT hF hG hQ k _ _ _ _ _ hk hn'
    ·rw [if_neg e] at h
     rw [if_neg (by simp [Region.wanted, hg, hy, e])]
     exact ⟨fun f _ => hF.fn f, zhl hIT hF hG hQ k _ _ _ _ _ h (ziz hG hIT hn (Ext.refl X) hn.inv ⟨rfl, rfl⟩ o.dst (by rw [Rep]))⟩
theorem zux (hIT : ITMono IT) (hF : FenceOk F P) (hG : zvd P B M) (hmix : P.follows .mixedOrders = true) {id : Nat} {ops : Array Oper} {Q : List AV → St → Prop} {K : Exit → Act → World → Prop} {X0 X : Cx} {S : List AV} {σ : St} {a : Act}
 (hQ : ∀ S σ X a, Q S σ → Now IT M F B X0 S σ X a → K .normal a X.w) (h : z78 IT P (zdb M) ops Q S σ) (hn : Now IT M F B X0 S σ X a) : (Code.region id ops true).wpIn F nn P K a X.w := by
 refine wpIn_region_any hmix ?_
 obtain ⟨hE, hI⟩ := zn0 hIT hn.inv
 have hrs : zlp IT { X with w := X.w.drew } S a.tmps := zao hIT hE _ _ hn.reps
 have hnow : Now IT M F B X0 S σ { X with w := X.w.drew } a := ⟨hn.ext.trans (Rel.of hE), hI, hrs, hn.marks.ext hE hn.inv, FrM.ext hG hn.frn hE hn.inv rfl rfl⟩
 exact zhl (nn := nn) hIT hF hG hQ ops.size _ S σ _ a h hnow
end
def eqV : Value → Value → Bool
 | .int k a, .int k' b => decide (k = k') && decide (a = b)
 | .bool a, .bool b => a == b
 | .string a, .string b => decide (a.data = b.data)
 | .pointer a, .pointer b => decide (a = b)
 | .slice a n m, .slice a' n' m' => decide (a = a') && decide (n = n') && decide (m = m')
 | .nilFunc, .nilFunc => true
 | .nilIface, .nilIface => true
 | .tuple a, .tuple b => decide (a.size = 0) && decide (b.size = 0)
 | _, _ => false
theorem eqV_ok {a b : Value} (h : eqV a b = true) : a = b := by
 unfold eqV at h
 split at h <;> (try simp only [Bool.and_eq_true, decide_eq_true_eq, beq_iff_eq] at h)
 ·rw [h.1, h.2]
 ·rw [h]
 ·rename_i a b; cases a; cases b; simp only at h; rw [h]
 ·rw [h]
 ·rw [h.1.1, h.1.2, h.2]
 ·rfl
 ·rfl
 ·rename_i a b; rw [Array.eq_empty_of_size_eq_zero h.1, Array.eq_empty_of_size_eq_zero h.2]
 ·cases h
mutual
def zwu : AV → AV → Bool
 | .raw a, .raw b => eqV a b
 | .agg a, .agg b => zlh a b
 | .tup a, .tup b => zlh a b
 | .list n a st, .list m b st' => decide (n = m) && decide (st = st') && zlh a b
 | .ptr s o, .ptr s' o' => decide (s = s') && decide (o = o')
 | .bsl s o n z f, .bsl s' o' n' z' f' => decide (s = s') && decide (o = o') && decide (n = n') && decide (z = z') && decide (f = f')
 | .iptr a, .iptr b => zlh a b
 | .clos f a, .clos g b => decide (f = g) && zlh a b
 | .top, .top => true
 | _, _ => false
def zlh : List AV → List AV → Bool
 | [], [] => true
 | a :: l, b :: m => zwu a b && zlh l m
 | _, _ => false
end
mutual
theorem z3j : ∀ a b, zwu a b = true → a = b
 | .raw a, b, h => by cases b <;> simp only [zwu] at h <;> first | (cases h; done) | rw [eqV_ok h]
 | .agg a, b, h => by cases b <;> simp only [zwu] at h <;> first | (cases h; done) | rw [zfl _ _ h]
 | .tup a, b, h => by cases b <;> simp only [zwu] at h <;> first | (cases h; done) | rw [zfl _ _ h]
 | .iptr a, b, h => by cases b <;> simp only [zwu] at h <;> first | (cases h; done) | rw [zfl _ _ h]
 | .clos f a, b, h => by
  cases b <;> simp only [zwu] at h <;> first | (cases h; done) | skip
  rw [Bool.and_eq_true, decide_eq_true_eq] at h
  rw [h.1, zfl _ _ h.2]
 | .list n a st, b, h => by
  cases b <;> simp only [zwu] at h <;> first | (cases h; done) | skip
  simp only [Bool.and_eq_true, decide_eq_true_eq] at h
  rw [h.1.1, h.1.2, zfl _ _ h.2]
 | .ptr _ _, b, h => by
  cases b <;> simp only [zwu] at h <;> first | (cases h; done) | skip
  simp only [Bool.and_eq_true, decide_eq_true_eq] at h
  rw [h.1, h.2]
 | .bsl _ _ _ _ _, b, h => by
  cases b <;> simp only [zwu] at h <;> first | (cases h; done) | skip
  simp only [Bool.and_eq_true, decide_eq_true_eq] at h
  obtain ⟨⟨⟨⟨h1, h2⟩, h3⟩, h4⟩, h5⟩ := h
  rw [h1, h2, h3, h4, h5]
 | .top, b, h => by cases b <;> simp only [zwu] at h <;> first | (cases h; done) | rfl
 | .iter _, b, h => by cases b <;> simp only [zwu] at h <;> cases h
 | .yld _, b, h => by cases b <;> simp only [zwu] at h <;> cases h
 | .bad, b, h => by cases b <;> simp only [zwu] at h <;> cases h
theorem zfl : ∀ a b, zlh a b = true → a = b
 | [], [], _ => rfl
 | a :: l, b :: m, h => by
  simp only [zlh, Bool.and_eq_true] at h
  rw [z3j a b h.1, zfl l m h.2]
 | [], _ :: _, h => by simp only [zlh] at h; cases h
 | _ :: _, [], h => by simp only [zlh] at h; cases h
end
def eqBx : List (TypeId × List AV) → List (TypeId × List AV) → Bool
 | [], [] => true
 | a :: l, b :: m => decide (a.1 = b.1) && zlh a.2 b.2 && eqBx l m
 | _, _ => false
theorem z17 : ∀ a b, eqBx a b = true → a = b
 | [], [], _ => rfl
 | a :: l, b :: m, h => by
  simp only [eqBx, Bool.and_eq_true, decide_eq_true_eq] at h
  obtain ⟨⟨h1, h2⟩, h3⟩ := h
  rw [z17 l m h3]
  cases a; cases b
  simp only at h1 h2
  rw [h1, zfl _ _ h2]
 | [], _ :: _, h => by simp only [eqBx] at h; cases h
 | _ :: _, [], h => by simp only [eqBx] at h; cases h
def eqSt (a b : St) : Bool := eqBx a.boxes b.boxes && decide (a.lens = b.lens) && decide (a.elems = b.elems) && decide (a.out = b.out) && decide (a.stop = b.stop)
theorem z24 {a b : St} (h : eqSt a b = true) : a = b := by
 simp only [eqSt, Bool.and_eq_true, decide_eq_true_eq] at h
 obtain ⟨⟨⟨⟨h1, h2⟩, h3⟩, h4⟩, h5⟩ := h
 cases a; cases b
 simp only at h1 h2 h3 h4 h5
 rw [z17 _ _ h1, h2, h3, h4, h5]
end Go.Ab
set_option linter.unusedSimpArgs false
set_option linter.unusedVariables false
namespace Go.Ab
open Go Go.RowKit Go.Fwd
structure Pe where
 al : Nat
 d : Tmp
 t : TypeId
 z : Value
 st : Nat
 v : AV
structure GS (X : Cx) where
 W : World
 B : List (Nat × Nat)
 lo : ∀ p ∈ B, X.w.heap.size ≤ p.2
 hi : ∀ p ∈ B, p.2 < W.heap.size
 nd : ∀ p ∈ B, ∀ q ∈ B, p.2 = q.2 → p = q
 ud : ∀ p ∈ B, ∀ q ∈ B, p.1 = q.1 → p = q
 grows : Grows X.w W
structure LeS {X : Cx} (x y : GS X) : Prop where
 os : y.W.os = x.W.os
 tape : y.W.tape = x.W.tape
 output : y.W.output = x.W.output
 size : x.W.heap.size ≤ y.W.heap.size
 blk : ∀ k, k < x.W.heap.size → (∀ p ∈ x.B, p.2 ≠ k) → y.W.heap[k]? = x.W.heap[k]?
 B : ∀ p ∈ x.B, p ∈ y.B
 new : ∀ p ∈ y.B, p ∈ x.B ∨ x.W.heap.size ≤ p.2
 szs : Szs x.W y.W
theorem LeS.refl {X : Cx} (x : GS X) : LeS x x := ⟨rfl, rfl, rfl, Nat.le_refl _, fun _ _ _ => rfl, fun _ h => h, fun _ h => .inl h, Szs.refl _⟩
theorem LeS.trans {X : Cx} {x y z : GS X} (h : LeS x y) (k : LeS y z) : LeS x z where
 os := k.os.trans h.os
 tape := k.tape.trans h.tape
 output := k.output.trans h.output
 size := Nat.le_trans h.size k.size
 blk := fun b hb hn => (k.blk b (Nat.lt_of_lt_of_le hb h.size) (fun p hp => (h.new p hp).elim (hn p) fun h' => by omega)).trans (h.blk b hb hn)
 B := fun p hp => k.B p (h.B p hp)
 new := fun p hp => (k.new p hp).elim (h.new p) fun h' => .inr (Nat.le_trans h.size h')
 szs := h.szs.trans k.szs
theorem LeS.of_grows {X : Cx} (x : GS X) (W : World) (hg : Grows x.W W) : LeS x ⟨W, x.B, x.lo, fun p hp => Nat.lt_of_lt_of_le (x.hi p hp) hg.size, x.nd, x.ud, x.grows.trans hg⟩ :=
 ⟨hg.os, hg.tape, hg.output, hg.size, fun k hk _ => hg.block k hk, fun _ h => h, fun _ h => .inl h, Szs.old fun k hk => hg.block k hk⟩
def GS.next {X : Cx} (x : GS X) (W : World) (hg : Grows x.W W) : GS X := ⟨W, x.B, x.lo, fun p hp => Nat.lt_of_lt_of_le (x.hi p hp) hg.size, x.nd, x.ud, x.grows.trans hg⟩
theorem zi9 {X : Cx} {x y : GS X} (hXF : ∀ b i, X.F b i → b < X.w.heap.size) (hκ : ∀ (s b : Nat), X.κ[s]? = some b → b < X.w.heap.size) (h : LeS x y) : Sub (zcv X x.W x.B) (zcv X y.W y.B) := by
 have hx : ∀ b, b < X.w.heap.size → y.W.heap[b]? = x.W.heap[b]? := fun b hb => h.blk b (Nat.lt_of_lt_of_le hb x.grows.size) fun p hp e => by have := x.lo p hp; omega
 refine ⟨fun b i hf => ?_, fun b i hf => ?_, fun _ _ h => h, fun s L h => ⟨L, h, Nat.le_refl _, fun _ => rfl⟩, fun s b hs cur t f hc => ⟨cur, (hx b (hκ s b hs)).trans hc, rfl⟩, h.szs⟩
 ·rcases hf with hf | ⟨k1, k2, v, k3⟩
  ·exact .inl hf
  ·refine .inr ⟨k1, fun p hp e => ?_, v, (World.cell?_of_block (h.blk _ (zh6 k3) k2)).trans k3⟩
   rcases h.new p hp with h' | h'
   ·exact k2 p h' e
   ·have := zh6 k3; omega
 ·refine World.cell?_of_block ?_
  rcases hf with hf | ⟨_, k2, v, k3⟩
  ·exact hx b (hXF b i hf)
  ·exact h.blk _ (zh6 k3) k2
def JS (IT : IterP) (X : Cx) (pl : List Pe) (dn : Nat → Bool) (γ : GS X) : Prop :=
 (∀ q ∈ γ.B, ∃ p ∈ pl, q.1 = p.d ∧ dn p.al = true) ∧
 ∀ p ∈ pl, (dn p.st = true → dn p.al = true) ∧ (dn p.al = true → ∃ b, (p.d, b) ∈ γ.B ∧
  ((dn p.st = false ∧ γ.W.heap[b]? = some (.cells p.z.cells p.t (0, 0))) ∨
   (dn p.st = true ∧ ∃ us : List Value, γ.W.heap[b]? = some (.cells us.toArray p.t (0, 0)) ∧ za9 IT (zcv X γ.W γ.B) (cellsOf p.v) us ∧ ∀ u ∈ us, u.oneCell' = true)))
def ghS (IT : IterP) (X : Cx) (pl : List Pe) : FwdJ.Gh where
 Γ := GS X
 π := GS.W
 Le := LeS
 refl := LeS.refl
 trans := fun _ _ _ => LeS.trans
 J := JS IT X pl
section
variable {IT : IterP} {P : Program} {M : Option Gen} {F : Fence} {nn B : Nat}
theorem zwk (hIT : ITMono IT) {σ : St} {X : Cx} (hI : Inv IT σ X) {pl : List Pe} {dn : Nat → Bool} {γ : GS X} (hJ : JS IT X pl dn γ) {k : Nat} (hk : ∀ p ∈ pl, p.al ≠ k ∧ p.st ≠ k) {W : World} (hg : Grows γ.W W) : JS IT X pl (FwdJ.upd dn k) (γ.next W hg) := by
 have hs := zi9 (fun b i h => hI.Flt h) (fun s b h => hI.κlt (List.mem_of_getElem? h)) (LeS.of_grows γ W hg)
 have hu : ∀ j, j ≠ k → FwdJ.upd dn k j = dn j := fun j hj => by unfold FwdJ.upd; rw [if_neg hj]
 refine ⟨fun q hq => ?_, fun p hp => ?_⟩
 ·obtain ⟨p, hp, h1, h2⟩ := hJ.1 q hq
  exact ⟨p, hp, h1, by rw [hu _ (hk p hp).1]; exact h2⟩
 ·obtain ⟨h1, h2⟩ := hJ.2 p hp
  rw [hu _ (hk p hp).1, hu _ (hk p hp).2]
  refine ⟨h1, fun ha => ?_⟩
  obtain ⟨b, hb, h3⟩ := h2 ha
  have hblk : W.heap[b]? = γ.W.heap[b]? := hg.block b (γ.hi _ hb)
  refine ⟨b, hb, h3.imp (fun h => ⟨h.1, hblk.trans h.2⟩) fun ⟨h4, us, h5, h6, h7⟩ => ⟨h4, us, hblk.trans h5, zbz hIT hs _ _ h6, h7⟩⟩
theorem z5k (hIT : ITMono IT) {σ : St} {X : Cx} (hI : Inv IT σ X) {pl : List Pe} {dn : Nat → Bool} {γ : GS X} (hJ : JS IT X pl dn γ) {p : Pe} (hp : p ∈ pl) (hdn : dn p.al = false)
 (hdd : ∀ q ∈ pl, q.d = p.d → q = p) (hda : ∀ q ∈ pl, q.al = p.al → q = p) (hsa : ∀ q ∈ pl, q.st ≠ p.al) :
 ∃ γ' : GS X, γ'.W = γ.W.alloc (.cells p.z.cells p.t) ∧ LeS γ γ' ∧ (p.d, γ.W.heap.size) ∈ γ'.B ∧ JS IT X pl (FwdJ.upd dn p.al) γ' := by
 have hg : Grows γ.W (γ.W.alloc (.cells p.z.cells p.t)) := (Ex.refl _ _).alloc (Nat.le_refl _) _
 have hfresh : ∀ q ∈ γ.B, q.1 ≠ p.d := fun q hq e => by
  obtain ⟨p', hp', h1, h2⟩ := hJ.1 q hq
  have := hdd p' hp' (h1.symm.trans e)
  subst this
  rw [hdn] at h2; cases h2
 have hL : LeS γ ⟨γ.W.alloc (.cells p.z.cells p.t), (p.d, γ.W.heap.size) :: γ.B, fun q hq => by
  rcases List.mem_cons.1 hq with rfl | hq
  ·exact γ.grows.size
  ·exact γ.lo q hq, fun q hq => by
  rw [World.size_alloc]
  rcases List.mem_cons.1 hq with rfl | hq
  ·exact Nat.lt_succ_self _
  ·exact Nat.lt_succ_of_lt (γ.hi q hq), fun q hq q' hq' e => by
  rcases List.mem_cons.1 hq with rfl | hq
  ·rcases List.mem_cons.1 hq' with rfl | hq'
   ·rfl
   ·have := γ.hi q' hq'; simp only at e; omega
  ·rcases List.mem_cons.1 hq' with rfl | hq'
   ·have := γ.hi q hq; simp only at e; omega
   ·exact γ.nd q hq q' hq' e, fun q hq q' hq' e => by
  rcases List.mem_cons.1 hq with rfl | hq
  ·rcases List.mem_cons.1 hq' with rfl | hq'
   ·rfl
   ·exact absurd e.symm (hfresh q' hq')
  ·rcases List.mem_cons.1 hq' with rfl | hq'
   ·exact absurd e (hfresh q hq)
   ·exact γ.ud q hq q' hq' e, γ.grows.trans hg⟩ :=
  ⟨hg.os, hg.tape, hg.output, hg.size, fun k hk _ => hg.block k hk, fun q hq => List.mem_cons_of_mem _ hq, fun q hq => by
   rcases List.mem_cons.1 hq with rfl | hq
   ·exact .inr (Nat.le_refl _)
   ·exact .inl hq, Szs.old fun k hk => hg.block k hk⟩
 have hs := zi9 (fun b i h => hI.Flt h) (fun s b h => hI.κlt (List.mem_of_getElem? h)) hL
 refine ⟨_, rfl, hL, List.mem_cons_self, fun q hq => ?_, fun q hq => ?_⟩
 ·rcases List.mem_cons.1 hq with rfl | hq
  ·exact ⟨p, hp, rfl, by simp [FwdJ.upd]⟩
  ·obtain ⟨p', hp', h1, h2⟩ := hJ.1 q hq
   exact ⟨p', hp', h1, by unfold FwdJ.upd; split <;> first | rfl | exact h2⟩
 ·obtain ⟨h1, h2⟩ := hJ.2 q hq
  have hst : FwdJ.upd dn p.al q.st = dn q.st := by unfold FwdJ.upd; rw [if_neg (hsa q hq)]
  rw [hst]
  by_cases e : q = p
  ·subst e
   have hns : dn q.st = false := by
    cases h : dn q.st with
    | false => rfl
    | true => rw [h1 h] at hdn; cases hdn
   refine ⟨fun _ => by simp [FwdJ.upd], fun _ => ⟨γ.W.heap.size, List.mem_cons_self, .inl ⟨hns, zem _ _ _ rfl⟩⟩⟩
  ·have hal : FwdJ.upd dn p.al q.al = dn q.al := by unfold FwdJ.upd; rw [if_neg (fun h => e (hda q hq h))]
   rw [hal]
   refine ⟨h1, fun ha => ?_⟩
   obtain ⟨b, hb, h3⟩ := h2 ha
   have hblk : (γ.W.alloc (.cells p.z.cells p.t)).heap[b]? = γ.W.heap[b]? := hg.block b (γ.hi _ hb)
   exact ⟨b, List.mem_cons_of_mem _ hb, h3.imp (fun h => ⟨h.1, hblk.trans h.2⟩) fun ⟨h4, us, h5, h6, h7⟩ => ⟨h4, us, hblk.trans h5, zbz hIT hs _ _ h6, h7⟩⟩
theorem z5a (hIT : ITMono IT) {σ : St} {X : Cx} (hI : Inv IT σ X) {pl : List Pe} {dn : Nat → Bool} {γ : GS X} (hJ : JS IT X pl dn γ) {p : Pe} (hp : p ∈ pl) (hdn : dn p.st = false) (hal : dn p.al = true)
 (hdd : ∀ q ∈ pl, q.d = p.d → q = p) (hds : ∀ q ∈ pl, q.st = p.st → q = p) (hsa : ∀ q ∈ pl, q.al ≠ p.st) {b : Nat} (hb : (p.d, b) ∈ γ.B) {us : List Value} (hr : za9 IT (zcv X γ.W γ.B) (cellsOf p.v) us) (h1 : ∀ u ∈ us, u.oneCell' = true) (hus : us.length = p.z.cells.size) :
 γ.W.heap[b]? = some (.cells p.z.cells p.t (0, 0)) ∧ ∃ γ' : GS X, γ'.W = γ.W.setRow b us.toArray ∧ LeS γ γ' ∧ JS IT X pl (FwdJ.upd dn p.st) γ' := by
 have hz : γ.W.heap[b]? = some (.cells p.z.cells p.t (0, 0)) := by
  obtain ⟨b', hb', h⟩ := (hJ.2 p hp).2 hal
  have : b' = b := by have := γ.ud _ hb' _ hb rfl; simpa using this
  subst this
  rcases h with ⟨_, h⟩ | ⟨h, _⟩
  ·exact h
  ·rw [hdn] at h; cases h
 refine ⟨hz, ?_⟩
 have hlo := γ.lo _ hb
 simp only at hlo
 have hother : ∀ k, k ≠ b → (γ.W.setRow b us.toArray).heap[k]? = γ.W.heap[k]? := fun k hk => setRow_other _ _ _ _ hk
 have hnew : (γ.W.setRow b us.toArray).heap[b]? = some (.cells us.toArray p.t (0, 0)) := setRow_heap _ _ _ _ _ _ hz
 have hsz : (γ.W.setRow b us.toArray).heap.size = γ.W.heap.size := by simp
 have hgX : Grows X.w (γ.W.setRow b us.toArray) := ⟨⟨γ.grows.os, γ.grows.tape, γ.grows.output, by rw [hsz]; exact γ.grows.size, fun k hk => (hother k (by omega)).trans (γ.grows.block k hk)⟩, γ.grows.drawn⟩
 have hL : LeS γ ⟨γ.W.setRow b us.toArray, γ.B, γ.lo, fun q hq => by rw [hsz]; exact γ.hi q hq, γ.nd, γ.ud, hgX⟩ :=
  ⟨rfl, rfl, rfl, by rw [hsz]; exact Nat.le_refl _, fun k hk hn => hother k fun e => hn _ hb e.symm, fun _ h => h, fun _ h => .inl h, Szs.one b (fun k _ e => hother k e) fun cs t f h => by
   rw [hz] at h; cases h; exact ⟨_, _, _, hnew, by simpa using hus⟩⟩
 have hs := zi9 (fun b i h => hI.Flt h) (fun s b h => hI.κlt (List.mem_of_getElem? h)) hL
 refine ⟨_, rfl, hL, fun q hq => ?_, fun q hq => ?_⟩
 ·obtain ⟨p', hp', e1, e2⟩ := hJ.1 q hq
  exact ⟨p', hp', e1, by unfold FwdJ.upd; split <;> first | rfl | exact e2⟩
 ·obtain ⟨e1, e2⟩ := hJ.2 q hq
  have ha : FwdJ.upd dn p.st q.al = dn q.al := by unfold FwdJ.upd; rw [if_neg (hsa q hq)]
  rw [ha]
  by_cases e : q = p
  ·subst e
   refine ⟨fun _ => hal, fun _ => ⟨b, hb, .inr ⟨by simp [FwdJ.upd], us, hnew, zbz hIT hs _ _ hr, h1⟩⟩⟩
  ·have hst : FwdJ.upd dn p.st q.st = dn q.st := by unfold FwdJ.upd; rw [if_neg (fun h => e (hds q hq h))]
   rw [hst]
   refine ⟨e1, fun hh => ?_⟩
   obtain ⟨b', hb', h3⟩ := e2 hh
   have hne : b' ≠ b := fun h => by
    subst h
    have := γ.nd _ hb' _ hb rfl
    exact e (hdd q hq (Prod.mk.inj this).1)
   refine ⟨b', hb', h3.imp (fun h => ⟨h.1, (hother b' hne).trans h.2⟩) fun ⟨h4, us', h5, h6, h7⟩ => ⟨h4, us', (hother b' hne).trans h5, zbz hIT hs _ _ h6, h7⟩⟩
end
end Go.Ab
