/-
  General laws for walks: what a call leaves of old memory and of the count of draws; a range over a function; a statement whose order of evaluation is open; append on a row of the call's own.
-/
import Derived.RangeFuncNested
import Derived.RangeFuncLeaves
import Derived.StillTail
import Derived.Below
import Derived.Maps.AppendAt
import Derived.OwnWalkIn
import Derived.Shelf.Abstract
set_option linter.unusedSimpArgs false
set_option linter.unusedVariables false
namespace Go.Fwd
open Go Go.RowKit

theorem viewStore_drawn {p : Program} {w : World} {at_ : Addr} {u : TypeId} {k : Addr} {v : Value} {b : Bool} {w' : World} {t : List Addr} (h : World.viewStore p w at_ u k v b = .ok (w', t)) : w'.drawn = w.drawn := by
  unfold World.viewStore at h
  simp only [bind, Except.bind, pure, Except.pure, throw, throwThe, MonadExceptOf.throw] at h
  repeat' (split at h)
  all_goals first
    | (cases h; done)
    | (simp only [Except.ok.injEq, Prod.mk.injEq] at h; rw [← h.1])
theorem ask_drawn {α : Type} : ∀ (x : Ask α) (w : World), w.drawn ≤ (w.ask x).2.drawn := by
  intro x
  induction x with
  | done a => intro w; simp [World.ask]
  | ask what range k ih =>
    intro w
    simp only [World.ask]
    split
    · exact ih _ _
    · exact Nat.le_trans (Nat.le_succ w.drawn) (ih _ { w with drawn := w.drawn + 1 })
theorem sys_drawn (w : World) (c : Sys) : w.drawn ≤ (w.sys c).2.drawn := by
  unfold World.sys
  split
  · exact Nat.le_refl _
  · rename_i h
    have := ask_drawn (Kernel.perform c w.os) w
    rw [h] at this
    exact this
theorem run_drawn {P : Program} {α : Type} : ∀ (s : Sem α) (w : World) (a : α) (w' : World), s.run P w = .ok a w' → w.drawn ≤ w'.drawn := by
  intro s
  induction s with
  | pure a => intro w b w' h; simp only [Sem.run, Result.ok.injEq] at h; rw [h.2]; exact Nat.le_refl _
  | load m a k ih =>
    intro w b w' h
    simp only [Sem.run] at h
    split at h
    · exact ih _ _ _ _ h
    · split at h
      · exact ih _ _ _ _ h
      · cases h
  | store m a v k ih =>
    intro w b w' h
    cases v <;> simp only [Sem.run] at h <;> first
      | (cases h; done)
      | (split at h
         · split at h
           · cases h
           · have h2 := ih _ _ _ h; exact h2
         · split at h
           · rename_i hf
             refine Nat.le_trans ?_ (ih _ _ _ h)
             unfold World.farStore at hf
             split at hf
             · split at hf
               · rename_i hv; cases hf; rw [viewStore_drawn hv]; exact Nat.le_refl _
               · cases hf
             · cases hf
           · cases h)
  | new o k ih => intro w b w' h; simp only [Sem.run] at h; have h2 := ih _ _ _ _ h; exact h2
  | shape r k ih => intro w b w' h; simp only [Sem.run] at h; exact ih _ _ _ _ h
  | freeze a n k ih =>
    intro w b w' h; simp only [Sem.run] at h
    refine Nat.le_trans ?_ (ih _ _ _ h)
    unfold World.freeze; split <;> exact Nat.le_refl _
  | frozen a k ih => intro w b w' h; simp only [Sem.run] at h; exact ih _ _ _ _ h
  | getObj r k ih =>
    intro w b w' h; simp only [Sem.run] at h
    split at h
    · cases h
    · exact ih _ _ _ _ h
    · cases h
  | setObj r o k ih =>
    intro w b w' h; simp only [Sem.run] at h
    split at h
    · cases h
    · have := ih _ _ _ h; exact this
    · cases h
  | choose q k ih =>
    intro w b w' h; simp only [Sem.run] at h
    split at h
    · exact ih _ _ _ _ h
    · exact Nat.le_trans (Nat.le_succ w.drawn) (ih _ _ _ _ h)
  | sys c k ih => intro w b w' h; simp only [Sem.run] at h; exact Nat.le_trans (sys_drawn w c) (ih _ _ _ _ h)
  | program k ih => intro w b w' h; simp only [Sem.run] at h; exact ih _ _ _ _ h
  | mark m k ih => intro w b w' h; simp only [Sem.run] at h; exact ih _ _ _ h
  | halt x => intro w b w' h; simp [Sem.run] at h
/-- How many draws have been made: not counted here (a contract of the library's says nothing of them). -/
abbrev drn (_ : World) : Nat := 0
/-- Below block B the world is as it was. -/
structure Ex (B : Nat) (w w' : World) : Prop extends Below B w w' where
  drawn : drn w ≤ drn w'
theorem Ex.refl (B : Nat) (w : World) : Ex B w w := ⟨Below.refl B w, Nat.le_refl _⟩
theorem Ex.trans {B : Nat} {a b c : World} (h : Ex B a b) (k : Ex B b c) : Ex B a c := ⟨h.toBelow.trans k.toBelow, Nat.le_trans h.drawn k.drawn⟩
theorem Ex.mono {B B' : Nat} {w w' : World} (h : Ex B w w') (hB : B' ≤ B) : Ex B' w w' := ⟨h.toBelow.mono hB, h.drawn⟩
theorem Ex.drew {B : Nat} {a w : World} (h : Ex B a w) : Ex B a w.drew := ⟨h.toBelow.drew, h.drawn⟩
theorem Ex.alloc {B : Nat} {a w : World} (h : Ex B a w) (hB : B ≤ w.heap.size) (o : Obj) : Ex B a (w.alloc o) := ⟨h.toBelow.alloc hB o, h.drawn⟩
theorem Ex.setCell {B : Nat} {a w : World} (h : Ex B a w) {p : Addr} (hp : B ≤ p.block) (u : Value) : Ex B a (w.setCell p u) := ⟨h.toBelow.setCell hp u, h.drawn⟩
theorem Ex.setRow {B : Nat} {a w : World} (h : Ex B a w) {g : Nat} (hg : B ≤ g) (cs : Array Value) : Ex B a (w.setRow g cs) := by
  refine ⟨h.toBelow.trans ⟨rfl, rfl, rfl, by simp, fun k hk => ?_⟩, h.drawn⟩
  simp only [World.setRow, Array.getElem?_modify]
  rw [if_neg (by omega)]

/-- A turn of what is no cells, from block B on; blocks may have been laid. -/
structure Turn (B : Nat) (W W' : World) : Prop where
  os : W'.os = W.os
  tape : W'.tape = W.tape
  output : W'.output = W.output
  size : W.heap.size ≤ W'.heap.size
  drawn : drn W ≤ drn W'
  same : ∀ (k : Nat) (o : Obj), W.heap[k]? = some o → k < B ∨ o.isCells = true → W'.heap[k]? = some o
theorem Turn.of_ex {W W' : World} (B : Nat) (h : Ex W.heap.size W W') : Turn B W W' :=
  ⟨h.os, h.tape, h.output, h.size, h.drawn, fun k o hk _ => (h.block k (Array.getElem?_eq_some_iff.1 hk).1).trans hk⟩
theorem Turn.putObj {B : Nat} {W : World} {l : Nat} {o : Obj} (o' : Obj) (hB : B ≤ l) (hl : W.heap[l]? = some o) (ho : o.isCells = false) : Turn B W (W.putObj l o') :=
  ⟨rfl, rfl, rfl, by simp, Nat.le_refl _, fun k o2 hk h2 => by
    refine (World.putObj_heap_other fun e => ?_).trans hk
    subst e
    rcases h2 with h2 | h2
    · omega
    · rw [hl] at hk; cases hk; rw [ho] at h2; cases h2⟩
theorem Turn.alloc (B : Nat) (W : World) (o : Obj) : Turn B W (W.alloc o) := Turn.of_ex B ((Ex.refl _ _).alloc (Nat.le_refl _) o)
theorem Turn.less {B B' : Nat} {W W' : World} (h : Turn B' W W') (hB : B ≤ B') : Turn B W W' :=
  ⟨h.os, h.tape, h.output, h.size, h.drawn, fun k o hk h2 => h.same k o hk (h2.imp (fun h => by omega) id)⟩
/-- Below B all is as it was, where B lies within the heap. -/
theorem Turn.ex {B : Nat} {W W' : World} (h : Turn B W W') (hB : B ≤ W.heap.size) : Ex B W W' :=
  ⟨⟨h.os, h.tape, h.output, h.size, fun k hk => by
    have hlt : k < W.heap.size := by omega
    rw [h.same k _ (Array.getElem?_eq_getElem hlt) (.inl hk), Array.getElem?_eq_getElem hlt]⟩, h.drawn⟩

/-- What is said abides a turn from B on. -/
def Stable {β : Type} (B : Nat) (J : β → World → Prop) : Prop := ∀ s W W', J s W → Turn B W W' → J s W'
theorem Stable.and {β : Type} {B : Nat} {I I' : β → World → Prop} (h : Stable B I) (h' : Stable B I') : Stable B (fun s W => I s W ∧ I' s W) := fun s W W' hs ht => ⟨h s W W' hs.1 ht, h' s W W' hs.2 ht⟩
theorem stable_pure {β : Type} (B : Nat) (p : β → Prop) : Stable B (fun s (_ : World) => p s) := fun _ _ _ hs _ => hs
theorem stable_row {β : Type} (B b : Nat) (t : TypeId) (f : Nat × Nat) (cs : β → Array Value) : Stable B (fun s W => W.heap[b]? = some (.cells (cs s) t f)) := fun _ _ _ hs ht => ht.same _ _ hs (.inr rfl)
theorem stable_box {β : Type} (B b : Nat) (t : TypeId) (f : β → Value) : Stable B (fun s W => Boxed W b t (f s)) := stable_row B b t (0, 0) fun s => #[f s]
theorem stable_ex {β : Type} {B n : Nat} {w : World} (hn : n ≤ B) (hw : n ≤ w.heap.size) : Stable B (fun (_ : β) W => Ex n w W) := fun _ W W' hs ht =>
  hs.trans (((ht.less hn).ex (Nat.le_trans hw hs.size)))
theorem stable_false {β : Type} (B : Nat) : Stable B (fun (_ : β) (_ : World) => False) := fun _ _ _ hs _ => hs

section
variable {P : Program} {α : Type}
/-- A round of loop l, whatever the depth. -/
def Yields (P : Program) (l : Nat) (args : Array Value) (W : World) (R : Ending → World → Prop) : Prop := ∀ m, YieldAt Fence.wide m P l args W R
theorem Yields.mono {l : Nat} {args : Array Value} {W : World} {R R' : Ending → World → Prop} (h : Yields P l args W R) (hr : ∀ e w, R e w → R' e w) : Yields P l args W R' := fun m => by
  obtain ⟨fn, tmps, assign, body, hy, hR⟩ := h m
  exact ⟨fn, tmps, assign, body, hy, hR.mono hr⟩

/-- **WHAT AN ITERATOR OWES**: called with yield of a loop, it makes rounds, each with a part that Sp allows; it returns, and all of S has come, or a round has said 'no more'. A round keeps what the iterator has laid that is no cells; one that goes on keeps Kp. -/
def Iter (P : Program) (g : Nat) (lb : Array Value) (encs : α → Array Value) (Kp : World → World → Prop) (S Sp : List α → Prop) (w : World) : Prop :=
  ∀ (l : Nat) (J Jx : List α → World → Prop) (W : World), Ex w.heap.size w W → Stable W.heap.size J → Stable W.heap.size Jx →
    (∀ pre x W1, J pre W1 → Sp (pre ++ [x]) → Yields P l (encs x) W1 fun e W' => KeepsFrom W.heap.size W1 W' ∧
      ((e = .returned (.bool true) ∧ J (pre ++ [x]) W' ∧ Kp W1 W') ∨ (e = .returned (.bool false) ∧ Jx (pre ++ [x]) W'))) →
    J [] W →
    Calls P g (#[.func (.yield l) #[] #[]] ++ lb) W fun e W' => (∃ v, e = .returned v) ∧ ((∃ xs, S xs ∧ J xs W') ∨ (∃ pre, Sp pre ∧ Jx pre W'))

/-- What a round of the caller's comes to. -/
def roundOk (B : Nat) (Kp : World → World → Prop) (I : List α → World → Prop) (Ix : Code → List α → World → Prop) (xs : List α) (W : World) : Exit → Act → World → Prop
  | .normal, _, W' => KeepsFrom B W W' ∧ Kp W W' ∧ I xs W'
  | .ret, _, W' => KeepsFrom B W W' ∧ Ix .ret xs W'
  | .exit id, _, W' => KeepsFrom B W W' ∧ Ix (.exit id) xs W'
  | .goto t, _, W' => KeepsFrom B W W' ∧ Ix (.goto t) xs W'
  | _, _, _ => False

theorem keepsFrom_less {B B' : Nat} {W W' : World} (h : KeepsFrom B W W') (hB : B ≤ B') : KeepsFrom B' W W' := ⟨h.size, fun k o hk h1 h2 => h.same k o (by omega) h1 h2⟩
theorem keepsFrom_putObj {B l : Nat} (W : World) (o : Obj) (h : l < B) : KeepsFrom B W (W.putObj l o) := ⟨by simp, fun k o' hk h1 _ => (World.putObj_heap_other (by omega)).trans h1⟩

/-- A round, at a loop's record that stands ready. -/
theorem round_law {F : Fence} (hF : ∀ f, F.fn f) {m B l d : Nat} {fn : FuncId} {tmps : Array Value} {ps : Array Tmp} {assign body : Code} (rec : LoopState → Option Code → Loop)
    (hrec : rec = fun st pe => { state := st, pending := pe, fn, tmps, params := ps, assign, body, defers := d }) (hBl : B ≤ l)
    {encs : α → Array Value} {Kp : World → World → Prop} (hps : ∀ x, (encs x).size = ps.size)
    (hKt : ∀ A B C : World, Kp A B → Kp B C → Kp A C) (hKT : ∀ W W' : World, Turn B W W' → B ≤ W.heap.size → Kp W W')
    {I : List α → World → Prop} {Ix : Code → List α → World → Prop} {A : α → Act → World → Prop} (hI : Stable B I) (hIx : ∀ c, Stable B (Ix c)) (hA : ∀ x a', Stable B (fun (_ : Unit) W => A x a' W))
    {pre : List α} {x : α} {W : World} (hl : W.heap[l]? = some (.loop (rec .ready none)))
    (hassign : ∀ K : Act → World → Prop, (∀ a' W', KeepsFrom B W W' → Kp W W' → I pre W' → A x a' W' → K a' W') → assign.wpIn (F.inRound l) m P (Exit.then K (fun _ _ _ => False)) { tmps := (ps.zip (encs x)).foldl (fun t (p, v) => t.setIfInBounds p v) tmps, defers := [] } W)
    (hbody : ∀ a' W', (∃ r, W'.heap[l]? = some (.loop r) ∧ r.defers = d) → I pre W' → A x a' W' → body.wpIn (F.inRound l) m P (roundOk B Kp I Ix (pre ++ [x]) W') a' W') :
    YieldAt F m P l (encs x) W fun e W' => KeepsFrom (l + 1) W W' ∧ (∀ k o, B ≤ k → k ≠ l → W.heap[k]? = some o → o.isCells = false → W'.heap[k]? = some o) ∧
      ((e = .returned (.bool true) ∧ (I (pre ++ [x]) W' ∧ W'.heap[l]? = some (.loop (rec .ready none))) ∧ Kp W W') ∨
       (e = .returned (.bool false) ∧ ∃ c, Ix c (pre ++ [x]) W' ∧ W'.heap[l]? = some (.loop (rec .done (some c))))) := by
  have hy := run_yield (P := P) (args := encs x) hl (by rw [hrec]; exact hps x)
  rw [hrec] at hy
  refine ⟨fn, _, assign, body, hy, roundIn_of_wpIn (hF fn) (hassign _ ?_)⟩
  intro a' Wa hk1 hkp1 hi1 ha1
  have hla := hk1.same _ _ hBl hl rfl
  have hlt : l < Wa.heap.size := (Array.getElem?_eq_some_iff.1 hla).1
  refine ⟨_, run_beginRound hla (by rw [hrec]), ?_⟩
  have hT1 := Turn.putObj (B := B) (.loop { rec .ready none with state := .busy }) hBl hla rfl
  have hlb : (Wa.putObj l (.loop { rec .ready none with state := .busy })).heap[l]? = some (.loop { rec .ready none with state := .busy }) := World.putObj_heap_same hlt
  have hkp2 := hKt _ _ _ hkp1 (hKT _ _ hT1 (by omega))
  have hks : KeepsFrom (l + 1) Wa (Wa.putObj l (.loop { rec .ready none with state := .busy })) := keepsFrom_putObj Wa _ (by omega)
  have hks' : ∀ k o, k ≠ l → Wa.heap[k]? = some o → (Wa.putObj l (.loop { rec .ready none with state := .busy })).heap[k]? = some o := fun k o hk h => (World.putObj_heap_other hk).trans h
  generalize Wa.putObj l (.loop { rec .ready none with state := .busy }) = Wb at *
  refine wpIn_mono (hbody a' Wb ⟨_, hlb, by rw [hrec]⟩ (hI _ _ _ hi1 hT1) (hA x a' () _ _ ha1 hT1)) ?_
  -- behind the body
  have fin : ∀ (jump : Option Code) (Wc : World), KeepsFrom B Wb Wc →
      (Instr.endRound l jump).run P Wc = .ok (.bool jump.isNone) (Wc.putObj l (.loop (rec (if jump.isNone then .ready else .done) jump))) ∧
      Turn B Wc (Wc.putObj l (.loop (rec (if jump.isNone then .ready else .done) jump))) ∧ B ≤ Wc.heap.size ∧
      (Wc.putObj l (.loop (rec (if jump.isNone then .ready else .done) jump))).heap[l]? = some (.loop (rec (if jump.isNone then .ready else .done) jump)) ∧
      KeepsFrom (l + 1) W (Wc.putObj l (.loop (rec (if jump.isNone then .ready else .done) jump))) ∧
      ∀ k o, B ≤ k → k ≠ l → W.heap[k]? = some o → o.isCells = false → (Wc.putObj l (.loop (rec (if jump.isNone then .ready else .done) jump))).heap[k]? = some o := fun jump Wc hk3 => by
    have hlc := hk3.same _ _ hBl hlb rfl
    have hltc : l < Wc.heap.size := (Array.getElem?_eq_some_iff.1 hlc).1
    have := run_endRound (P := P) jump hlc
    rw [hrec] at this ⊢
    exact ⟨this, Turn.putObj _ hBl hlc rfl, by omega, World.putObj_heap_same hltc,
      (((keepsFrom_less hk1 (by omega)).trans hks).trans (keepsFrom_less hk3 (by omega))).trans (keepsFrom_putObj Wc _ (by omega)),
      fun k o hkB hkl h1 h2 => (World.putObj_heap_other hkl).trans (hk3.same _ _ hkB (hks' _ _ hkl (hk1.same _ _ hkB h1 h2)) h2)⟩
  rintro e a3 Wc hp
  cases e with
  | normal =>
    obtain ⟨hk3, hkp3, hi3⟩ := hp
    obtain ⟨hr, hT, hsz, hl4, hk4, hk5⟩ := fin none Wc hk3
    exact ⟨_, _, hr, hk4, hk5, .inl ⟨rfl, ⟨hI _ _ _ hi3 hT, hl4⟩, hKt _ _ _ (hKt _ _ _ hkp2 hkp3) (hKT _ _ hT hsz)⟩⟩
  | ret =>
    obtain ⟨hk3, hi3⟩ := hp
    obtain ⟨hr, hT, hsz, hl4, hk4, hk5⟩ := fin (some .ret) Wc hk3
    exact ⟨_, _, hr, hk4, hk5, .inr ⟨rfl, .ret, hIx _ _ _ _ hi3 hT, hl4⟩⟩
  | exit id =>
    obtain ⟨hk3, hi3⟩ := hp
    obtain ⟨hr, hT, hsz, hl4, hk4, hk5⟩ := fin (some (.exit id)) Wc hk3
    exact ⟨_, _, hr, hk4, hk5, .inr ⟨rfl, .exit id, hIx _ _ _ _ hi3 hT, hl4⟩⟩
  | goto t =>
    obtain ⟨hk3, hi3⟩ := hp
    obtain ⟨hr, hT, hsz, hl4, hk4, hk5⟩ := fin (some (.goto t)) Wc hk3
    exact ⟨_, _, hr, hk4, hk5, .inr ⟨rfl, .goto t, hIx _ _ _ _ hi3 hT, hl4⟩⟩
  | panic ch => exact hp.elim
  | outgrown => exact hp.elim

theorem stable_loop {β : Type} {B l : Nat} (r : β → Loop) (h : l < B) : Stable B (fun s W => W.heap[l]? = some (.loop (r s))) := fun _ _ _ hs ht => ht.same _ _ hs (.inl h)
theorem stable_obj {β : Type} {B l : Nat} (o : Obj) (h : l < B) : Stable B (fun (_ : β) W => W.heap[l]? = some o) := fun _ _ _ hs ht => ht.same _ _ hs (.inl h)

theorem wpIn_any {F : Fence} (hd : F.depth = none) {c : Code} {n m : Nat} {Q : Exit → Act → World → Prop} {a : Act} {w : World} (h : c.wpIn F n P Q a w) : c.wpIn F m P Q a w :=
  fun b k cs h1 h2 _ => h b k cs h1 h2 (fun d hdd => by rw [hd] at hdd; cases hdd)

/-- What the rounds of a loop owe its iterator. -/
theorem yields_law {B l d : Nat} {fn : FuncId} {tmps : Array Value} {ps : Array Tmp} {assign body : Code} (rec : LoopState → Option Code → Loop)
    (hrec : rec = fun st pe => { state := st, pending := pe, fn, tmps, params := ps, assign, body, defers := d }) (hBl : B ≤ l)
    {encs : α → Array Value} {Kp : World → World → Prop} (hps : ∀ x, (encs x).size = ps.size)
    (hKt : ∀ A B C : World, Kp A B → Kp B C → Kp A C) (hKT : ∀ W W' : World, Turn B W W' → B ≤ W.heap.size → Kp W W')
    {I : List α → World → Prop} {Ix : Code → List α → World → Prop} {A : α → Act → World → Prop} (hI : Stable B I) (hIx : ∀ c, Stable B (Ix c)) (hA : ∀ x a', Stable B (fun (_ : Unit) W => A x a' W))
    {pre : List α} {x : α} {W : World} (hl : W.heap[l]? = some (.loop (rec .ready none)))
    (hassign : ∀ K : Act → World → Prop, (∀ a' W', KeepsFrom B W W' → Kp W W' → I pre W' → A x a' W' → K a' W') → assign.wpIn (Fence.wide.inRound l) 0 P (Exit.then K (fun _ _ _ => False)) { tmps := (ps.zip (encs x)).foldl (fun t (p, v) => t.setIfInBounds p v) tmps, defers := [] } W)
    (hbody : ∀ a' W', (∃ r, W'.heap[l]? = some (.loop r) ∧ r.defers = d) → I pre W' → A x a' W' → body.wpIn (Fence.wide.inRound l) 0 P (roundOk B Kp I Ix (pre ++ [x]) W') a' W') :
    Yields P l (encs x) W fun e W' => KeepsFrom (l + 1) W W' ∧ (∀ k o, B ≤ k → k ≠ l → W.heap[k]? = some o → o.isCells = false → W'.heap[k]? = some o) ∧
      ((e = .returned (.bool true) ∧ (I (pre ++ [x]) W' ∧ W'.heap[l]? = some (.loop (rec .ready none))) ∧ Kp W W') ∨
       (e = .returned (.bool false) ∧ ∃ c, Ix c (pre ++ [x]) W' ∧ W'.heap[l]? = some (.loop (rec .done (some c))))) := fun _ =>
  round_law (F := Fence.wide) (fun _ => trivial) rec hrec hBl hps hKt hKT hI hIx hA hl (fun K hK => wpIn_any rfl (hassign K hK)) (fun a' W' h1 h2 h3 => wpIn_any rfl (hbody a' W' h1 h2 h3))

/-- **THE STATEMENT, outside every round.** -/
theorem range_law {g : Operand} {ps : Array Tmp} {assign body : Code} {Q : Exit → Act → World → Prop} {a : Act} {w : World} {n gf : Nat} {lb : Array Value}
    (hg : a.eval g = .func (.func gf) #[] lb) (eg : ∀ args w, (callFunc gf args).run P w = .ok (.enter gf args) w)
    {encs : α → Array Value} {Kp : World → World → Prop} {S Sp : List α → Prop} (hit : Iter P gf lb encs Kp S Sp w) (hps : ∀ x, (encs x).size = ps.size)
    (hKt : ∀ A B C : World, Kp A B → Kp B C → Kp A C) (hKT : ∀ W W' : World, Turn w.heap.size W W' → w.heap.size ≤ W.heap.size → Kp W W')
    (I : List α → World → Prop) (Ix : Code → List α → World → Prop) (A : α → Act → World → Prop) (hI : Stable w.heap.size I) (hIx : ∀ c, Stable w.heap.size (Ix c)) (hA : ∀ x a', Stable w.heap.size (fun (_ : Unit) W => A x a' W)) (h0 : I [] w)
    (hassign : ∀ l pre x W, I pre W → Sp (pre ++ [x]) → ∀ K : Act → World → Prop, (∀ a' W', KeepsFrom w.heap.size W W' → Kp W W' → I pre W' → A x a' W' → K a' W') →
      assign.wpIn (Fence.wide.inRound l) 0 P (Exit.then K (fun _ _ _ => False)) { tmps := (ps.zip (encs x)).foldl (fun t (p, v) => t.setIfInBounds p v) a.tmps, defers := [] } W)
    (hbody : ∀ l pre x a' W, w.heap.size ≤ l → (∃ r, W.heap[l]? = some (.loop r) ∧ r.defers = w.heap.size) → I pre W → A x a' W → Sp (pre ++ [x]) → body.wpIn (Fence.wide.inRound l) 0 P (roundOk w.heap.size Kp I Ix (pre ++ [x]) W) a' W)
    (hdone : ∀ D xs W, w.heap.size ≤ D → S xs → I xs W → W.heap[D]? = some (.deferred (some [])) → Q .normal { a with defers := { target := .collected D, args := #[] } :: a.defers } W)
    (hstop : ∀ D c pre W, w.heap.size ≤ D → Sp pre → Ix c pre W → W.heap[D]? = some (.deferred (some [])) → c.wpIn Fence.wide n P Q { a with defers := { target := .collected D, args := #[] } :: a.defers } W) :
    (Code.rangeFunc g ps assign body).wpIn Fence.wide n P Q a w := by
  refine wpIn_any (n := 1) rfl (wpIn_rangeFunc ?_)
  intro fn _
  obtain ⟨rec, hrec⟩ : ∃ rec : LoopState → Option Code → Loop, rec = fun st pe => { state := st, pending := pe, fn, tmps := a.tmps, params := ps, assign, body, defers := w.heap.size } := ⟨_, rfl⟩
  have hrun := run_enterLoop_outer (P := P) (w := w) fn a.tmps ps assign body
  obtain ⟨W1, hW1⟩ : ∃ W1, (w.alloc (.deferred (some []))).alloc (.loop (rec .ready none)) = W1 := ⟨_, rfl⟩
  have hE : Ex w.heap.size w W1 := by rw [← hW1]; exact ((Ex.refl _ _).alloc (Nat.le_refl _) _).alloc (by simp) _
  have hT : Turn w.heap.size w W1 := by rw [← hW1]; exact Turn.of_ex _ (((Ex.refl _ _).alloc (Nat.le_refl _) _).alloc (by simp) _)
  have hL : W1.heap[w.heap.size + 1]? = some (.loop (rec .ready none)) := by
    rw [← hW1]; have := World.alloc_heap_new (w.alloc (.deferred (some []))) (.loop (rec .ready none)); rwa [World.size_alloc] at this
  have hD : W1.heap[w.heap.size]? = some (.deferred (some [])) := by
    rw [← hW1]; exact (Below.heap_alloc _ _ _ (by simp)).trans (World.alloc_heap_new w _)
  have hsz : W1.heap.size = w.heap.size + 2 := by rw [← hW1]; simp
  have hrun' : (Instr.enterLoop fn a.tmps ps assign body Fence.wide.round).run P w = .ok (w.heap.size + 1, [{ target := .collected w.heap.size, args := #[] }]) W1 := by
    rw [← hW1, hrec]; exact hrun
  clear hW1 hrun
  refine ⟨w.heap.size + 1, [{ target := .collected w.heap.size, args := #[] }], W1, { target := .fn (.func gf) lb, args := #[.func (.yield (w.heap.size + 1)) #[] #[]] }, W1, gf,
    #[.func (.yield (w.heap.size + 1)) #[] #[]] ++ lb, W1, hrun', ?_, fun _ _ => trivial, ?_, fun h => by simp [Fence.wide] at h, callsIn_wide.2 ?_⟩
  · simp only [resolve, hg]
    simp [go_sem]
  · simp [invoke, go_sem, eg]
  · refine (hit (w.heap.size + 1) (fun pre W => I pre W ∧ W.heap[w.heap.size + 1]? = some (.loop (rec .ready none)) ∧ W.heap[w.heap.size]? = some (.deferred (some [])))
      (fun pre W => ∃ c, Ix c pre W ∧ W.heap[w.heap.size + 1]? = some (.loop (rec .done (some c))) ∧ W.heap[w.heap.size]? = some (.deferred (some []))) W1 hE
      (fun s X Y hs ht => ⟨hI _ _ _ hs.1 (ht.less (by omega)), ht.same _ _ hs.2.1 (.inl (by omega)), ht.same _ _ hs.2.2 (.inl (by omega))⟩)
      (fun s X Y hs ht => by obtain ⟨c, h1, h2, h3⟩ := hs; exact ⟨c, hIx c _ _ _ h1 (ht.less (by omega)), ht.same _ _ h2 (.inl (by omega)), ht.same _ _ h3 (.inl (by omega))⟩)
      ?_ ⟨hI _ _ _ h0 hT, hL, hD⟩).mono ?_
    · rintro pre x W ⟨hi, hl, hd⟩ hsp
      refine (yields_law (B := w.heap.size) rec hrec (by omega) hps hKt hKT hI hIx hA hl (hassign _ pre x W hi hsp) (fun a' W' hr h1 h2 => hbody _ pre x a' W' (by omega) hr h1 h2 hsp)).mono ?_
      rintro e W' ⟨hk, hk', h⟩
      refine ⟨keepsFrom_less hk (by omega), ?_⟩
      have hd' := hk' _ _ (Nat.le_refl _) (by omega) hd rfl
      rcases h with ⟨rfl, ⟨h1, h2⟩, h3⟩ | ⟨rfl, c, h1, h2⟩
      · exact .inl ⟨rfl, ⟨h1, h2, hd'⟩, h3⟩
      · exact .inr ⟨rfl, c, h1, h2, hd'⟩
    · rintro e W2 ⟨⟨v, rfl⟩, (⟨xs, hS, hi, hl, hd⟩ | ⟨pre, hSp, c, hi, hl, hd⟩)⟩
      · have hr := run_endLoop (P := P) hl (by rw [hrec]; simp)
        have ht : Turn w.heap.size W2 (W2.putObj (w.heap.size + 1) (.loop { rec .ready none with state := .exhausted })) := Turn.putObj _ (by omega) hl rfl
        exact ⟨none, _, by rw [hrec] at hr ⊢; exact hr, hdone _ xs _ (Nat.le_refl _) hS (hI _ _ _ hi ht) ((World.putObj_heap_other (by omega)).trans hd)⟩
      · have hr := run_endLoop (P := P) hl (by rw [hrec]; simp)
        have ht : Turn w.heap.size W2 (W2.putObj (w.heap.size + 1) (.loop { rec .done (some c) with state := .exhausted })) := Turn.putObj _ (by omega) hl rfl
        exact ⟨some c, _, by rw [hrec] at hr ⊢; exact hr, wpIn_any rfl (hstop _ c pre _ (Nat.le_refl _) hSp (hIx c _ _ _ hi ht) ((World.putObj_heap_other (by omega)).trans hd))⟩

/-- **THE STATEMENT, in a round of loop l0.** -/
theorem range_law_in {g : Operand} {ps : Array Tmp} {assign body : Code} {Q : Exit → Act → World → Prop} {a : Act} {w : World} {n gf l0 : Nat} {r0 : Loop} {lb : Array Value}
    (hr0 : w.heap[l0]? = some (.loop r0))
    (hg : a.eval g = .func (.func gf) #[] lb) (eg : ∀ args w, (callFunc gf args).run P w = .ok (.enter gf args) w)
    {encs : α → Array Value} {Kp : World → World → Prop} {S Sp : List α → Prop} (hit : Iter P gf lb encs Kp S Sp w) (hps : ∀ x, (encs x).size = ps.size)
    (hKt : ∀ A B C : World, Kp A B → Kp B C → Kp A C) (hKT : ∀ W W' : World, Turn w.heap.size W W' → w.heap.size ≤ W.heap.size → Kp W W')
    (I : List α → World → Prop) (Ix : Code → List α → World → Prop) (A : α → Act → World → Prop) (hI : Stable w.heap.size I) (hIx : ∀ c, Stable w.heap.size (Ix c)) (hA : ∀ x a', Stable w.heap.size (fun (_ : Unit) W => A x a' W)) (h0 : I [] w)
    (hassign : ∀ l pre x W, I pre W → Sp (pre ++ [x]) → ∀ K : Act → World → Prop, (∀ a' W', KeepsFrom w.heap.size W W' → Kp W W' → I pre W' → A x a' W' → K a' W') →
      assign.wpIn (Fence.wide.inRound l) 0 P (Exit.then K (fun _ _ _ => False)) { tmps := (ps.zip (encs x)).foldl (fun t (p, v) => t.setIfInBounds p v) a.tmps, defers := [] } W)
    (hbody : ∀ l pre x a' W, w.heap.size ≤ l → (∃ r, W.heap[l]? = some (.loop r) ∧ r.defers = r0.defers) → I pre W → A x a' W → Sp (pre ++ [x]) → body.wpIn (Fence.wide.inRound l) 0 P (roundOk w.heap.size Kp I Ix (pre ++ [x]) W) a' W)
    (hdone : ∀ xs W, S xs → I xs W → Q .normal a W)
    (hstop : ∀ c pre W, Sp pre → Ix c pre W → c.wpIn (Fence.wide.inRound l0) n P Q a W) :
    (Code.rangeFunc g ps assign body).wpIn (Fence.wide.inRound l0) n P Q a w := by
  refine wpIn_any (n := 1) rfl (wpIn_rangeFunc ?_)
  intro fn _
  obtain ⟨rec, hrec⟩ : ∃ rec : LoopState → Option Code → Loop, rec = fun st pe => { state := st, pending := pe, fn, tmps := a.tmps, params := ps, assign, body, defers := r0.defers } := ⟨_, rfl⟩
  have hrun := run_enterLoop_inner (P := P) hr0 fn a.tmps ps assign body
  obtain ⟨W1, hW1⟩ : ∃ W1, w.alloc (.loop (rec .ready none)) = W1 := ⟨_, rfl⟩
  have hE : Ex w.heap.size w W1 := by rw [← hW1]; exact (Ex.refl _ _).alloc (Nat.le_refl _) _
  have hT : Turn w.heap.size w W1 := by rw [← hW1]; exact Turn.alloc _ _ _
  have hL : W1.heap[w.heap.size]? = some (.loop (rec .ready none)) := by rw [← hW1]; exact World.alloc_heap_new _ _
  have hsz : W1.heap.size = w.heap.size + 1 := by rw [← hW1]; simp
  have hrun' : (Instr.enterLoop fn a.tmps ps assign body (Fence.wide.inRound l0).round).run P w = .ok (w.heap.size, []) W1 := by
    rw [← hW1, hrec]; exact hrun
  clear hW1 hrun
  refine ⟨w.heap.size, [], W1, { target := .fn (.func gf) lb, args := #[.func (.yield w.heap.size) #[] #[]] }, W1, gf,
    #[.func (.yield w.heap.size) #[] #[]] ++ lb, W1, hrun', ?_, fun _ _ => trivial, ?_, fun h => by simp [Fence.wide] at h, CallsIn.inRound l0 (callsIn_wide.2 ?_)⟩
  · simp only [resolve, hg]
    simp [go_sem]
  · simp [invoke, go_sem, eg]
  · refine (hit w.heap.size (fun pre W => I pre W ∧ W.heap[w.heap.size]? = some (.loop (rec .ready none)))
      (fun pre W => ∃ c, Ix c pre W ∧ W.heap[w.heap.size]? = some (.loop (rec .done (some c)))) W1 hE
      (fun s X Y hs ht => ⟨hI _ _ _ hs.1 (ht.less (by omega)), ht.same _ _ hs.2 (.inl (by omega))⟩)
      (fun s X Y hs ht => by obtain ⟨c, h1, h2⟩ := hs; exact ⟨c, hIx c _ _ _ h1 (ht.less (by omega)), ht.same _ _ h2 (.inl (by omega))⟩)
      ?_ ⟨hI _ _ _ h0 hT, hL⟩).mono ?_
    · rintro pre x W ⟨hi, hl⟩ hsp
      refine (yields_law (B := w.heap.size) rec hrec (Nat.le_refl _) hps hKt hKT hI hIx hA hl (hassign _ pre x W hi hsp) (fun a' W' hr h1 h2 => hbody _ pre x a' W' (Nat.le_refl _) hr h1 h2 hsp)).mono ?_
      rintro e W' ⟨hk, _, h⟩
      refine ⟨keepsFrom_less hk (by omega), ?_⟩
      rcases h with ⟨rfl, ⟨h1, h2⟩, h3⟩ | ⟨rfl, c, h1, h2⟩
      · exact .inl ⟨rfl, ⟨h1, h2⟩, h3⟩
      · exact .inr ⟨rfl, c, h1, h2⟩
    · rintro e W2 ⟨⟨v, rfl⟩, (⟨xs, hS, hi, hl⟩ | ⟨pre, hSp, c, hi, hl⟩)⟩
      · have hr := run_endLoop (P := P) hl (by rw [hrec]; simp)
        have ht : Turn w.heap.size W2 (W2.putObj w.heap.size (.loop { rec .ready none with state := .exhausted })) := Turn.putObj _ (Nat.le_refl _) hl rfl
        exact ⟨none, _, by rw [hrec] at hr ⊢; exact hr, hdone xs _ hS (hI _ _ _ hi ht)⟩
      · have hr := run_endLoop (P := P) hl (by rw [hrec]; simp)
        have ht : Turn w.heap.size W2 (W2.putObj w.heap.size (.loop { rec .done (some c) with state := .exhausted })) := Turn.putObj _ (Nat.le_refl _) hl rfl
        exact ⟨some c, _, by rw [hrec] at hr ⊢; exact hr, wpIn_any rfl (hstop c pre _ hSp (hIx c _ _ _ hi ht))⟩
end

/-- What lay lies as it lay; the heap may have grown. -/
def Grows (w w' : World) : Prop := Ex w.heap.size w w'
theorem Grows.refl (w : World) : Grows w w := Ex.refl _ _
theorem Grows.trans {a b c : World} (h : Grows a b) (k : Grows b c) : Grows a c := Ex.trans h (k.mono h.size)
theorem Grows.drew {a w : World} (h : Grows a w) : Grows a { w with drawn := w.drawn + 1 } := Ex.drew h

abbrev VP := Value → World → Prop
def Mono (V : VP) : Prop := ∀ v w w', Grows w w' → V v w → V v w'
def Is (e : Value) : VP := fun v _ => v = e
theorem mono_is (e : Value) : Mono (Is e) := fun _ _ _ _ h => h

abbrev Acc := List (Tmp × VP)
/-- The predicate of a slot: that of the operation that wrote it, else: what it held at the start. -/
def env (a0 : Act) : Acc → Tmp → VP
  | [], t => Is (a0.eval (.tmp t))
  | (d, V) :: r, t => if d = t then V else env a0 r t

def OpGood (P : Program) (V : VP) (w : World) : Result Next → Prop
  | .ok (.value v) w' => Grows w w' ∧ V v w'
  | .ok .skip w' => Grows w w' ∧ V undef w'
  | .ok (.enter f args) w' => Grows w w' ∧ Calls P f args w' fun e w'' => ∃ v, e = .returned v ∧ Grows w w'' ∧ V v w''
  | .ok (.row row args) w' => Grows w w' ∧ Rows P row args w' fun v w'' => Grows w w'' ∧ V v w''
  | _ => False

def readsOf : List Operand → List Tmp
  | [] => []
  | .tmp t :: r => t :: readsOf r
  | _ :: r => readsOf r

def All (E : Tmp → VP) (ρ : Operand → Value) (w : World) : List Tmp → Prop
  | [] => True
  | t :: r => E t (ρ (.tmp t)) w ∧ All E ρ w r
theorem all_mk {E : Tmp → VP} {ρ : Operand → Value} {w : World} : ∀ {l : List Tmp}, (∀ t ∈ l, E t (ρ (.tmp t)) w) → All E ρ w l
  | [], _ => trivial
  | t :: _, h => ⟨h t (by simp), all_mk fun u hu => h u (by simp [hu])⟩

/-- The environment is an activation's. -/
structure Env (ρ : Operand → Value) : Prop where
  const : ∀ v, ρ (.const v) = v
  func : ∀ f, ρ (.func f) = .func (.func f) #[] #[]
  global : ∀ g, ρ (.global g) = .pointer (some ⟨g, 0, none⟩)
theorem env_eval (a : Act) : Env a.eval := ⟨fun _ => rfl, fun _ => rfl, fun _ => rfl⟩

def dstOf (ops : Array Oper) (k : Nat) : Option Tmp := (ops[k]?).bind (·.dst)

/-- One operation of the head. -/
def StepOk (P : Program) (ops : Array Oper) (w0 : World) (a0 : Act) (acc : Acc) (V : VP) (o : Oper) : Prop :=
  ∀ (ρ : Operand → Value) (w : World), Env ρ → Grows w0 w → All (env a0 acc) ρ w (readsOf o.op.operands.toList) →
    match o.guard with
    | none => OpGood P V w ((execOp ρ o).run P w)
    | some (k, b) => ∃ d, dstOf ops k = some d ∧ ∀ g, env a0 acc d g w → (g = .bool b → OpGood P V w ((execOp ρ o).run P w)) ∧ (g ≠ .bool b → V undef w)

def accOf (acc : Acc) (d : Option Tmp) (V : VP) : Acc := match d with | some t => (t, V) :: acc | none => acc

def FwdGo (P : Program) (ops : Array Oper) (w0 : World) (a0 : Act) (fin : Acc → Prop) : List Oper → Acc → Prop
  | [], acc => fin acc
  | o :: rest, acc => ∃ V, Mono V ∧ StepOk P ops w0 a0 acc V o ∧ FwdGo P ops w0 a0 fin rest (accOf acc o.dst V)

/-- The frame at the end: each slot that was written holds a value that satisfies its predicate. (The list bears the last one first.) -/
def EndAt (w : World) : Acc → Act → (Act → Prop) → Prop
  | [], a, K => K a
  | (d, V) :: r, a, K => EndAt w r a fun a' => ∀ v, V v w → K (a'.put (some d) v)

/-- Who looks at a slot waits for its writer, or the writer for him. -/
def waits (ops : Array Oper) (i j : Nat) : Bool := match ops[i]? with | some o => o.after.any fun e => Region.binds .any e && e.on == j | none => false
def looks (ops : Array Oper) (i : Nat) : List Tmp :=
  match ops[i]? with
  | some o => readsOf o.op.operands.toList ++ (match o.guard with | some (k, _) => (dstOf ops k).toList | none => [])
  | none => []
/-- The check of a head of n operations: its slots are written once each, are slots of the frame; who looks at one waits .. -/
def headB (ops : Array Oper) (size n : Nat) : Bool :=
  (List.range n).all fun j => match dstOf ops j with
    | none => true
    | some d => decide (d < size) && (List.range n).all fun i => (decide (i = j) || dstOf ops i != some d) && (!(looks ops i).contains d || (if j < i then waits ops i j else decide (i < j) && waits ops j i))
/-- Each operation waits only for operations ahead of it in the text. -/
def backB (ops : Array Oper) : Bool := (List.range ops.size).all fun i => match ops[i]? with | some o => o.after.all fun e => !Region.binds .any e || decide (e.on < i) | none => true
def chk (ops : Array Oper) (size n : Nat) : Bool :=
  headB ops size n && backB ops && decide (n ≤ ops.size) && (decide (n = ops.size) || (Region.sinkB .any ops n && Region.chainB .any ops n)) &&
    Region.seqB .any ops (ops.size - n) n ((List.replicate n true).toArray ++ (List.replicate (ops.size - n) false).toArray)

/-! ### how many are left -/
def left : Nat → Array Bool → Nat
  | 0, _ => 0
  | k + 1, l => left k l + if l.getD k true = true then 0 else 1
theorem left_set {i : Nat} {l : Array Bool} (hu : l.getD i true = false) : ∀ n, i < n → left n (l.setIfInBounds i true) + 1 = left n l
  | 0, h => absurd h (Nat.not_lt_zero _)
  | n + 1, h => by
    have hi : i < l.size := by
      rcases Nat.lt_or_ge i l.size with h' | h'
      · exact h'
      · simp [Array.getElem?_eq_none h'] at hu
    by_cases hin : i = n
    · subst hin
      have e : ∀ m, m ≤ i → left m (l.setIfInBounds i true) = left m l := by
        intro m
        induction m with
        | zero => intro _; rfl
        | succ m ih => intro hm; simp only [left, ih (by omega)]; rw [getD_set_ne true (by omega)]
      simp only [left, e i (Nat.le_refl _), hu]
      have : (l.setIfInBounds i true).getD i true = true := by simp [hi]
      simp [this]
    · have := left_set hu n (by omega)
      simp only [left]
      rw [getD_set_ne true hin]
      omega
theorem left_zero {l : Array Bool} : ∀ n, left n l = 0 → ∀ i, i < n → l.getD i true = true
  | 0, _, i, h => absurd h (Nat.not_lt_zero _)
  | n + 1, h0, i, h => by
    simp only [left] at h0
    by_cases hin : i = n
    · subst hin
      by_cases hh : l.getD i true = true
      · exact hh
      · simp only [hh] at h0; simp at h0
    · exact left_zero n (by omega) i (by omega)
theorem left_pos {l : Array Bool} : ∀ n, left n l ≠ 0 → ∃ i, i < n ∧ l.getD i true = false ∧ ∀ j, j < i → l.getD j true = true
  | 0, h => absurd rfl h
  | n + 1, h => by
    by_cases h0 : left n l = 0
    · refine ⟨n, by omega, ?_, fun j hj => left_zero n h0 j hj⟩
      simp only [left, h0] at h
      cases hh : l.getD n true with
      | false => rfl
      | true => simp only [hh] at h; simp at h
    · obtain ⟨i, hi, hu, hb⟩ := left_pos n h0
      exact ⟨i, by omega, hu, hb⟩

section
variable {P : Program} {ops : Array Oper} {w0 : World} {a0 : Act}

/-! ### the predicates, one an operation -/
def accU (ops : Array Oper) (Vs : Nat → VP) : Nat → Acc
  | 0 => []
  | i + 1 => accOf (accU ops Vs i) (dstOf ops i) (Vs i)

theorem fwd_choose {fin : Acc → Prop} : ∀ (l : List Oper) (k : Nat) (Vs : Nat → VP), (∀ j, j < l.length → l[j]? = ops[k + j]?) →
    FwdGo P ops w0 a0 fin l (accU ops Vs k) →
    ∃ Ws : Nat → VP, (∀ i, i < k → Ws i = Vs i) ∧ (∀ i, k ≤ i → i < k + l.length → Mono (Ws i) ∧ ∀ o, ops[i]? = some o → StepOk P ops w0 a0 (accU ops Ws i) (Ws i) o) ∧ fin (accU ops Ws (k + l.length))
  | [], k, Vs, _, h => ⟨Vs, fun _ _ => rfl, fun i h1 h2 => by simp at h2; omega, h⟩
  | o :: l, k, Vs, hl, ⟨V, hm, hs, hgo⟩ => by
    have h0 : ops[k]? = some o := by simpa using (hl 0 (by simp)).symm
    have eU : ∀ (A B : Nat → VP) m, (∀ i, i < m → A i = B i) → accU ops A m = accU ops B m := by
      intro A B m
      induction m with
      | zero => intro _; rfl
      | succ m ih => intro h; simp only [accU, ih (fun i hi => h i (by omega)), h m (by omega)]
    let Vs' : Nat → VP := fun i => if i = k then V else Vs i
    have e1 : accU ops Vs' k = accU ops Vs k := eU _ _ _ fun i hi => by simp [Vs', Nat.ne_of_lt hi]
    have e2 : accU ops Vs' (k + 1) = accOf (accU ops Vs k) o.dst V := by
      simp only [accU, e1, dstOf, h0, Option.bind_some]; simp [Vs']
    obtain ⟨Ws, hw1, hw2, hw3⟩ := fwd_choose l (k + 1) Vs' (fun j hj => by have := hl (j + 1) (by simp; omega); simpa [Nat.add_assoc, Nat.add_comm 1 j] using this) (by rw [e2]; exact hgo)
    have hk : Ws k = V := by rw [hw1 k (by omega)]; simp [Vs']
    have hsame : ∀ i, i < k → Ws i = Vs i := fun i hi => by rw [hw1 i (by omega)]; simp [Vs', Nat.ne_of_lt hi]
    refine ⟨Ws, hsame, fun i h1 h2 => ?_, by rw [show k + (o :: l).length = k + 1 + l.length by simp; omega]; exact hw3⟩
    by_cases hik : i = k
    · subst hik
      rw [hk, eU Ws Vs i hsame]
      exact ⟨hm, fun o' ho' => by rw [h0] at ho'; cases ho'; exact hs⟩
    · exact hw2 i (by omega) (by simp at h2; omega)

theorem env_none {Vs : Nat → VP} {t : Tmp} : ∀ i, (∀ j, j < i → dstOf ops j ≠ some t) → env a0 (accU ops Vs i) t = Is (a0.eval (.tmp t))
  | 0, _ => rfl
  | i + 1, h => by
    simp only [accU]
    cases hd : dstOf ops i with
    | none => simp only [accOf]; exact env_none i fun j hj => h j (by omega)
    | some d =>
      have : d ≠ t := fun e => h i (by omega) (by rw [hd, e])
      simp only [accOf, env, if_neg this]; exact env_none i fun j hj => h j (by omega)
theorem env_some {Vs : Nat → VP} {t : Tmp} {j : Nat} (hd : dstOf ops j = some t) : ∀ i, j < i → (∀ k, k < i → k ≠ j → dstOf ops k ≠ some t) → env a0 (accU ops Vs i) t = Vs j
  | 0, h, _ => absurd h (Nat.not_lt_zero _)
  | i + 1, h, hne => by
    simp only [accU]
    by_cases hij : j = i
    · subst hij; simp [hd, accOf, env]
    · cases hd' : dstOf ops i with
      | none => simp only [accOf]; exact env_some hd i (by omega) fun k hk hkj => hne k (by omega) hkj
      | some d =>
        have : d ≠ t := fun e => hne i (by omega) (by omega) (by rw [hd', e])
        simp only [accOf, env, if_neg this]; exact env_some hd i (by omega) fun k hk hkj => hne k (by omega) hkj

/-! ### what holds in the midst -/
structure Inv (ops : Array Oper) (w0 : World) (a0 : Act) (Vs : Nat → VP) (n : Nat) (listed : Array Bool) (a : Act) (w : World) : Prop where
  head : HeadInv .any ops n listed
  grows : Grows w0 w
  defers : a.defers = a0.defers
  size : a.tmps.size = a0.tmps.size
  done : ∀ j t, j < n → dstOf ops j = some t → listed.getD j true = true → Vs j (a.eval (.tmp t)) w
  still : ∀ t, (∀ j, j < n → dstOf ops j = some t → listed.getD j true = false) → a.eval (.tmp t) = a0.eval (.tmp t)

theorem mem_contains {d : Tmp} {l : List Tmp} (h : d ∈ l) : l.contains d = true := by simpa using h

theorem waits_spec {i j : Nat} (h : waits ops i j = true) : ∃ o, ops[i]? = some o ∧ ∃ e ∈ o.after, Region.binds .any e = true ∧ e.on = j := by
  unfold waits at h
  split at h
  · rename_i o ho
    obtain ⟨e, he, hb⟩ := Array.any_eq_true'.1 h
    simp only [Bool.and_eq_true, beq_iff_eq] at hb
    exact ⟨o, ho, e, he, hb.1, hb.2⟩
  · cases h

theorem getD_tt {listed : Array Bool} {i : Nat} (h : listed.getD i false = true) : listed.getD i true = true := by
  rcases Nat.lt_or_ge i listed.size with h' | h'
  · simp [h'] at h ⊢; exact h
  · simp [Array.getElem?_eq_none h']
theorem getD_ff {listed : Array Bool} {i : Nat} (hi : i < listed.size) (h : listed.getD i true = true) : listed.getD i false = true := by
  simp [hi] at h ⊢; exact h

theorem head_spec {size n : Nat} (h : headB ops size n = true) {j : Nat} {d : Tmp} (hj : j < n) (hd : dstOf ops j = some d) :
    d < size ∧ (∀ i, i < n → i ≠ j → dstOf ops i ≠ some d) ∧ ∀ i, i < n → d ∈ looks ops i → (j < i ∧ waits ops i j = true) ∨ (i < j ∧ waits ops j i = true) := by
  unfold headB at h
  have h1 := List.all_eq_true.1 h j (List.mem_range.2 hj)
  rw [hd] at h1
  simp only [Bool.and_eq_true, decide_eq_true_eq] at h1
  obtain ⟨h2, h3⟩ := h1
  refine ⟨h2, fun i hi hne he => ?_, fun i hi hl => ?_⟩
  · have h4 := List.all_eq_true.1 h3 i (List.mem_range.2 hi)
    simp only [Bool.and_eq_true, Bool.or_eq_true, decide_eq_true_eq] at h4
    rcases h4.1 with h5 | h5
    · exact hne h5
    · rw [he] at h5; simp at h5
  · have h4 := List.all_eq_true.1 h3 i (List.mem_range.2 hi)
    simp only [Bool.and_eq_true, Bool.or_eq_true] at h4
    rcases h4.2 with h5 | h5
    · rw [mem_contains hl] at h5; simp at h5
    · split at h5
      · rename_i hlt; exact .inl ⟨hlt, h5⟩
      · simp only [Bool.and_eq_true, decide_eq_true_eq] at h5; exact .inr h5

/-- What a ready operation finds in a slot at which it looks. -/
theorem Inv.slot {Vs : Nat → VP} {n size i : Nat} {listed : Array Bool} {a : Act} {w : World} (inv : Inv ops w0 a0 Vs n listed a w) (hB : headB ops size n = true)
    (hi : i ∈ Region.ready .any ops listed) (hin : i < n) {t : Tmp} (ht : t ∈ looks ops i) : env a0 (accU ops Vs i) t (a.eval (.tmp t)) w := by
  obtain ⟨hun, o, ho, hall⟩ := mem_ready.1 hi
  by_cases hw : ∃ j, j < n ∧ dstOf ops j = some t
  · obtain ⟨j, hj, hd⟩ := hw
    obtain ⟨_, hdist, hlk⟩ := head_spec hB hj hd
    rcases hlk i hin ht with ⟨hji, hwt⟩ | ⟨hij, hwt⟩
    · obtain ⟨o', ho', e, he, hb, hon⟩ := waits_spec hwt
      rw [ho] at ho'; cases ho'
      have hl := hall e he hb
      rw [hon] at hl
      rw [env_some hd i hji fun k hk hkj => hdist k (by omega) hkj]
      exact inv.done j t hj hd (getD_tt hl)
    · obtain ⟨o', ho', e, he, hb, hon⟩ := waits_spec hwt
      have hnl : listed.getD j true = false := by
        cases hl : listed.getD j true with
        | false => rfl
        | true =>
          have hjs : j < listed.size := by rw [inv.head.size]; exact (Array.getElem?_eq_some_iff.1 ho').1
          have := inv.head.closed j o' ho' (getD_ff hjs hl) e he hb
          rw [hon, getD_both hun] at this; cases this
      rw [env_none i fun k hk hk2 => hdist k (by omega) (by omega) hk2]
      exact inv.still t fun k hk hk2 => by
        by_cases hkj : k = j
        · rw [hkj]; exact hnl
        · exact absurd hk2 (hdist k hk hkj)
  · rw [env_none i fun k hk hk2 => hw ⟨k, by omega, hk2⟩]
    exact inv.still t fun k hk hk2 => absurd ⟨k, hk, hk2⟩ hw

theorem Act.eval_put_same {a : Act} {t : Tmp} {v : Value} (h : t < a.tmps.size) : (a.put (some t) v).eval (.tmp t) = v := by
  simp [Act.put, Act.eval, h]
theorem Act.size_put (a : Act) (d : Option Tmp) (v : Value) : (a.put d v).tmps.size = a.tmps.size := by cases d <;> simp [Act.put]
theorem Act.defers_put (a : Act) (d : Option Tmp) (v : Value) : (a.put d v).defers = a.defers := by cases d <;> rfl

/-- One step on: operation i has yielded v. -/
theorem Inv.step {Vs : Nat → VP} {n i : Nat} {listed : Array Bool} {a : Act} {w w' : World} {v : Value} (inv : Inv ops w0 a0 Vs n listed a w) (hB : headB ops a0.tmps.size n = true)
    (hm : ∀ j, j < n → Mono (Vs j)) (hi : i ∈ Region.ready .any ops listed) (hin : i < n) (hg : Grows w w') (hv : Vs i v w') :
    Inv ops w0 a0 Vs n (listed.setIfInBounds i true) (a.put (dstOf ops i) v) w' := by
  have hun := (mem_ready.1 hi).1
  refine ⟨inv.head.set hi hin, inv.grows.trans hg, by rw [Act.defers_put]; exact inv.defers, by rw [Act.size_put]; exact inv.size, fun j t hj hd hl => ?_, fun t h => ?_⟩
  · by_cases hji : j = i
    · subst hji
      rw [hd, Act.eval_put_same (by rw [inv.size]; exact (head_spec hB hj hd).1)]
      exact hv
    · rw [getD_set_ne true (Ne.symm hji)] at hl
      rw [Act.eval_put fun d h1 h2 => (head_spec hB hj hd).2.1 i hin (Ne.symm hji) (by rw [h1]; cases h2; rfl)]
      exact hm j hj _ _ _ hg (inv.done j t hj hd hl)
  · have hne : dstOf ops i ≠ some t := fun he => by
      have := h i hin he
      have hs : i < listed.size := by
        rcases Nat.lt_or_ge i listed.size with h' | h'
        · exact h'
        · simp [Array.getElem?_eq_none h'] at hun
      simp [hs] at this
    rw [Act.eval_put fun d h1 h2 => hne (by rw [h1]; cases h2; rfl)]
    exact inv.still t fun j hj hd => by
      have := h j hj hd
      by_cases hji : j = i
      · subst hji; exact absurd hd hne
      · rwa [getD_set_ne true (Ne.symm hji)] at this

theorem wp_of_good {o : Oper} {V : VP} {a : Act} {w : World} {K : Act → World → Prop} {Q : Exit → Act → World → Prop} (h : OpGood P V w ((execOp a.eval o).run P w))
    (hK : ∀ v w', Grows w w' → V v w' → K (a.put o.dst v) w') : o.wp P a w K Q := by
  unfold Oper.wp
  generalize (execOp a.eval o).run P w = r at *
  cases r with
  | halt x w' => exact h.elim
  | ok x w' =>
    cases x <;> simp only [OpGood] at h <;> simp only [Oper.upon]
    case value v => exact hK _ _ h.1 h.2
    case skip => exact hK _ _ h.1 h.2
    case enter f args =>
      refine h.2.mono ?_
      rintro e w'' ⟨v, rfl, hg, hv⟩
      exact hK _ _ hg hv
    case row row args => exact h.2.mono fun v w'' hh => hK _ _ hh.1 hh.2

/-- The frame at the end. -/
theorem end_of_inv {Vs : Nat → VP} {n : Nat} {a : Act} {w : World} (hB : headB ops a0.tmps.size n = true) (hs : a.tmps.size = a0.tmps.size) (hd : a.defers = a0.defers)
    (done : ∀ j t, j < n → dstOf ops j = some t → Vs j (a.eval (.tmp t)) w) (still : ∀ t, (∀ j, j < n → dstOf ops j ≠ some t) → a.eval (.tmp t) = a0.eval (.tmp t)) {K : Act → Prop}
    (h : EndAt w (accU ops Vs n) a0 K) : K a := by
  have key : ∀ m, m ≤ n → ∀ (K : Act → Prop), EndAt w (accU ops Vs m) a0 K → ∃ b : Act, K b ∧ b.tmps.size = a0.tmps.size ∧ b.defers = a0.defers ∧ (∀ j t, j < m → dstOf ops j = some t → b.eval (.tmp t) = a.eval (.tmp t)) ∧
      (∀ t, (∀ j, j < m → dstOf ops j ≠ some t) → b.eval (.tmp t) = a0.eval (.tmp t)) := by
    intro m
    induction m with
    | zero => intro _ K h; exact ⟨a0, h, rfl, rfl, fun j t hj => absurd hj (Nat.not_lt_zero _), fun _ _ => rfl⟩
    | succ m ih =>
      intro hm K h
      simp only [accU] at h
      cases hdm : dstOf ops m with
      | none =>
        rw [hdm] at h
        obtain ⟨b, h1, h2, h3, h4, h5⟩ := ih (by omega) K h
        refine ⟨b, h1, h2, h3, fun j t hj hd => ?_, fun t hh => h5 t fun j hj => hh j (by omega)⟩
        by_cases hjm : j = m
        · rw [hjm, hdm] at hd; cases hd
        · exact h4 j t (by omega) hd
      | some d =>
        rw [hdm] at h
        simp only [accOf, EndAt] at h
        obtain ⟨b, h1, h2, h3, h4, h5⟩ := ih (by omega) _ h
        have hsp := head_spec hB (show m < n by omega) hdm
        refine ⟨b.put (some d) (a.eval (.tmp d)), h1 _ (done m d (by omega) hdm), by rw [Act.size_put]; exact h2, by rw [Act.defers_put]; exact h3, fun j t hj hd' => ?_, fun t hh => ?_⟩
        · by_cases hjm : j = m
          · rw [hjm, hdm] at hd'; cases hd'
            exact Act.eval_put_same (by rw [h2]; exact hsp.1)
          · rw [Act.eval_put fun d' e1 e2 => by cases e1; cases e2; exact hsp.2.1 j (by omega) hjm hd']
            exact h4 j t (by omega) hd'
        · rw [Act.eval_put fun d' e1 e2 => by cases e1; cases e2; exact hh m (by omega) hdm]
          exact h5 t fun j hj => hh j (by omega)
  obtain ⟨b, h1, h2, h3, h4, h5⟩ := key n (Nat.le_refl _) K h
  have : b = a := by
    have et : b.tmps = a.tmps := by
      apply Array.ext (by rw [h2, hs])
      intro t ht1 ht2
      have e : b.eval (.tmp t) = a.eval (.tmp t) := by
        by_cases hw : ∃ j, j < n ∧ dstOf ops j = some t
        · obtain ⟨j, hj, hd'⟩ := hw; exact h4 j t hj hd'
        · rw [h5 t fun j hj he => hw ⟨j, hj, he⟩, still t fun j hj he => hw ⟨j, hj, he⟩]
      simpa [Act.eval, ht1, ht2] using e
    cases a; cases b; simp_all
  rw [← this]; exact h1

/-- The head in whatever order, then the tail. -/
theorem any_of_inv {Vs : Nat → VP} {n : Nat} {Q : Exit → Act → World → Prop} (hm : ∀ j, j < n → Mono (Vs j)) (hst : ∀ i, i < n → ∀ o, ops[i]? = some o → StepOk P ops w0 a0 (accU ops Vs i) (Vs i) o)
    (hB : headB ops a0.tmps.size n = true) (hback : backB ops = true) (hn : n ≤ ops.size) (htail : n = ops.size ∨ (Region.sinkB .any ops n = true ∧ Region.chainB .any ops n = true))
    (hseq : Region.seqB .any ops (ops.size - n) n ((List.replicate n true).toArray ++ (List.replicate (ops.size - n) false).toArray) = true)
    (hfin : ∀ a w, a.tmps.size = a0.tmps.size → a.defers = a0.defers → Grows w0 w → (∀ j t, j < n → dstOf ops j = some t → Vs j (a.eval (.tmp t)) w) → (∀ t, (∀ j, j < n → dstOf ops j ≠ some t) → a.eval (.tmp t) = a0.eval (.tmp t)) →
      wpList P ops Q (ops.toList.drop n) a w) :
    ∀ (f : Nat) (listed : Array Bool) (a : Act) (w : World), left n listed = f → Inv ops w0 a0 Vs n listed a w → wpAny P .any ops Q (f + (ops.size - n)) listed a w
  | 0, listed, a, w, h0, inv => by
    have hall := left_zero n h0
    have hl : listed = (List.replicate n true).toArray ++ (List.replicate (ops.size - n) false).toArray := by
      apply Array.ext
      · simp [inv.head.size]; omega
      · intro i h1 h2
        by_cases hin : i < n
        · have := hall i hin
          simp [h1] at this
          rw [this, Array.getElem_append_left (by simpa using hin)]; simp
        · have hs : i < ops.size := by rw [← inv.head.size]; exact h1
          have := inv.head.tail i (by omega) hs
          simp [h1] at this
          rw [this, Array.getElem_append_right (by simp; omega)]; simp
    rw [Nat.zero_add]
    have hlen : (ops.toList.drop n).length = ops.size - n := by simp
    have := wpAny_of_seq (P := P) (md := .any) (ops := ops) (Q' := Q) (ops.toList.drop n) n listed a w (fun j => by simp) (by rw [hlen, hl]; exact hseq)
      (hfin a w inv.size inv.defers inv.grows (fun j t hj hd => inv.done j t hj hd (hall j hj)) (fun t h => inv.still t fun j hj hd => absurd hd (h j hj)))
    rwa [hlen] at this
  | f + 1, listed, a, w, h0, inv => by
    obtain ⟨i0, hi0, hu0, hb0⟩ := left_pos n (by rw [h0]; exact Nat.succ_ne_zero f)
    have hr0 : i0 ∈ Region.ready .any ops listed := by
      have hlt : i0 < ops.size := by omega
      refine mem_ready.2 ⟨hu0, ops[i0], by simp [hlt], fun e he hb => ?_⟩
      have h1 := List.all_eq_true.1 hback i0 (List.mem_range.2 hlt)
      rw [Array.getElem?_eq_getElem hlt] at h1
      have h2 := Array.all_eq_true'.1 h1 e he
      have h3 : e.on < i0 := by simpa [hb] using h2
      exact getD_ff (by rw [inv.head.size]; omega) (hb0 _ h3)
    rw [show f + 1 + (ops.size - n) = (f + (ops.size - n)) + 1 by omega]
    refine ⟨fun h => (by rw [h] at hr0; cases hr0), fun i hi => ?_⟩
    have hlt : i < ops.size := by obtain ⟨_, o, ho, _⟩ := mem_ready.1 hi; exact (Array.getElem?_eq_some_iff.1 ho).1
    have hin : i < n := by
      rcases Nat.lt_or_ge i n with h | h
      · exact h
      · rcases htail with hh | ⟨hs, hc⟩
        · omega
        · exact absurd hi (tail_waits hs hc (by omega) inv.head _ i0 rfl hi0 hu0 i h)
    obtain ⟨hun, o, ho, _⟩ := mem_ready.1 hi
    have hleft : left n (listed.setIfInBounds i true) = f := by have := left_set hun n hin; omega
    have next : ∀ v w', Grows w w' → Vs i v w' → wpAny P .any ops Q (f + (ops.size - n)) (listed.setIfInBounds i true) (a.put o.dst v) w' := fun v w' hg hv => by
      have := inv.step hB hm hi hin hg hv
      have e : dstOf ops i = o.dst := by simp [dstOf, ho]
      rw [e] at this
      exact any_of_inv hm hst hB hback hn htail hseq hfin f _ _ _ hleft this
    have hlk : ∀ t ∈ readsOf o.op.operands.toList, env a0 (accU ops Vs i) t (a.eval (.tmp t)) w := fun t ht => inv.slot hB hi hin (by simp only [looks, ho]; exact List.mem_append.2 (.inl ht))
    have hs := hst i hin o ho a.eval w (env_eval a) inv.grows (all_mk hlk)
    unfold wpOp
    simp only [ho]
    cases hgd : o.guard with
    | none =>
      rw [hgd] at hs
      simp only [Region.wanted, hgd, if_true]
      exact .inl (wp_of_good hs next)
    | some kb =>
      obtain ⟨k, b⟩ := kb
      rw [hgd] at hs
      simp only at hs
      obtain ⟨d, hd, hs⟩ := hs
      have hg := hs (a.eval (.tmp d)) (inv.slot hB hi hin (by simp only [looks, ho, hgd, hd]; exact List.mem_append.2 (.inr (by simp))))
      have hy : yielded ops a.tmps k = match a.tmps[d]? with | some (.bool c) => some c | _ => none := by
        unfold yielded
        have : (ops[k]?).bind (·.dst) = some d := hd
        rw [this]; rfl
      by_cases hb : a.eval (.tmp d) = .bool b
      · have hw : Region.wanted o (yielded ops a.tmps) = true := by
          simp only [Region.wanted, hgd, hy]
          have : a.tmps[d]? = some (.bool b) := by
            simp only [Act.eval] at hb
            cases hh : a.tmps[d]? with
            | none => simp [hh, undef] at hb
            | some x => simp [hh] at hb; rw [hb]
          rw [this]; simp
        rw [if_pos hw]
        exact .inl (wp_of_good (hg.1 hb) next)
      · have hw : ¬ Region.wanted o (yielded ops a.tmps) = true := by
          simp only [Region.wanted, hgd, hy]
          intro h
          apply hb
          simp only [Act.eval]
          cases hh : a.tmps[d]? with
          | none => simp [hh] at h
          | some x => cases x <;> simp [hh] at h; simp [hh, h]
        rw [if_neg hw]
        exact next _ _ (Grows.refl w) (hg.2 hb)
end

theorem take_get {l : List Oper} {n j : Nat} (hj : j < (l.take n).length) : (l.take n)[j]? = l.toArray[0 + j]? := by
  have : j < n := by simp at hj; omega
  simp [this]

/-- **THE LAW.** n: how many operations are the head; the others end the region in the order of the text. -/
theorem wp_region_fwd {P : Program} {id : Nat} {Q : Exit → Act → World → Prop} {a : Act} {w : World} {l : List Oper} (n : Nat) (hm : P.follows .mixedOrders = true) (hB : chk l.toArray a.tmps.size n = true)
    (h : FwdGo P l.toArray w a (fun acc => ∀ w', Grows w w' → EndAt w' acc a fun a' => wpList P l.toArray Q (l.drop n) a' w') (l.take n) []) : (Code.region id l.toArray true).wp P Q a w := by
  simp only [chk, Bool.and_eq_true, decide_eq_true_eq, Bool.or_eq_true] at hB
  obtain ⟨⟨⟨⟨h1, h2⟩, h3⟩, h4⟩, h5⟩ := hB
  obtain ⟨Vs, _, hs, hf⟩ := fwd_choose (P := P) (ops := l.toArray) (w0 := w) (a0 := a) (l.take n) 0 (fun _ _ _ => True) (fun j hj => take_get hj) h
  have hlen : (l.take n).length = n := by simp at h3 ⊢; omega
  rw [hlen, Nat.zero_add] at hs hf
  refine wp_region_any hm ?_
  have key := any_of_inv (P := P) (ops := l.toArray) (w0 := w) (a0 := a) (Vs := Vs) (n := n) (Q := Q) (fun j hj => (hs j (Nat.zero_le _) (by omega)).1) (fun i hi => (hs i (Nat.zero_le _) (by omega)).2) h1 h2 h3 h4 h5
    (fun a' w' e1 e2 hg hd hst => by
      have := end_of_inv (K := fun a' => wpList P l.toArray Q (l.drop n) a' w') h1 e1 e2 hd hst (hf w' hg)
      simpa using this)
    (left n (Array.replicate l.toArray.size false)) (Array.replicate l.toArray.size false) a { w with drawn := w.drawn + 1 } rfl
    ⟨⟨by simp, fun j oj _ hl => (by rw [getD_replicate_false] at hl; cases hl), fun t _ ht => getD_in (by simpa using ht) (getD_replicate_false _ _)⟩, (Grows.refl w).drew, rfl, rfl,
      fun j t hj _ hl => by
        have : j < l.toArray.size := by omega
        simp at this; simp [this] at hl, fun _ _ => rfl⟩
  have hleft : ∀ m, m ≤ l.toArray.size → left m (Array.replicate l.toArray.size false) = m := by
    intro m
    induction m with
    | zero => intro _; rfl
    | succ m ih =>
      intro hm
      have : m < l.length := by simp at hm; omega
      simp only [left, ih (by omega)]
      simp [this]
  rw [hleft n h3, show n + (l.toArray.size - n) = l.toArray.size by omega] at key
  exact key


/-- It returns v, and what lay lies as it lay. -/
def Ret (v : Value) (w : World) (e : Ending) (w' : World) : Prop := e = .returned v ∧ Ex w.heap.size w w'
/-- It returns v, and the world is as it was. -/
def Same (v : Value) (w : World) (e : Ending) (w' : World) : Prop := e = .returned v ∧ w' = w
/-- It returns a value of which V holds in the world that it leaves, and what lay lies as it lay. -/
def RetV (V : VP) (w : World) (e : Ending) (w' : World) : Prop := ∃ v, e = .returned v ∧ Ex w.heap.size w w' ∧ V v w'
theorem Ret.v {P : Program} {f : FuncId} {args : Array Value} {w : World} {v : Value} (h : Calls P f args w (Ret v w)) : Calls P f args w (RetV (Is v) w) := h.mono fun _ _ h => ⟨v, h.1, h.2, rfl⟩

theorem bcell {W w1 : World} (hb : Ex W.heap.size W w1) : (∀ b o, b < W.heap.size → w1.cell? ⟨b, o, none⟩ = W.cell? ⟨b, o, none⟩) ∧ (∀ b o, b < W.heap.size → w1.frozen? ⟨b, o, none⟩ = W.frozen? ⟨b, o, none⟩) :=
  ⟨fun b o h => hb.toBelow.cell (p := ⟨b, o, none⟩) h, fun b o h => hb.toBelow.frozen (p := ⟨b, o, none⟩) h⟩

theorem region_tail {P : Program} {id : Nat} {Q : Exit → Act → World → Prop} {a : Act} {w : World} {l : List Oper} (n : Nat) (hm : P.follows .mixedOrders = true) (hB : Region.lexTailB .any l.toArray n = true)
    (h : wpStill P l.toArray w.drew (fun a' => wpList P l.toArray Q (l.drop n) a' w.drew) (l.take n) a) : (Code.region id l.toArray true).wp P Q a w := wp_region_still_tail n hm hB h

theorem wpList_store_rowTo' {P : Program} {ops : Array Oper} {rest : List Oper} {o : Oper} {a : Act} {w : World} {Q : Exit → Act → World → Prop} (hgd : o.guard = none) (ty : TypeId) (x y : Operand) (ho : o.op = .store ty x y)
    (hd : o.dst = none) (g : Nat) (cells : Array Value) (hx : a.eval x = .pointer (some ⟨g, 0, none⟩)) (hy : a.eval y = .agg cells)
    (t : TypeId) (old : Array Value) (hg : w.heap[g]? = some (.cells old t (0, 0))) (hi : (P.info? ty).map (·.size) = some cells.size)
    (hold : old.size = cells.size) (h1 : cells.all (·.oneCell') = true)
    (h : wpList P ops Q rest a (w.setRow g cells)) : wpList P ops Q (o :: rest) a w :=
  wpList_store_row hgd ty x y ho g cells hx hy t old hg hi hold h1 (by rw [hd]; exact h)
theorem heap_new (w : World) (o : Obj) (n : Nat) (h : n = w.heap.size) : (w.alloc o).heap[n]? = some o := by subst h; exact heap_alloc_new w o

/-! ### append -/
/-- Behind an append: the row is longer; another row of cells is as it was; no fewer draws. -/
structure Grew (w w' : World) (row : Option Nat) : Prop extends w.grownBy w' row where
  drawn : drn w ≤ drn w'
theorem wpList_append {P : Program} (w : World) {ops : Array Oper} {rest : List Oper} {o : Oper} {a : Act} {Q : Exit → Act → World → Prop}
    (hg : o.guard = none) (s x : Operand) (t : TypeId) (hop : o.op = Op.call { callee := Callee.builtin Builtin.append, args := #[s, x], argTypes := #[t, t] })
    (base : Nat) (e : TypeId) (i : TypeInfo) (z : Value) (size bytes : Nat) (h1 : P.underlying t = some (.slice e)) (h2 : P.info? e = some i) (h3 : i.zero = some z) (h4 : i.size = size) (h5 : i.bytes = bytes) (h6 : z.cells.size = size) (h7 : 0 < size)
    (v : Value) (k : Nat) (xs : List Value) (hs : a.eval s = v) (hown : w.ownsRow base e size v k xs) (ad : Addr) (m c : Nat) (news : List Value) (hx : a.eval x = .slice (some ad) m c) (hn : news.length = m * size)
    (hc : ∀ j u, news[j]? = some u → w.cell? (ad.add j) = some u) (h1c : ∀ u ∈ news, u.oneCell' = true) (b1 : k + m ≤ maxLen) (b2 : (k + m) * bytes ≤ 140737488355328) (b3 : base ≤ w.heap.size)
    (hK : ∀ v' w', w'.ownsRow base e size v' (k + m) (xs ++ news) → Grew w w' v.ownBlock → (v' = .slice none 0 0 ↔ v = .slice none 0 0 ∧ m = 0) → wpList P ops Q rest (a.put o.dst v') w') :
    wpList P ops Q (o :: rest) a w := by
  refine wpList_plain hg fun K hK' => ?_
  obtain ⟨v', w', hrun, r1, r2, r3⟩ := run_append_own (P := P) w base t o.type e i z size bytes h1 h2 h3 h4 h5 h6 h7 v k xs hown ad m c news hn hc h1c b1 b2 b3
  have hd := run_drawn _ _ _ _ hrun
  unfold Oper.wp
  simp [execOp, hop, resolve, invoke, builtin, hs, hx, hrun, Result.andThen]
  exact hK' _ _ (hK v' w' r1 ⟨r2, Nat.le_refl 0⟩ r3)
theorem wpListIn_append {F : Fence} {n : Nat} {P : Program} (w : World) {ops : Array Oper} {rest : List Oper} {o : Oper} {a : Act} {Q : Exit → Act → World → Prop}
    (hg : o.guard = none) (s x : Operand) (t : TypeId) (hop : o.op = Op.call { callee := Callee.builtin Builtin.append, args := #[s, x], argTypes := #[t, t] })
    (base : Nat) (e : TypeId) (i : TypeInfo) (z : Value) (size bytes : Nat) (h1 : P.underlying t = some (.slice e)) (h2 : P.info? e = some i) (h3 : i.zero = some z) (h4 : i.size = size) (h5 : i.bytes = bytes) (h6 : z.cells.size = size) (h7 : 0 < size)
    (v : Value) (k : Nat) (xs : List Value) (hs : a.eval s = v) (hown : w.ownsRow base e size v k xs) (ad : Addr) (m c : Nat) (news : List Value) (hx : a.eval x = .slice (some ad) m c) (hn : news.length = m * size)
    (hc : ∀ j u, news[j]? = some u → w.cell? (ad.add j) = some u) (h1c : ∀ u ∈ news, u.oneCell' = true) (b1 : k + m ≤ maxLen) (b2 : (k + m) * bytes ≤ 140737488355328) (b3 : base ≤ w.heap.size)
    (hK : ∀ v' w', w'.ownsRow base e size v' (k + m) (xs ++ news) → Grew w w' v.ownBlock → (v' = .slice none 0 0 ↔ v = .slice none 0 0 ∧ m = 0) → wpListIn F n P ops Q rest (a.put o.dst v') w') :
    wpListIn F n P ops Q (o :: rest) a w := by
  refine wpListIn_plain hg fun K hK' => ?_
  obtain ⟨v', w', hrun, r1, r2, r3⟩ := run_append_own (P := P) w base t o.type e i z size bytes h1 h2 h3 h4 h5 h6 h7 v k xs hown ad m c news hn hc h1c b1 b2 b3
  have hd := run_drawn _ _ _ _ hrun
  unfold Oper.wpIn
  refine ⟨?_, ?_⟩
  · simp [Oper.about, hop, resolve, Target.leads, Sem.run_pure]
  · rw [Oper.semAt_plain F _ _ (by rw [hop]; intro c hc'; cases hc')]
    simp [execOp, hop, resolve, invoke, builtin, hs, hx, hrun, Result.andThen]
    exact hK' _ _ (hK v' w' r1 ⟨r2, Nat.le_refl 0⟩ r3)
theorem cells_new (w : World) (news : List Value) (t : TypeId) : ∀ j u, news[j]? = some u → (w.alloc (.cells news.toArray t)).cell? ((⟨w.heap.size, 0, none⟩ : Addr).add j) = some u := by
  intro j u hj
  have e : (⟨w.heap.size, 0, none⟩ : Addr).add j = ⟨w.heap.size, j, none⟩ := by unfold Addr.add; split <;> simp_all
  rw [e, cell_of_row _ _ _ _ _ _ (heap_new w _ _ rfl)]
  simpa using hj
theorem row_not_own {W : World} {B : Nat} {t e : TypeId} {cs : Array Value} {f : Nat × Nat} (h : W.heap[B]? = some (.cells cs t f)) (hte : t ≠ e) {base size k : Nat} {v : Value} {xs : List Value} (hr : W.ownsRow base e size v k xs) : some B ≠ v.ownBlock := by
  rcases hr.2 with ⟨rfl, _⟩ | ⟨g, cap, cur, rfl, _, hgb, _⟩
  · simp [Value.ownBlock]
  · intro e'
    obtain rfl : B = g := by simpa [Value.ownBlock] using e'
    have := h.symm.trans hgb
    simp at this
    exact hte this.2.1
/-- Behind an append another row of cells is as it was. -/
theorem row_appended {W w1 : World} {B : Nat} {t e : TypeId} {cs : Array Value} {f : Nat × Nat} {base size k : Nat} {v : Value} {xs : List Value} {tmp : Obj} (h : W.heap[B]? = some (.cells cs t f)) (hte : t ≠ e) (hr : W.ownsRow base e size v k xs)
    (hgrow : Grew (W.alloc tmp) w1 v.ownBlock) : w1.heap[B]? = some (.cells cs t f) := by
  have hlt := (Array.getElem?_eq_some_iff.1 h).1
  rw [hgrow.block B (by simp; omega) (row_not_own h hte hr), Below.heap_alloc _ _ _ hlt]; exact h
theorem owns_slice {w : World} {base : Nat} {e : TypeId} {size : Nat} {v : Value} {n : Nat} {xs : List Value} (h : w.ownsRow base e size v n xs) : ∃ a cap, v = .slice a n cap := by
  rcases h.2 with ⟨rfl, rfl⟩ | ⟨g, cap, cur, rfl, _⟩
  · exact ⟨_, _, rfl⟩
  · exact ⟨_, _, rfl⟩
theorem owns_base {w : World} {base : Nat} {e : TypeId} {size : Nat} {n g cap : Nat} {xs : List Value} (h : w.ownsRow base e size (.slice (some ⟨g, 0, none⟩) n cap) n xs) : base ≤ g := by
  rcases h.2 with ⟨h, _⟩ | ⟨g', _, _, h, hb, _⟩
  · cases h
  · cases h; exact hb
/-- Behind an append, old memory: the row's base is new. -/
theorem ex_grew {B base : Nat} {w0 W w1 : World} {e : TypeId} {size k : Nat} {v : Value} {xs : List Value} {tmp : Obj} (h : Ex B w0 W) (hB : B ≤ W.heap.size) (hbase : B ≤ base) (hr : W.ownsRow base e size v k xs) (hgrow : Grew (W.alloc tmp) w1 v.ownBlock) : Ex B w0 w1 :=
  ⟨(h.toBelow.alloc hB tmp).grown hgrow.togrownBy (by simp; omega) (fun j ej => by
    rcases hr.2 with ⟨rfl, _⟩ | ⟨g, cap, cur, rfl, hb, _, _⟩
    · simp [Value.ownBlock] at ej
    · obtain rfl : g = j := by simpa [Value.ownBlock] using ej
      omega), Nat.le_trans h.drawn hgrow.drawn⟩
/-- A row of cells that is stable is one that a turn leaves. -/
theorem stable_owns {β : Type} {B : Nat} (base : Nat) (e : TypeId) (size : Nat) (v : β → Value) (n : β → Nat) (xs : β → List Value) : Stable B (fun s W => W.ownsRow base e size (v s) (n s) (xs s)) := by
  rintro s W W' ⟨h1, h2⟩ ht
  refine ⟨h1, h2.imp id ?_⟩
  rintro ⟨g, cap, cur, hv, hb, hg, r⟩
  exact ⟨g, cap, cur, hv, hb, ht.same _ _ hg (.inr rfl), r⟩
/-- A variable that holds a slice which owns its row. -/
theorem stable_boxowns {β : Type} {B : Nat} (b : Nat) (t : TypeId) (base : Nat) (e : TypeId) (size : Nat) (n : β → Nat) (xs : β → List Value) : Stable B (fun s W => ∃ v, Boxed W b t v ∧ W.ownsRow base e size v (n s) (xs s)) := by
  rintro s W W' ⟨v, hv, ho⟩ ht
  exact ⟨v, ht.same _ _ hv (.inr rfl), stable_owns base e size (fun _ : Unit => v) (fun _ => n s) (fun _ => xs s) () _ _ ho ht⟩
/-- 'out = append(out, ..)' where out is a variable in a box: behind the append and the store back. -/
theorem box_appended {W w1 : World} {B0 b : Nat} {t e : TypeId} {size : Nat} {v v' : Value} {base k m : Nat} {xs ys : List Value} {tmp : Obj} {w0 : World}
    (hv : Boxed W b t v) (hte : t ≠ e) (hrow : W.ownsRow base e size v k xs) (hE : Ex B0 w0 W) (hB : B0 ≤ W.heap.size) (hB0 : B0 ≤ base) (hb : B0 ≤ b)
    (hown' : w1.ownsRow base e size v' m ys) (hgrow : Grew (W.alloc tmp) w1 v.ownBlock) :
    Boxed w1 b t v ∧ Boxed (w1.setCell ⟨b, 0, none⟩ v') b t v' ∧ (w1.setCell ⟨b, 0, none⟩ v').ownsRow base e size v' m ys ∧ KeepsOthers W (w1.setCell ⟨b, 0, none⟩ v') ∧ Ex B0 w0 (w1.setCell ⟨b, 0, none⟩ v') := by
  have hv1 : Boxed w1 b t v := row_appended hv hte hrow hgrow
  refine ⟨hv1, hv1.set v', hown'.kept (grownBy_setCell' w1 b v') (.inr (hv1.not_row hte hown').symm), ?_, (ex_grew hE hB hB0 hrow hgrow).setCell hb v'⟩
  refine ((KeepsOthers.alloc W tmp).trans (KeepsOthers.of_grownBy hgrow.togrownBy fun j o ej hj => ?_)).trans (KeepsOthers.setCell _ _ _)
  rcases (hrow.alloc tmp).2 with ⟨rfl, _⟩ | ⟨g, cap, cur, rfl, _, hgb, _⟩
  · simp [Value.ownBlock] at ej
  · obtain rfl : g = j := by simpa [Value.ownBlock] using ej
    rw [hgb] at hj; cases hj; rfl

/-! ### slices that are read -/
/-- The slice value v has n elements, and its cells hold cs. -/
def SlAt (n : Nat) (cs : List Value) (v : Value) (w : World) : Prop :=
  (v = .slice none 0 0 ∧ n = 0 ∧ cs = []) ∨ ∃ b o cap, v = .slice (some ⟨b, o, none⟩) n cap ∧ b < w.heap.size ∧ ∀ (i : Nat) (x : Value), cs[i]? = some x → w.cell? ⟨b, o + i, none⟩ = some x
theorem SlAt.mono (n : Nat) (cs : List Value) : Mono (SlAt n cs) := by
  rintro v w w' hg (⟨rfl, h1, h2⟩ | ⟨b, o, cap, rfl, hb, hc⟩)
  · exact .inl ⟨rfl, h1, h2⟩
  · exact .inr ⟨b, o, cap, rfl, Nat.lt_of_lt_of_le hb hg.size, fun i x hx => (hg.toBelow.cell (p := ⟨b, o + i, none⟩) hb).trans (hc i x hx)⟩
/-- What owns a row reads as a slice. -/
theorem slAt_of_owns {w : World} {base : Nat} {e : TypeId} {size : Nat} {v : Value} {n : Nat} {xs : List Value} (h : w.ownsRow base e size v n xs) : SlAt n xs v w := by
  obtain ⟨hl, ⟨rfl, h0⟩ | ⟨g, cap, cur, rfl, _, hg, hnc, _, hcs, ht⟩⟩ := h
  · subst h0; exact .inl ⟨rfl, rfl, by simpa using hl⟩
  · refine .inr ⟨g, 0, cap, rfl, (Array.getElem?_eq_some_iff.1 hg).1, fun i x hx => ?_⟩
    rw [Nat.zero_add, cell_of_row _ _ _ _ _ _ hg]
    rw [← ht] at hx
    have hi : i < n * size := by
      rcases Nat.lt_or_ge i (n * size) with h | h
      · exact h
      · rw [List.getElem?_take] at hx; simp [Nat.not_lt.2 h] at hx
    rw [List.getElem?_take, if_pos hi] at hx
    simpa using hx

/-! ### results in boxes; the end of a function that ranges over a function -/
theorem run_load_box {P : Program} {W : World} {b : Nat} {t ty : TypeId} {v : Value} (h : Boxed W b t v) (ha : ∀ w, (isAgg ty).run P w = .ok false w) : (loadVar ty ⟨b, 0, none⟩).run P W = .ok v W := by
  have hc := h.cell
  simp [loadVar, Sem.run_bind, ha, Result.andThen_ok, load, Sem.run, hc]
theorem results_box2 {P : Program} {fn : Func} {p q : Tmp} {tp tq t1 t2 : TypeId} {b1 b2 : Nat} {v1 v2 : Value} {W : World} {tmps : Array Value} (h : fn.results = #[.cell p tp, .cell q tq])
    (hp : tmps[p]?.getD undef = .pointer (some ⟨b1, 0, none⟩)) (hq : tmps[q]?.getD undef = .pointer (some ⟨b2, 0, none⟩)) (h1 : Boxed W b1 t1 v1) (h2 : Boxed W b2 t2 v2)
    (ha : ∀ w, (isAgg tp).run P w = .ok false w) (hb : ∀ w, (isAgg tq).run P w = .ok false w) : (results fn tmps).run P W = .ok (.tuple #[v1, v2]) W := by
  simp [results, h, hp, hq, asAddr, Sem.run_bind, run_load_box h1 ha, run_load_box h2 hb, Result.andThen_ok]
/-- Rows of cells are kept where an object that is no cells turns. -/
theorem row_put {W : World} {B l : Nat} {t : TypeId} {cs : Array Value} {f : Nat × Nat} {o : Obj} (h : W.heap[B]? = some (.cells cs t f)) (o' : Obj) (hl : W.heap[l]? = some o) (ho : o.isCells = false) : (W.putObj l o').heap[B]? = some (.cells cs t f) :=
  (Turn.putObj (B := 0) o' (Nat.zero_le _) hl ho).same _ _ h (.inr rfl)
theorem box_put {W : World} {B l : Nat} {t : TypeId} {v : Value} {o : Obj} (h : Boxed W B t v) (o' : Obj) (hl : W.heap[l]? = some o) (ho : o.isCells = false) : Boxed (W.putObj l o') B t v := row_put h o' hl ho
theorem ex_put {B l : Nat} {w0 W : World} (h : Ex B w0 W) {o : Obj} (o' : Obj) (hl : W.heap[l]? = some o) (ho : o.isCells = false) (hB : B ≤ l) (hs : B ≤ W.heap.size) : Ex B w0 (W.putObj l o') :=
  h.trans ((Turn.putObj o' hB hl ho).ex hs)
/-- The end of a function that ranges over a function once. -/
theorem end_marks {P : Program} {fn : Func} {R : Ending → World → Prop} {n : Nat} {e : Exit} {a : Act} {W : World} {D : Nat} {v : Value} (he : e = .normal ∨ e = .ret) (ha : a.defers = [{ target := .collected D, args := #[] }])
    (hD : W.heap[D]? = some (.deferred (some []))) (hres : (results fn a.tmps).run P (W.putObj D (.deferred none)) = .ok v (W.putObj D (.deferred none))) (hR : R (.returned v) (W.putObj D (.deferred none))) : bodyPostM Fence.wide n P fn R e a W := by
  have key : LeavesInM Fence.wide n P fn a.tmps R a.defers .returning W := by
    rw [ha]
    exact ⟨by simp, .inl ⟨_, _, rfl, run_takeDeferred hD, ⟨_, hres, hR⟩⟩⟩
  rcases he with rfl | rfl <;> exact key

/-- Block b is as it was. -/
def KeepsBlk (b : Nat) (W W' : World) : Prop := W'.heap[b]? = W.heap[b]?
theorem keepsBlk_t {b : Nat} (A B C : World) (h : KeepsBlk b A B) (k : KeepsBlk b B C) : KeepsBlk b A C := Eq.trans k h
theorem keepsBlk_T {b : Nat} {w : World} (hb : b < w.heap.size) (W W' : World) (ht : Turn w.heap.size W W') (hs : w.heap.size ≤ W.heap.size) : KeepsBlk b W W' := (ht.ex hs).block b hb
/-- The law, where the assignment to the loop's left sides makes no memory. -/
theorem range_law1 {P : Program} {α : Type} {g : Operand} {ps : Array Tmp} {assign body : Code} {Q : Exit → Act → World → Prop} {a : Act} {w : World} {n gf : Nat} {lb : Array Value}
    (hg : a.eval g = .func (.func gf) #[] lb) (eg : ∀ args w, (callFunc gf args).run P w = .ok (.enter gf args) w)
    {encs : α → Array Value} {Kp : World → World → Prop} {S Sp : List α → Prop} (hit : Iter P gf lb encs Kp S Sp w) (hps : ∀ x, (encs x).size = ps.size)
    (hKr : ∀ W, Kp W W) (hKt : ∀ A B C : World, Kp A B → Kp B C → Kp A C) (hKT : ∀ W W' : World, Turn w.heap.size W W' → w.heap.size ≤ W.heap.size → Kp W W')
    (I : List α → World → Prop) (Ix : Code → List α → World → Prop) (hI : Stable w.heap.size I) (hIx : ∀ c, Stable w.heap.size (Ix c)) (h0 : I [] w) (a₁ : α → Act)
    (hassign : ∀ l x W (K : Act → World → Prop), K (a₁ x) W → assign.wpIn (Fence.wide.inRound l) 0 P (Exit.then K (fun _ _ _ => False)) { tmps := (ps.zip (encs x)).foldl (fun t (p, v) => t.setIfInBounds p v) a.tmps, defers := [] } W)
    (hbody : ∀ l pre x W, w.heap.size ≤ l → (∃ r, W.heap[l]? = some (.loop r) ∧ r.defers = w.heap.size) → I pre W → Sp (pre ++ [x]) → body.wpIn (Fence.wide.inRound l) 0 P (roundOk w.heap.size Kp I Ix (pre ++ [x]) W) (a₁ x) W)
    (hdone : ∀ D xs W, w.heap.size ≤ D → S xs → I xs W → W.heap[D]? = some (.deferred (some [])) → Q .normal { a with defers := { target := .collected D, args := #[] } :: a.defers } W)
    (hstop : ∀ D c pre W, w.heap.size ≤ D → Sp pre → Ix c pre W → W.heap[D]? = some (.deferred (some [])) → c.wpIn Fence.wide n P Q { a with defers := { target := .collected D, args := #[] } :: a.defers } W) :
    (Code.rangeFunc g ps assign body).wpIn Fence.wide n P Q a w :=
  range_law hg eg hit hps hKt hKT I Ix (fun x a' _ => a' = a₁ x) hI hIx (fun _ _ => stable_pure _ _) h0
    (fun l pre x W hi _ K hK => hassign l x W K (hK _ _ (KeepsFrom.refl _ _) (hKr W) hi rfl))
    (fun l pre x a' W hl hr hi ha hs => by subst ha; exact hbody l pre x W hl hr hi hs) hdone hstop

section
variable {P : Program} {ops : Array Oper} {w0 : World} {a0 : Act} {fin : Acc → Prop} {o : Oper} {rest : List Oper} {acc : Acc}
/-- What an operation may use of the frame. -/
abbrev Uses (w0 : World) (a0 : Act) (acc : Acc) (o : Oper) (ρ : Operand → Value) (W : World) : Prop :=
  (∀ v, ρ (.const v) = v) ∧ (∀ f, ρ (.func f) = .func (.func f) #[] #[]) ∧ Grows w0 W ∧ All (env a0 acc) ρ W (readsOf o.op.operands.toList)

theorem fwd_is {e : Value} (hgd : o.guard = none)
    (h : ∀ ρ W, Uses w0 a0 acc o ρ W → (execOp ρ o).run P W = .ok (.value e) W)
    (hk : FwdGo P ops w0 a0 fin rest (accOf acc o.dst (Is e))) : FwdGo P ops w0 a0 fin (o :: rest) acc :=
  ⟨Is e, mono_is e, fun ρ W hE hg hr => by rw [hgd]; simp only; rw [h ρ W ⟨hE.const, hE.func, hg, hr⟩]; exact ⟨Grows.refl W, rfl⟩, hk⟩
/-- A call that hands back a known value. -/
theorem fwd_call {e : Value} {f : FuncId} {args : Array Value} (hgd : o.guard = none)
    (h : ∀ ρ W, Uses w0 a0 acc o ρ W → (execOp ρ o).run P W = .ok (.enter f args) W)
    (hc : ∀ W, Calls P f args W (Ret e W))
    (hk : FwdGo P ops w0 a0 fin rest (accOf acc o.dst (Is e))) : FwdGo P ops w0 a0 fin (o :: rest) acc :=
  ⟨Is e, mono_is e, fun ρ W hE hg hr => by
    rw [hgd]; simp only; rw [h ρ W ⟨hE.const, hE.func, hg, hr⟩]
    exact ⟨Grows.refl W, (hc W).mono fun e' w' hh => ⟨e, hh.1, hh.2, rfl⟩⟩, hk⟩
/-- Under a guard that is met. -/
theorem fwd_isg {e : Value} {k d : Nat} {b : Bool} (hgd : o.guard = some (k, b)) (hd : dstOf ops k = some d) (hg : ∀ g W, env a0 acc d g W → g = .bool b)
    (h : ∀ ρ W, Uses w0 a0 acc o ρ W → (execOp ρ o).run P W = .ok (.value e) W)
    (hk : FwdGo P ops w0 a0 fin rest (accOf acc o.dst (Is e))) : FwdGo P ops w0 a0 fin (o :: rest) acc :=
  ⟨Is e, mono_is e, fun ρ W hE hgr hr => by
    rw [hgd]; simp only
    refine ⟨d, hd, fun g hgv => ⟨fun _ => ?_, fun hne => absurd (hg g W hgv) hne⟩⟩
    rw [h ρ W ⟨hE.const, hE.func, hgr, hr⟩]; exact ⟨Grows.refl W, rfl⟩, hk⟩
theorem fwd_callg {e : Value} {f : FuncId} {args : Array Value} {k d : Nat} {b : Bool} (hgd : o.guard = some (k, b)) (hd : dstOf ops k = some d) (hg : ∀ g W, env a0 acc d g W → g = .bool b)
    (h : ∀ ρ W, Uses w0 a0 acc o ρ W → (execOp ρ o).run P W = .ok (.enter f args) W)
    (hc : ∀ W, Calls P f args W (Ret e W))
    (hk : FwdGo P ops w0 a0 fin rest (accOf acc o.dst (Is e))) : FwdGo P ops w0 a0 fin (o :: rest) acc :=
  ⟨Is e, mono_is e, fun ρ W hE hgr hr => by
    rw [hgd]; simp only
    refine ⟨d, hd, fun g hgv => ⟨fun _ => ?_, fun hne => absurd (hg g W hgv) hne⟩⟩
    rw [h ρ W ⟨hE.const, hE.func, hgr, hr⟩]; exact ⟨Grows.refl W, (hc W).mono fun e' w' hh => ⟨e, hh.1, hh.2, rfl⟩⟩, hk⟩
/-- Under a guard that is not met: passed over. -/
theorem fwd_skip {k d : Nat} {b : Bool} (hgd : o.guard = some (k, b)) (hd : dstOf ops k = some d) (hg : ∀ g W, env a0 acc d g W → g = .bool (!b))
    (hk : FwdGo P ops w0 a0 fin rest (accOf acc o.dst (Is undef))) : FwdGo P ops w0 a0 fin (o :: rest) acc :=
  ⟨Is undef, mono_is undef, fun ρ W _ _ _ => by
    rw [hgd]; simp only
    refine ⟨d, hd, fun g hgv => ⟨fun he => ?_, fun _ => rfl⟩⟩
    rw [hg g W hgv] at he; (cases b <;> cases he), hk⟩
/-- The general step. -/
theorem fwd_any (V : VP) (hm : Mono V) (hs : StepOk P ops w0 a0 acc V o) (hk : FwdGo P ops w0 a0 fin rest (accOf acc o.dst V)) : FwdGo P ops w0 a0 fin (o :: rest) acc := ⟨V, hm, hs, hk⟩
/-- A whole array or struct out of a variable that lay when the region began. -/
theorem fwd_load {ty : TypeId} {x : Operand} {g : Nat} {cs : Array Value} {t : TypeId} {fr : Nat × Nat} {d : TypeDesc} (hgd : o.guard = none) (ho : o.op = .load ty x)
    (hx : ∀ ρ W, Uses w0 a0 acc o ρ W → ρ x = .pointer (some ⟨g, 0, none⟩)) (hg : w0.heap[g]? = some (.cells cs t fr)) (hu : P.underlying ty = some d)
    (hd : (match d with | .struct _ | .array _ _ => true | _ => false) = true) (hi : (P.info? ty).map (·.size) = some cs.size)
    (hk : FwdGo P ops w0 a0 fin rest (accOf acc o.dst (Is (.agg cs)))) : FwdGo P ops w0 a0 fin (o :: rest) acc :=
  fwd_is hgd (fun ρ W h => by
    have hgW : W.heap[g]? = some (.cells cs t fr) := (h.2.2.1.block g (Array.getElem?_eq_some_iff.1 hg).1).trans hg
    unfold execOp
    simp only [ho, hx ρ W h, Instr.loadAt, Instr.sureAddr, Sem.run_bind, Sem.run_pure, Result.andThen_ok, run_loadVar_row W g t ty cs fr d hgW hu hd hi]) hk
theorem fwd_nil (h : fin acc) : FwdGo P ops w0 a0 fin [] acc := h
end





end Go.Fwd
