/-
  Further steps for regions whose order is open: guarded operations, slices, pointers into them; the end by one slot.
-/
import Derived.Test.YtcdmdnadilafhaaDoorZdBase
import Derived.Laws.BytesArg
set_option linter.unusedSimpArgs false
set_option linter.unusedVariables false
namespace Go.Fwd
open Go Go.RowKit
section
variable {P : Program} {ops : Array Oper} {w0 : World} {a0 : Act} {fin : Acc → Prop} {o : Oper} {rest : List Oper} {acc : Acc}
/-- The guard is met. -/
abbrev Met (ops : Array Oper) (a0 : Act) (acc : Acc) (o : Oper) : Prop :=
  match o.guard with | none => True | some (k, b) => ∃ d, dstOf ops k = some d ∧ ∀ g W, env a0 acc d g W → g = .bool b
theorem fwd_v {t : Tmp} (V : VP) (hm : Mono V) (hd : o.dst = some t) (hgd : Met ops a0 acc o)
    (h : ∀ ρ W, Uses w0 a0 acc o ρ W → OpGood P V W ((execOp ρ o).run P W))
    (hk : FwdGo P ops w0 a0 fin rest ((t, V) :: acc)) : FwdGo P ops w0 a0 fin (o :: rest) acc :=
  ⟨V, hm, fun ρ W hE hgr hr => by
    have key := h ρ W ⟨hE.const, hE.func, hgr, hr⟩
    unfold Met at hgd
    cases hg : o.guard with
    | none => exact key
    | some kb =>
      obtain ⟨k, b⟩ := kb
      rw [hg] at hgd
      obtain ⟨d, hd, hb⟩ := hgd
      exact ⟨d, hd, fun g hgv => ⟨fun _ => key, fun hne => absurd (hb g W hgv) hne⟩⟩, by rw [hd]; exact hk⟩
/-- A value that is known. -/
theorem fwd_e {t : Tmp} {e : Value} (hd : o.dst = some t) (hgd : Met ops a0 acc o)
    (h : ∀ ρ W, Uses w0 a0 acc o ρ W → (execOp ρ o).run P W = .ok (.value e) W)
    (hk : FwdGo P ops w0 a0 fin rest ((t, Is e) :: acc)) : FwdGo P ops w0 a0 fin (o :: rest) acc :=
  fwd_v (Is e) (mono_is e) hd hgd (fun ρ W hu => by rw [h ρ W hu]; exact ⟨Grows.refl W, rfl⟩) hk
/-- The value of an operand of which V holds. -/
theorem fwd_m {t : Tmp} (V : VP) (hm : Mono V) (hd : o.dst = some t) (hgd : Met ops a0 acc o)
    (h : ∀ ρ W, Uses w0 a0 acc o ρ W → ∃ v, (execOp ρ o).run P W = .ok (.value v) W ∧ V v W)
    (hk : FwdGo P ops w0 a0 fin rest ((t, V) :: acc)) : FwdGo P ops w0 a0 fin (o :: rest) acc :=
  fwd_v V hm hd hgd (fun ρ W hu => by obtain ⟨v, h1, h2⟩ := h ρ W hu; rw [h1]; exact ⟨Grows.refl W, h2⟩) hk
/-- A call that hands back a value of which V holds. -/
theorem fwd_c {t : Tmp} (V : VP) (hm : Mono V) (hd : o.dst = some t) (hgd : Met ops a0 acc o)
    (h : ∀ ρ W, Uses w0 a0 acc o ρ W → ∃ f args, (execOp ρ o).run P W = .ok (.enter f args) W ∧ Calls P f args W (RetV V W))
    (hk : FwdGo P ops w0 a0 fin rest ((t, V) :: acc)) : FwdGo P ops w0 a0 fin (o :: rest) acc :=
  fwd_v V hm hd hgd (fun ρ W hu => by
    obtain ⟨f, args, h1, h2⟩ := h ρ W hu
    rw [h1]; exact ⟨Grows.refl W, h2.mono fun e w' ⟨v, r1, r2, r3⟩ => ⟨v, r1, r2, r3⟩⟩) hk
theorem fwd_ce {t : Tmp} {e : Value} (hd : o.dst = some t) (hgd : Met ops a0 acc o)
    (h : ∀ ρ W, Uses w0 a0 acc o ρ W → ∃ f args, (execOp ρ o).run P W = .ok (.enter f args) W ∧ Calls P f args W (Ret e W))
    (hk : FwdGo P ops w0 a0 fin rest ((t, Is e) :: acc)) : FwdGo P ops w0 a0 fin (o :: rest) acc :=
  fwd_c (Is e) (mono_is e) hd hgd (fun ρ W hu => by obtain ⟨f, args, h1, h2⟩ := h ρ W hu; exact ⟨f, args, h1, Ret.v h2⟩) hk
theorem slAt_new (cs : Array Value) (n : Nat) (t : TypeId) (W : World) : SlAt n cs.toList (.slice (some ⟨W.heap.size, 0, none⟩) n n) (W.alloc (.cells cs t)) := by
  refine .inr ⟨_, _, _, rfl, by simp, fun i x hx => ?_⟩
  rw [Nat.zero_add, cell_of_row _ _ _ _ _ _ (heap_new _ _ _ rfl)]
  simpa using hx
/-- A list's slice that is made here. -/
theorem fwd_s {t : Tmp} (cs : Array Value) (n : Nat) (ty : TypeId) (hd : o.dst = some t) (hgd : Met ops a0 acc o)
    (h : ∀ ρ W, Uses w0 a0 acc o ρ W → (execOp ρ o).run P W = .ok (.value (.slice (some ⟨W.heap.size, 0, none⟩) n n)) (W.alloc (.cells cs ty)))
    (hk : FwdGo P ops w0 a0 fin rest ((t, SlAt n cs.toList) :: acc)) : FwdGo P ops w0 a0 fin (o :: rest) acc :=
  fwd_v (SlAt n cs.toList) (SlAt.mono _ _) hd hgd (fun ρ W hu => by
    rw [h ρ W hu]
    exact ⟨(Ex.refl _ _).alloc (Nat.le_refl _) _, slAt_new _ _ _ _⟩) hk
/-- A whole array or struct out of a variable that lay when the region began. -/
theorem fwd_l {t : Tmp} {ty : TypeId} {x : Operand} {g : Nat} {cs : Array Value} {tt : TypeId} {fr : Nat × Nat} {d : TypeDesc} (hd : o.dst = some t) (hgd : Met ops a0 acc o) (ho : o.op = .load ty x)
    (hx : ∀ ρ W, Uses w0 a0 acc o ρ W → ρ x = .pointer (some ⟨g, 0, none⟩)) (hg : w0.heap[g]? = some (.cells cs tt fr)) (hu : P.underlying ty = some d)
    (hdd : (match d with | .struct _ | .array _ _ => true | _ => false) = true) (hi : (P.info? ty).map (·.size) = some cs.size)
    (hk : FwdGo P ops w0 a0 fin rest ((t, Is (.agg cs)) :: acc)) : FwdGo P ops w0 a0 fin (o :: rest) acc :=
  fwd_e hd hgd (fun ρ W h => by
    have hgW : W.heap[g]? = some (.cells cs tt fr) := (h.2.2.1.block g (Array.getElem?_eq_some_iff.1 hg).1).trans hg
    unfold execOp
    simp only [ho, hx ρ W h, Instr.loadAt, Instr.sureAddr, Sem.run_bind, Sem.run_pure, Result.andThen_ok, run_loadVar_row W g tt ty cs fr d hgW hu hdd hi]) hk
/-- A pointer to cells that hold cs. -/
def PtrAt (cs : List Value) (v : Value) (w : World) : Prop := ∃ b o, v = .pointer (some ⟨b, o, none⟩) ∧ b < w.heap.size ∧ ∀ (i : Nat) (x : Value), cs[i]? = some x → w.cell? ⟨b, o + i, none⟩ = some x
theorem PtrAt.mono (cs : List Value) : Mono (PtrAt cs) := by
  rintro v w w' hg ⟨b, o, rfl, hb, hc⟩
  exact ⟨b, o, rfl, Nat.lt_of_lt_of_le hb hg.size, fun i x hx => (hg.toBelow.cell (p := ⟨b, o + i, none⟩) hb).trans (hc i x hx)⟩
theorem SlAt.shape {n : Nat} {cs : List Value} {v : Value} {w : World} (h : SlAt n cs v w) : ∃ a cap, v = .slice a n cap ∧ (0 < n → ∃ b o, a = some ⟨b, o, none⟩ ∧ b < w.heap.size ∧ ∀ (i : Nat) (x : Value), cs[i]? = some x → w.cell? ⟨b, o + i, none⟩ = some x) := by
  rcases h with ⟨rfl, h1, h2⟩ | ⟨b, o, cap, rfl, hb, hc⟩
  · subst h1; exact ⟨none, 0, rfl, fun h => by omega⟩
  · exact ⟨_, cap, rfl, fun _ => ⟨b, o, rfl, hb, hc⟩⟩
theorem ptr_of {cs : List Value} {b o : Nat} {W : World} (hb : b < W.heap.size) (hc : ∀ (i : Nat) (x : Value), cs[i]? = some x → W.cell? ⟨b, o + i, none⟩ = some x) (k n : Nat) : PtrAt ((cs.drop k).take n) (.pointer (some ⟨b, o + k, none⟩)) W := by
  refine ⟨b, o + k, rfl, hb, fun i x hx => ?_⟩
  rw [Nat.add_assoc]
  refine hc (k + i) x ?_
  rw [List.getElem?_take] at hx
  split at hx
  · rwa [List.getElem?_drop] at hx
  · cases hx
end
/-- Of the end of a region: one slot. -/
theorem endAt_slot {w : World} (t : Nat) : ∀ {acc : Acc} {a : Act} {K : Act → Prop}, t < a.tmps.size →
    (∀ a', a'.tmps.size = a.tmps.size → a'.defers = a.defers → env a acc t (a'.eval (.tmp t)) w → K a') → EndAt w acc a K
  | [], a, K, _, h => h a rfl rfl rfl
  | (d, V) :: r, a, K, ht, h => by
    show EndAt w r a fun a' => ∀ v, V v w → K (a'.put (some d) v)
    refine endAt_slot t ht fun a' h1 h2 h3 v hv => h _ (by simp [Act.put, h1]) (by simp [Act.put, h2]) ?_
    simp only [env]
    by_cases hd : d = t
    · rw [if_pos hd, hd]
      have : (a'.put (some t) v).eval (.tmp t) = v := by simp [Act.put, Act.eval, h1, ht]
      rw [this]; exact hv
    · rw [if_neg hd]
      have : (a'.put (some d) v).eval (.tmp t) = a'.eval (.tmp t) := by simp [Act.put, Act.eval, Array.getElem?_setIfInBounds, hd]
      rw [this]; exact h3
/-- A long region, its head under names: which operation writes which slot (Ds); what slots hold (Ns); the end asks of slot e that it holds v. -/
theorem fwd_open {P : Program} {ops : Array Oper} {w : World} {a : Act} {fin : Acc → Prop} {l : List Oper} (Ds : List (Nat × Tmp)) (Ns : List (Tmp × Value)) (e : Tmp) (v : Value)
    (hfin : ∀ acc, env a acc e = Is v → fin acc) (hD : (Ds.all fun p => decide (dstOf ops p.1 = some p.2)) = true) (hN : ∀ p ∈ Ns, a.eval (.tmp p.1) = p.2)
    (h : ∀ ops' a' acc' fin', (∀ p ∈ Ds, dstOf ops' p.1 = some p.2) → (∀ p ∈ Ns, env a' acc' p.1 = Is p.2) → (∀ acc, env a' acc e = Is v → fin' acc) → FwdGo P ops' w a' fin' l acc') : FwdGo P ops w a fin l [] :=
  h ops a [] fin (fun p hp => by simpa using List.all_eq_true.1 hD p hp) (fun p hp => by simp only [env]; rw [hN p hp]) hfin
theorem fwd_forget {P : Program} {ops : Array Oper} {w : World} {a : Act} {fin : Acc → Prop} {l : List Oper} {acc : Acc} (Ns : List (Tmp × Value)) (hN : ∀ p ∈ Ns, env a acc p.1 = Is p.2)
    (h : ∀ acc', (∀ p ∈ Ns, env a acc' p.1 = Is p.2) → FwdGo P ops w a fin l acc') : FwdGo P ops w a fin l acc := h acc hN
/-- The region law where of the end one slot is asked. -/
theorem wp_region_slot {P : Program} {id : Nat} {Q : Exit → Act → World → Prop} {a : Act} {w : World} {l : List Oper} (n : Nat) (e : Tmp) (v : Value) (hm : P.follows .mixedOrders = true) (hB : chk l.toArray a.tmps.size n = true) (he : e < a.tmps.size)
    (hfin : ∀ a' w', a'.tmps.size = a.tmps.size → a'.defers = a.defers → a'.eval (.tmp e) = v → Grows w w' → wpList P l.toArray Q (l.drop n) a' w')
    (h : FwdGo P l.toArray w a (fun acc => env a acc e = Is v) (l.take n) []) : (Code.region id l.toArray true).wp P Q a w := by
  refine wp_region_fwd n hm hB ?_
  have gen : ∀ (l' : List Oper) (acc : Acc), FwdGo P l.toArray w a (fun acc => env a acc e = Is v) l' acc → FwdGo P l.toArray w a (fun acc => ∀ w', Grows w w' → EndAt w' acc a fun a' => wpList P l.toArray Q (l.drop n) a' w') l' acc := by
    intro l'
    induction l' with
    | nil =>
      intro acc h w' hg
      refine endAt_slot e he fun a' h1 h2 h3 => hfin a' w' h1 h2 ?_ hg
      rw [show env a acc e = Is v from h] at h3; exact h3
    | cons o r ih => intro acc ⟨V, h1, h2, h3⟩; exact ⟨V, h1, h2, ih _ h3⟩
  exact gen _ _ h
/-- Of the end of a region: every slot. -/
theorem endAt_all {w : World} : ∀ {acc : Acc} {a : Act} {K : Act → Prop},
    (∀ a', a'.tmps.size = a.tmps.size → a'.defers = a.defers → (∀ t, t < a.tmps.size → env a acc t (a'.eval (.tmp t)) w) → K a') → EndAt w acc a K
  | [], a, K, h => h a rfl rfl fun _ _ => rfl
  | (d, V) :: r, a, K, h => by
    show EndAt w r a fun a' => ∀ v, V v w → K (a'.put (some d) v)
    refine endAt_all fun a' h1 h2 h3 v hv => h _ (by simp [Act.put, h1]) (by simp [Act.put, h2]) fun t ht => ?_
    simp only [env]
    by_cases hd : d = t
    · rw [if_pos hd, hd]
      have : (a'.put (some t) v).eval (.tmp t) = v := by simp [Act.put, Act.eval, h1, ht]
      rw [this]; exact hv
    · rw [if_neg hd]
      have : (a'.put (some d) v).eval (.tmp t) = a'.eval (.tmp t) := by simp [Act.put, Act.eval, Array.getElem?_setIfInBounds, hd]
      rw [this]; exact h3 t ht
/-- The region law where of the end some slots are asked. -/
theorem wp_region_slots {P : Program} {id : Nat} {Q : Exit → Act → World → Prop} {a : Act} {w : World} {l : List Oper} (n : Nat) (Es : List (Tmp × Value)) (hm : P.follows .mixedOrders = true) (hB : chk l.toArray a.tmps.size n = true) (he : ∀ p ∈ Es, p.1 < a.tmps.size)
    (hfin : ∀ a' w', a'.tmps.size = a.tmps.size → a'.defers = a.defers → (∀ p ∈ Es, a'.eval (.tmp p.1) = p.2) → Grows w w' → wpList P l.toArray Q (l.drop n) a' w')
    (h : FwdGo P l.toArray w a (fun acc => ∀ p ∈ Es, env a acc p.1 = Is p.2) (l.take n) []) : (Code.region id l.toArray true).wp P Q a w := by
  refine wp_region_fwd n hm hB ?_
  have gen : ∀ (l' : List Oper) (acc : Acc), FwdGo P l.toArray w a (fun acc => ∀ p ∈ Es, env a acc p.1 = Is p.2) l' acc → FwdGo P l.toArray w a (fun acc => ∀ w', Grows w w' → EndAt w' acc a fun a' => wpList P l.toArray Q (l.drop n) a' w') l' acc := by
    intro l'
    induction l' with
    | nil =>
      intro acc h w' hg
      refine endAt_all fun a' h1 h2 h3 => hfin a' w' h1 h2 (fun p hp => ?_) hg
      have := h3 p.1 (he p hp)
      rw [show env a acc p.1 = Is p.2 from h p hp] at this; exact this
    | cons o r ih => intro acc ⟨V, h1, h2, h3⟩; exact ⟨V, h1, h2, ih _ h3⟩
  exact gen _ _ h
/-- A long region, its head under names. -/
theorem fwd_opens {P : Program} {ops : Array Oper} {w : World} {a : Act} {fin : Acc → Prop} {l : List Oper} (Ds : List (Nat × Tmp)) (Ns Es : List (Tmp × Value))
    (hfin : ∀ acc, (∀ p ∈ Es, env a acc p.1 = Is p.2) → fin acc) (hD : (Ds.all fun p => decide (dstOf ops p.1 = some p.2)) = true) (hN : ∀ p ∈ Ns, a.eval (.tmp p.1) = p.2)
    (h : ∀ ops' a' acc' fin', (∀ p ∈ Ds, dstOf ops' p.1 = some p.2) → (∀ p ∈ Ns, env a' acc' p.1 = Is p.2) → (∀ acc, (∀ p ∈ Es, env a' acc p.1 = Is p.2) → fin' acc) → FwdGo P ops' w a' fin' l acc') : FwdGo P ops w a fin l [] :=
  h ops a [] fin (fun p hp => by simpa using List.all_eq_true.1 hD p hp) (fun p hp => by simp only [env]; rw [hN p hp]) hfin
end Go.Fwd
