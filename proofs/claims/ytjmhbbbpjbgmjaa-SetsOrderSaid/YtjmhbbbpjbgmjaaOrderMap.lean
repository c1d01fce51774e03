/-
  A map literal of two keys in a region whose order is open.
-/
import Derived.Test.YtjmhbbbpjbgmjaaOrderPlain
import Derived.Test.YtjmhbbbpjbgmjaaGhost
import Derived.Test.YtjmhbbbpjbgmjaaSteps2
import Derived.Carry
import Derived.MapKept
set_option linter.unusedSimpArgs false
set_option linter.unusedVariables false
namespace Go.FwdJ
open Go Go.RowKit Go.Fwd

/-- What the map holds. -/
def Holds (d : Nat → Bool) (es : Array MapEntry) : Prop :=
  (∀ e ∈ es.toList, (d 4 = true ∧ e.key = .bool false ∧ e.val = .int .i64 0) ∨ (d 5 = true ∧ e.key = .bool true ∧ e.val = .int .i64 1)) ∧
  (d 4 = true → ∃ e ∈ es.toList, e.key = .bool false) ∧ (d 5 = true → ∃ e ∈ es.toList, e.key = .bool true)
def GM (base : Nat) : Gh where
  Γ := World × Option Nat
  π := Prod.fst
  Le x y := (base ≤ x.1.heap.size → base ≤ y.1.heap.size) ∧ Ex base x.1 y.1 ∧ ∀ b, x.2 = some b → y.2 = some b
  refl x := ⟨id, Ex.refl _ _, fun _ h => h⟩
  trans x y z h k := ⟨fun hb => k.1 (h.1 hb), h.2.1.trans k.2.1, fun b hb => k.2.2 b (h.2.2 b hb)⟩
  J d x := (d 3 = false → x.2 = none ∧ d 4 = false ∧ d 5 = false ∧ d 6 = false) ∧ (d 3 = true → ∃ b es c, x.2 = some b ∧ base ≤ b ∧ x.1.heap[b]? = some (.map es c) ∧ Holds d es) ∧ (d 6 = true → d 4 = true ∧ d 5 = true)
theorem J_keep {base : Nat} {d : Nat → Bool} {W W' : World} {m : Option Nat} {k : Nat} (h : (GM base).J d (W, m)) (hg : Grows W W') (h3 : k ≠ 3) (h4 : k ≠ 4) (h5 : k ≠ 5) (h6 : k ≠ 6) : (GM base).J (upd d k) (W', m) := by
  have e3 : upd d k 3 = d 3 := by simp [upd, Ne.symm h3]
  have e4 : upd d k 4 = d 4 := by simp [upd, Ne.symm h4]
  have e5 : upd d k 5 = d 5 := by simp [upd, Ne.symm h5]
  have e6 : upd d k 6 = d 6 := by simp [upd, Ne.symm h6]
  obtain ⟨j1, j2, j3⟩ := h
  refine ⟨by rw [e3, e4, e5, e6]; exact j1, ?_, by rw [e4, e5, e6]; exact j3⟩
  rw [e3]
  intro hd
  obtain ⟨b, es, c, q1, q0, q2, q3⟩ := j2 hd
  exact ⟨b, es, c, q1, q0, (hg.block b (Array.getElem?_eq_some_iff.1 q2).1).trans q2, by unfold Holds at q3 ⊢; rw [e4, e5]; exact q3⟩
theorem le_grows {base : Nat} {W W' : World} {m : Option Nat} (hb : base ≤ W.heap.size) (hg : Grows W W') : (GM base).Le (W, m) (W', m) :=
  ⟨fun h => Nat.le_trans h hg.size, Ex.mono hg hb, fun _ h => h⟩
section
variable {P : Program} {ops : Array Oper} {base : Nat} {w0 : World} {a0 : Act} {fin : Acc (GM base) → Prop} {o : Oper} {rest : List Oper} {acc : Acc (GM base)} {k : Nat}
abbrev Uses (base : Nat) (w0 : World) (a0 : Act) (acc : Acc (GM base)) (o : Oper) (ρ : Operand → Value) (x : World × Option Nat) : Prop :=
  (∀ v, ρ (.const v) = v) ∧ (∀ f, ρ (.func f) = .func (.func f) #[] #[]) ∧ Ex base w0 x.1 ∧ base ≤ x.1.heap.size ∧ All (env a0 acc) ρ x (readsOf o.op.operands.toList)
theorem mono_is {G : Gh} (e : Value) : Mono (Is (G := G) e) := fun _ _ _ _ h => h
theorem jf_e {t : Tmp} {e : Value} (hb : base ≤ w0.heap.size) (hd : o.dst = some t) (hgd : o.guard = none) (h3 : k ≠ 3) (h4 : k ≠ 4) (h5 : k ≠ 5) (h6 : k ≠ 6)
    (h : ∀ ρ x, Uses base w0 a0 acc o ρ x → (execOp ρ o).run P x.1 = .ok (.value e) x.1)
    (hk : FwdGo P ops (G := GM base) (w0, none) a0 fin rest (k + 1) ((t, Is e) :: acc)) : FwdGo P ops (G := GM base) (w0, none) a0 fin (o :: rest) k acc :=
  ⟨Is e, mono_is e, fun ρ x d hE hle hr hJ hd0 haf => by
    rw [hgd]
    have := h ρ x ⟨hE.const, hE.func, hle.2.1, hle.1 hb, hr⟩
    show OpGood P _ _ ((execOp ρ o).run P x.1)
    rw [this]
    exact ⟨x, rfl, (GM base).refl x, rfl, J_keep hJ (Grows.refl _) h3 h4 h5 h6⟩, by rw [hd]; exact hk⟩
theorem jf_c {t : Tmp} {e : Value} (hb : base ≤ w0.heap.size) (hd : o.dst = some t) (hgd : o.guard = none) (h3 : k ≠ 3) (h4 : k ≠ 4) (h5 : k ≠ 5) (h6 : k ≠ 6)
    (h : ∀ ρ x, Uses base w0 a0 acc o ρ x → ∃ f args, (execOp ρ o).run P x.1 = .ok (.enter f args) x.1 ∧ Calls P f args x.1 (Ret e x.1))
    (hk : FwdGo P ops (G := GM base) (w0, none) a0 fin rest (k + 1) ((t, Is e) :: acc)) : FwdGo P ops (G := GM base) (w0, none) a0 fin (o :: rest) k acc :=
  ⟨Is e, mono_is e, fun ρ x d hE hle hr hJ hd0 haf => by
    rw [hgd]
    obtain ⟨f, args, h1, h2⟩ := h ρ x ⟨hE.const, hE.func, hle.2.1, hle.1 hb, hr⟩
    show OpGood P _ _ ((execOp ρ o).run P x.1)
    rw [h1]
    refine h2.mono ?_
    rintro e' w'' ⟨rfl, hg⟩
    exact ⟨e, rfl, (w'', x.2), rfl, le_grows (hle.1 hb) hg, rfl, J_keep hJ hg h3 h4 h5 h6⟩, by rw [hd]; exact hk⟩
theorem jf_l {t : Tmp} {ty : TypeId} {x : Operand} {g : Nat} {cs : Array Value} {tt : TypeId} {fr : Nat × Nat} {d : TypeDesc} (hb : base = w0.heap.size) (hd : o.dst = some t) (hgd : o.guard = none) (h3 : k ≠ 3) (h4 : k ≠ 4) (h5 : k ≠ 5) (h6 : k ≠ 6) (ho : o.op = .load ty x)
    (hx : ∀ ρ W, Uses base w0 a0 acc o ρ W → ρ x = .pointer (some ⟨g, 0, none⟩)) (hg : w0.heap[g]? = some (.cells cs tt fr)) (hu : P.underlying ty = some d)
    (hdd : (match d with | .struct _ | .array _ _ => true | _ => false) = true) (hi : (P.info? ty).map (·.size) = some cs.size)
    (hk : FwdGo P ops (G := GM base) (w0, none) a0 fin rest (k + 1) ((t, Is (.agg cs)) :: acc)) : FwdGo P ops (G := GM base) (w0, none) a0 fin (o :: rest) k acc :=
  jf_e (Nat.le_of_eq hb) hd hgd h3 h4 h5 h6 (fun ρ W h => by
    have hgW : W.1.heap[g]? = some (.cells cs tt fr) := (h.2.2.1.block g (by rw [hb]; exact (Array.getElem?_eq_some_iff.1 hg).1)).trans hg
    unfold execOp
    simp only [ho, hx ρ W h, Instr.loadAt, Instr.sureAddr, Sem.run_bind, Sem.run_pure, Result.andThen_ok, run_loadVar_row W.1 g tt ty cs fr d hgW hu hdd hi]) hk
/-- A map made in this region. -/
def IsM {base : Nat} : VP (GM base) := fun v x => ∃ b, v = .map (some b) ∧ x.2 = some b
theorem mono_m : Mono (IsM (base := base)) := fun v x y h ⟨b, h1, h2⟩ => ⟨b, h1, h.2.2 b h2⟩
theorem jf_make {t : Tmp} (hb : base ≤ w0.heap.size) (hd : o.dst = some t) (hgd : o.guard = none)
    (h : ∀ ρ W, (execOp ρ o).run P W = .ok (.value (.map (some W.heap.size))) (W.alloc (.map #[] 0)))
    (hk : FwdGo P ops (G := GM base) (w0, none) a0 fin rest 4 ((t, IsM) :: acc)) : FwdGo P ops (G := GM base) (w0, none) a0 fin (o :: rest) 3 acc :=
  ⟨IsM, mono_m, fun ρ x d hE hle hr hJ hd0 haf => by
    rw [hgd]
    show OpGood P _ _ ((execOp ρ o).run P x.1)
    rw [h ρ x.1]
    obtain ⟨j1, j2, j3⟩ := hJ
    obtain ⟨hx, n4, n5, n6⟩ := j1 hd0
    refine ⟨(x.1.alloc (.map #[] 0), some x.1.heap.size), rfl, ⟨fun hh => by simp; omega, (Ex.refl _ _).alloc (hle.1 hb) _, fun b hb' => by rw [hx] at hb'; cases hb'⟩, ⟨_, rfl, rfl⟩, ?_⟩
    refine ⟨fun hh => by simp [upd] at hh, fun _ => ⟨_, #[], 0, rfl, hle.1 hb, heap_new _ _ _ rfl, ?_⟩, fun hh => by simp [upd, n6] at hh⟩
    refine ⟨fun e he => by simp at he, fun hh => by simp [upd, n4] at hh, fun hh => by simp [upd, n5] at hh⟩, by rw [hd]; exact hk⟩
theorem holds_push {d : Nat → Bool} {es : Array MapEntry} {c : Nat} (h : Holds d es) (kb : Bool) : Holds (upd d (if kb then 5 else 4)) (es.push ⟨.bool kb, .int .i64 (if kb then 1 else 0), c⟩) := by
  obtain ⟨h1, h2, h3⟩ := h
  have mem : ∀ e, e ∈ (es.push (⟨.bool kb, .int .i64 (if kb then 1 else 0), c⟩ : MapEntry)).toList ↔ e ∈ es.toList ∨ e = ⟨.bool kb, .int .i64 (if kb then 1 else 0), c⟩ := fun e => by simp
  refine ⟨fun e he => ?_, fun hh => ?_, fun hh => ?_⟩
  · rcases (mem e).1 he with he | rfl
    · rcases h1 e he with ⟨a, b, c⟩ | ⟨a, b, c⟩
      · exact .inl ⟨by unfold upd; split <;> simp_all, b, c⟩
      · exact .inr ⟨by unfold upd; split <;> simp_all, b, c⟩
    · cases kb
      · exact .inl ⟨by simp [upd], rfl, rfl⟩
      · exact .inr ⟨by simp [upd], rfl, rfl⟩
  · cases kb
    · exact ⟨_, (mem _).2 (.inr rfl), rfl⟩
    · obtain ⟨e, he, hk⟩ := h2 (by simpa [upd] using hh)
      exact ⟨e, (mem _).2 (.inl he), hk⟩
  · cases kb
    · obtain ⟨e, he, hk⟩ := h3 (by simpa [upd] using hh)
      exact ⟨e, (mem _).2 (.inl he), hk⟩
    · exact ⟨_, (mem _).2 (.inr rfl), rfl⟩
theorem jf_ins (kb : Bool) {tm : Tmp} (hb : base ≤ w0.heap.size) (hd : o.dst = none) (hgd : o.guard = none) (hk0 : k = if kb then 5 else 4)
    (haft : ∃ e ∈ o.after, Region.binds .any e = true ∧ e.on = 3) (hro : ∀ ρ x, All (env a0 acc) ρ x (readsOf o.op.operands.toList) → IsM (base := base) (ρ (.tmp tm)) x)
    (h : ∀ ρ W b es c, (∀ v, ρ (.const v) = v) → ρ (.tmp tm) = .map (some b) → W.heap[b]? = some (.map es c) → (∀ e ∈ es.toList, e.key = .bool (!kb)) →
      (execOp ρ o).run P W = .ok .skip (W.putObj b (.map (es.push ⟨.bool kb, .int .i64 (if kb then 1 else 0), c⟩) (c + 1))))
    (hk : FwdGo P ops (G := GM base) (w0, none) a0 fin rest (k + 1) acc) : FwdGo P ops (G := GM base) (w0, none) a0 fin (o :: rest) k acc :=
  ⟨fun _ _ => True, fun _ _ _ _ _ => trivial, fun ρ x d hE hle hr hJ hd0 haf => by
    rw [hgd]
    show OpGood P _ _ ((execOp ρ o).run P x.1)
    obtain ⟨e3, he3, hb3, hon⟩ := haft
    have hd3 : d 3 = true := by rw [← hon]; exact haf e3 he3 hb3
    obtain ⟨b, hv, hm⟩ := hro ρ x hr
    obtain ⟨j1, j2, j3⟩ := hJ
    obtain ⟨b', es, c, q1, q0, q2, q3⟩ := j2 hd3
    have eb : b' = b := by rw [hm] at q1; cases q1; rfl
    subst eb
    have hall : ∀ e ∈ es.toList, e.key = .bool (!kb) := fun e he => by
      rcases q3.1 e he with ⟨u1, u2, u3⟩ | ⟨u1, u2, u3⟩
      · cases kb
        · rw [hk0] at hd0; simp [u1] at hd0
        · exact u2
      · cases kb
        · exact u2
        · rw [hk0] at hd0; simp [u1] at hd0
    rw [h ρ x.1 b' es c hE.const hv q2 hall]
    have hlt := (Array.getElem?_eq_some_iff.1 q2).1
    refine ⟨(x.1.putObj b' (.map (es.push ⟨.bool kb, .int .i64 (if kb then 1 else 0), c⟩) (c + 1)), x.2), rfl, ⟨fun hh => by simpa using hh, ex_put (Ex.refl _ _) _ q2 rfl q0 (hle.1 hb), fun _ h => h⟩, trivial, ?_⟩
    have e3 : upd d k 3 = true := by unfold upd; rw [hd3]; simp
    have up : ∀ j, d j = true → upd d k j = true := fun j hj => by unfold upd; rw [hj]; simp
    refine ⟨fun hh => (by rw [e3] at hh; cases hh), fun _ => ⟨b', es.push ⟨.bool kb, .int .i64 (if kb then 1 else 0), c⟩, c + 1, hm, q0, ?_, by rw [hk0]; exact holds_push q3 kb⟩, fun hh => ?_⟩
    · show (x.1.putObj b' _).heap[b']? = _
      simp [World.putObj, hlt]
    · have : d 6 = true := by
        unfold upd at hh
        rw [hk0] at hh
        cases kb <;> simpa using hh
      exact ⟨up 4 (j3 this).1, up 5 (j3 this).2⟩, by rw [hd]; exact hk⟩
theorem jf_mv {t tm : Tmp} (hb : base ≤ w0.heap.size) (hd : o.dst = some t) (hgd : o.guard = none)
    (h3 : ∃ e ∈ o.after, Region.binds .any e = true ∧ e.on = 3) (h4 : ∃ e ∈ o.after, Region.binds .any e = true ∧ e.on = 4) (h5 : ∃ e ∈ o.after, Region.binds .any e = true ∧ e.on = 5) (hro : ∀ ρ x, All (env a0 acc) ρ x (readsOf o.op.operands.toList) → IsM (base := base) (ρ (.tmp tm)) x)
    (h : ∀ ρ W, (execOp ρ o).run P W = .ok (.value (ρ (.tmp tm))) W)
    (hk : FwdGo P ops (G := GM base) (w0, none) a0 fin rest 7 ((t, IsM) :: acc)) : FwdGo P ops (G := GM base) (w0, none) a0 fin (o :: rest) 6 acc :=
  ⟨IsM, mono_m, fun ρ x d hE hle hr hJ hd0 haf => by
    rw [hgd]
    show OpGood P _ _ ((execOp ρ o).run P x.1)
    have on : ∀ j, (∃ e ∈ o.after, Region.binds .any e = true ∧ e.on = j) → d j = true := fun j ⟨e, he, hb, hon⟩ => by rw [← hon]; exact haf e he hb
    rw [h ρ x.1]
    obtain ⟨j1, j2, j3⟩ := hJ
    refine ⟨x, rfl, (GM base).refl x, hro ρ x hr, ?_⟩
    have e3 : upd d 6 3 = d 3 := by simp [upd]
    have e4 : upd d 6 4 = d 4 := by simp [upd]
    have e5 : upd d 6 5 = d 5 := by simp [upd]
    refine ⟨fun hh => (by rw [e3, on 3 h3] at hh; cases hh), fun hh => ?_, fun _ => ⟨by rw [e4]; exact on 4 h4, by rw [e5]; exact on 5 h5⟩⟩
    obtain ⟨b, es, c, q1, q0, q2, q3⟩ := j2 (on 3 h3)
    exact ⟨b, es, c, q1, q0, q2, by unfold Holds at q3 ⊢; rw [e4, e5]; exact q3⟩, by rw [hd]; exact hk⟩
theorem jf_look (kb : Bool) {t tm tk : Tmp} (hb : base ≤ w0.heap.size) (hd : o.dst = some t) (hgd : o.guard = none) (h3 : k ≠ 3) (h4 : k ≠ 4) (h5 : k ≠ 5) (h6 : k ≠ 6)
    (haft : ∃ e ∈ o.after, Region.binds .any e = true ∧ e.on = 6) (hro : ∀ ρ x, All (env a0 acc) ρ x (readsOf o.op.operands.toList) → IsM (base := base) (ρ (.tmp tm)) x ∧ ρ (.tmp tk) = .bool kb)
    (h : ∀ ρ W b es c, ρ (.tmp tm) = .map (some b) → ρ (.tmp tk) = .bool kb → W.heap[b]? = some (.map es c) →
      (∀ e ∈ es.toList, (e.key = .bool false ∧ e.val = .int .i64 0) ∨ (e.key = .bool true ∧ e.val = .int .i64 1)) → (∃ e ∈ es.toList, e.key = .bool kb) →
      (execOp ρ o).run P W = .ok (.value (.int .i64 (if kb then 1 else 0))) W)
    (hk : FwdGo P ops (G := GM base) (w0, none) a0 fin rest (k + 1) ((t, Is (.int .i64 (if kb then 1 else 0))) :: acc)) : FwdGo P ops (G := GM base) (w0, none) a0 fin (o :: rest) k acc :=
  ⟨Is (.int .i64 (if kb then 1 else 0)), mono_is _, fun ρ x d hE hle hr hJ hd0 haf => by
    rw [hgd]
    show OpGood P _ _ ((execOp ρ o).run P x.1)
    obtain ⟨e6, he6, hb6, hon⟩ := haft
    have hd6 : d 6 = true := by rw [← hon]; exact haf e6 he6 hb6
    obtain ⟨⟨b, hv, hm⟩, hkv⟩ := hro ρ x hr
    have hJ' := hJ
    obtain ⟨j1, j2, j3⟩ := hJ
    obtain ⟨d4, d5⟩ := j3 hd6
    have hd3 : d 3 = true := by
      cases hq : d 3
      · have := (j1 hq).2.1; rw [d4] at this; cases this
      · rfl
    obtain ⟨b', es, c, q1, q0, q2, q3⟩ := j2 hd3
    have eb : b' = b := by rw [hm] at q1; cases q1; rfl
    subst eb
    rw [h ρ x.1 b' es c hv hkv q2 (fun e he => (q3.1 e he).imp (·.2) (·.2)) (by cases kb; exact q3.2.1 d4; exact q3.2.2 d5)]
    exact ⟨x, rfl, (GM base).refl x, rfl, J_keep hJ' (Grows.refl _) h3 h4 h5 h6⟩, by rw [hd]; exact hk⟩
end
/-! ### runs -/
theorem find_no {kb : Bool} : ∀ {l : List MapEntry} {i : Nat}, (∀ e ∈ l, e.key = .bool (!kb)) → Instr.findNow .bool (.bool kb) l i = some none
  | [], _, _ => rfl
  | e :: l, i, h => by
    have h1 := h e (by simp)
    simp only [Instr.findNow, h1, Instr.sameNow]
    have : (kb == !kb) = false := by cases kb <;> rfl
    rw [this]
    exact find_no fun e he => h e (by simp [he])
theorem find_yes {kb : Bool} : ∀ {l : List MapEntry} {i : Nat}, (∀ e ∈ l, (e.key = .bool false ∧ e.val = .int .i64 0) ∨ (e.key = .bool true ∧ e.val = .int .i64 1)) → (∃ e ∈ l, e.key = .bool kb) → ∃ j, Instr.findNow .bool (.bool kb) l i = some (some (j, .int .i64 (if kb then 1 else 0)))
  | [], _, _, ⟨e, he, _⟩ => by cases he
  | e :: l, i, h, ⟨f, hf, hk⟩ => by
    by_cases hh : e.key = .bool kb
    · refine ⟨i, ?_⟩
      have hv : e.val = .int .i64 (if kb then 1 else 0) := by
        rcases h e (by simp) with ⟨u1, u2⟩ | ⟨u1, u2⟩ <;> rw [u1] at hh <;> cases hh <;> exact u2
      have : (kb == kb) = true := by cases kb <;> rfl
      simp only [Instr.findNow, hh, Instr.sameNow, this, hv]
    · have hn : e.key = .bool (!kb) := by
        rcases h e (by simp) with ⟨u1, u2⟩ | ⟨u1, u2⟩ <;> rw [u1] at hh ⊢ <;> cases kb <;> simp_all
      obtain ⟨j, hj⟩ := find_yes (l := l) (i := i + 1) (fun e he => h e (by simp [he])) (by
        rcases List.mem_cons.1 hf with rfl | hf
        · exact absurd hk hh
        · exact ⟨f, hf, hk⟩)
      refine ⟨j, ?_⟩
      have : (kb == !kb) = false := by cases kb <;> rfl
      simp only [Instr.findNow, hn, Instr.sameNow, this]
      exact hj
theorem run_upd {P : Program} {W : World} {mt kt et : TypeId} {b : Nat} {es : Array MapEntry} {c : Nat} {kb : Bool} (v : Value) (hm : P.underlying mt = some (.map kt et)) (hkt : P.underlying kt = some .bool) (hb : W.heap[b]? = some (.map es c)) (hno : ∀ e ∈ es.toList, e.key = .bool (!kb)) :
    (Instr.mapUpdate mt (.map (some b)) (.bool kb) v).run P W = .ok () (W.putObj b (.map (es.push ⟨.bool kb, v, c⟩) (c + 1))) := by
  unfold Instr.mapUpdate
  simp only [Sem.run_bind, run_underlying hm, Result.andThen_ok, MapKept.run_getObj_map hb, MapKept.run_checkKey hkt (k := .bool kb) trivial, MapKept.run_findKey hkt (find_no hno)]
  rw [MapKept.run_setObj_map _ hb]; rfl
theorem run_look {P : Program} {W : World} {mt kt et : TypeId} {b : Nat} {es : Array MapEntry} {c : Nat} {kb : Bool} (hm : P.underlying mt = some (.map kt et)) (hkt : P.underlying kt = some .bool) (hb : W.heap[b]? = some (.map es c))
    (hall : ∀ e ∈ es.toList, (e.key = .bool false ∧ e.val = .int .i64 0) ∨ (e.key = .bool true ∧ e.val = .int .i64 1)) (hex : ∃ e ∈ es.toList, e.key = .bool kb) :
    (Instr.lookup mt (.map (some b)) (.bool kb) false).run P W = .ok (.int .i64 (if kb then 1 else 0)) W := by
  obtain ⟨j, hj⟩ := find_yes (i := 0) hall hex
  unfold Instr.lookup
  simp only [Sem.run_bind, run_underlying hm, Result.andThen_ok, MapKept.run_getObj_map hb, Sem.run_pure, MapKept.run_checkKey hkt (k := .bool kb) trivial, MapKept.run_findKey hkt hj]
  rfl
end Go.FwdJ
