/-
  The abstract machine walked by functions of Lean: what the code does is said by a function in Option; every step of the walk follows a step of the function.
-/
import Derived.Test.YtcdmdnadilafhaaDoorZdR
set_option linter.unusedSimpArgs false
set_option linter.unusedVariables false
namespace Go.Ab
open Go Go.RowKit Go.Fwd
class Enc (α : Type) where
  inh : α
  cells : α → List AV
  cellsL : List α → List AV
  sz : Nat
  pos : 0 < sz
  nil : cellsL [] = []
  cons : ∀ a l, cellsL (a :: l) = cells a ++ cellsL l
  len : ∀ a, (cells a).length = sz
  clo : ∀ a, cloL (cells a) = true
section
variable {α : Type} [Enc α]
theorem Enc.cloL : ∀ l : List α, Go.Ab.cloL (Enc.cellsL l) = true
  | [] => by rw [Enc.nil]; rfl
  | a :: l => by rw [Enc.cons, cloL_append, Enc.clo, Enc.cloL l]; rfl
theorem Enc.lenL : ∀ l : List α, (Enc.cellsL l).length = l.length * Enc.sz α
  | [] => by rw [Enc.nil]; simp
  | a :: l => by rw [Enc.cons, List.length_append, Enc.len, Enc.lenL l, List.length_cons, Nat.succ_mul, Nat.add_comm]
theorem Enc.app : ∀ a b : List α, Enc.cellsL (a ++ b) = Enc.cellsL a ++ Enc.cellsL b
  | [], b => by rw [Enc.nil]; rfl
  | x :: a, b => by rw [List.cons_append, Enc.cons, Enc.cons, Enc.app a b, List.append_assoc]
theorem Enc.drop : ∀ (l : List α) (i : Nat), (Enc.cellsL l).drop (i * Enc.sz α) = Enc.cellsL (l.drop i)
  | l, 0 => by simp
  | [], i + 1 => by simp [Enc.nil]
  | t :: l, i + 1 => by
    rw [Enc.cons, List.drop_succ_cons, ← Enc.drop l i, List.drop_append, Enc.len]
    have h : (i + 1) * Enc.sz α = i * Enc.sz α + Enc.sz α := Nat.succ_mul _ _
    have : (i + 1) * Enc.sz α - Enc.sz α = i * Enc.sz α := by omega
    rw [this, List.drop_of_length_le (by rw [Enc.len]; omega), List.nil_append]
theorem Enc.take (l : List α) (i : Nat) : (Enc.cellsL l).take (i * Enc.sz α) = Enc.cellsL (l.take i) := by
  rcases Nat.le_or_ge i l.length with h | h
  · have h1 := Enc.app (l.take i) (l.drop i)
    rw [List.take_append_drop] at h1
    rw [h1, List.take_append_of_le_length (by rw [Enc.lenL, List.length_take, Nat.min_eq_left h]; exact Nat.le_refl _)]
    exact List.take_of_length_le (by rw [Enc.lenL, List.length_take, Nat.min_eq_left h]; exact Nat.le_refl _)
  · rw [List.take_of_length_le h, List.take_of_length_le (by rw [Enc.lenL]; exact Nat.mul_le_mul_right _ h)]
def ix (l : List α) (i : Int) : α := l.getD i.toNat Enc.inh
theorem Enc.at {l : List α} {i : Int} (h : 0 ≤ i ∧ i < l.length) : (Enc.cellsL l).drop (i.toNat * Enc.sz α) = Enc.cells (ix l i) ++ Enc.cellsL (l.drop (i.toNat + 1)) := by
  have hi : i.toNat < l.length := by omega
  rw [Enc.drop, List.drop_eq_getElem_cons hi, Enc.cons]
  simp [ix, hi]
theorem Enc.ne {l : List α} {i : Int} (h : 0 ≤ i ∧ i < l.length) : Enc.cellsL l ≠ [] := by
  intro e
  have := Enc.lenL l
  rw [e] at this
  have h1 : 0 < l.length := by omega
  have h2 := Nat.mul_pos h1 (Enc.pos (α := α))
  simp only [List.length_nil] at this; omega
end
def bs (l : List UInt8) : ByteArray := ⟨l.toArray⟩
instance : Enc Int := ⟨0, fun x => [.raw (.int .i64 x)], fun l => l.map fun x => .raw (.int .i64 x), 1, by decide, rfl, fun _ _ => rfl, fun _ => rfl, fun _ => rfl⟩
instance : Enc UInt8 := ⟨0, fun x => [.raw (.int .u8 ((x.toNat : Nat) : Int))], fun l => l.map fun x => .raw (.int .u8 ((x.toNat : Nat) : Int)), 1, by decide, rfl, fun _ _ => rfl, fun _ => rfl, fun _ => rfl⟩
instance : Enc (List UInt8) := ⟨[], fun x => [.raw (.string (bs x))], fun l => l.map fun x => .raw (.string (bs x)), 1, by decide, rfl, fun _ _ => rfl, fun _ => rfl, fun _ => rfl⟩
instance : Enc Bool := ⟨false, fun x => [.raw (.bool x)], fun l => l.map fun x => .raw (.bool x), 1, by decide, rfl, fun _ _ => rfl, fun _ => rfl, fun _ => rfl⟩
section
variable {α β τ ρ : Type}
def chk (p : Prop) [Decidable p] (k : Option α) : Option α := if p then k else none
theorem chk_e {p : Prop} [Decidable p] {k : Option α} {r : α} (h : chk p k = some r) : p ∧ k = some r := by
  unfold chk at h
  split at h
  · exact ⟨‹_›, h⟩
  · cases h
theorem chk_pos {p : Prop} [Decidable p] {k : Option α} (h : p) : chk p k = k := if_pos h
def letE (e : α) (k : α → Option β) : Option β := k e
theorem letE_e {e : α} {k : α → Option β} {r : β} (h : letE e k = some r) : ∃ x, e = x ∧ k x = some r := ⟨e, rfl, h⟩
def bindE (x : Option α) (k : α → Option β) : Option β := match x with | some a => k a | none => none
theorem bindE_e {x : Option α} {k : α → Option β} {r : β} (h : bindE x k = some r) : ∃ a, x = some a ∧ k a = some r := by
  cases x with
  | none => cases h
  | some a => exact ⟨a, rfl, h⟩
@[simp] theorem bindE_some (a : α) (k : α → Option β) : bindE (some a) k = k a := rfl
theorem bif_e {c : Bool} {A B : Option α} {r : α} {G : Prop} (h : (bif c then A else B) = some r) (kt : c = true → A = some r → G) (kf : c = false → B = some r → G) : G := by
  cases c with
  | true => exact kt rfl h
  | false => exact kf rfl h
def cutE (x : Option (τ ⊕ ρ)) (k : τ → Option ρ) : Option ρ := match x with | some (.inl t) => k t | some (.inr y) => some y | none => none
@[simp] theorem cutE_inl (t : τ) (k : τ → Option ρ) : cutE (some (.inl t)) k = k t := rfl
@[simp] theorem cutE_inr (y : ρ) (k : τ → Option ρ) : cutE (some (.inr y)) k = some y := rfl
theorem cut_inr {y r : ρ} {o : τ ⊕ ρ} (h : some (Sum.inr y) = some o) (hr : ∀ y, o = .inr y → y = r) : some y = some r := by
  rw [hr y (Option.some.inj h).symm]
def loopE (body : β → Option (β ⊕ ρ)) : Nat → β → Option ρ
  | 0, _ => none
  | n + 1, s => match body s with | some (.inl s') => loopE body n s' | some (.inr y) => some y | none => none
end
section
variable {IT : IterP} {P : Program} {W : Owed} {k0 : Nat}
theorem w_cutF {x y : Code} {Q : AQ} {S : List AV} {σ : St} {τ ρ : Type} {FX : Option (τ ⊕ ρ)} {K : τ → Option ρ} {r : ρ} (h : cutE FX K = some r) (tops : List Nat) (upd : τ → List (Nat × AV)) (D : τ → St)
    (hx : ∀ o, FX = some o → (∀ y, o = .inr y → y = r) → awp IT P W k0 x (athen (fun S1 σ1 => ∃ t, o = .inl t ∧ Wk k0 S1 σ1 (setAll (topAll S tops) (upd t)) (D t)) Q) S σ)
    (hk : ∀ t, K t = some r → awp IT P W k0 y Q (setAll (topAll S tops) (upd t)) (D t)) : awp IT P W k0 (.seq x y) Q S σ := by
  cases FX with
  | none => cases h
  | some o =>
    refine awp_mono x ?_ _ _ (hx o rfl fun y e => by subst e; exact Option.some.inj h)
    intro e S1 σ1 hq
    cases e with
    | normal =>
      obtain ⟨t, rfl, hw⟩ := hq
      exact ⟨_, _, hw, hk t h⟩
    | exit id => exact hq
    | ret => exact hq
theorem cut_done {S0 : List AV} {S1 : List AV} {σ1 : St} {n0 : Nat} {τ ρ : Type} {o : τ ⊕ ρ} {tops : List Nat} {upd : τ → List (Nat × AV)} {D : τ → St} (t : τ) (h : some (Sum.inl t) = some o) (hw : Wk n0 S1 σ1 (setAll (topAll S0 tops) (upd t)) (D t)) :
    ∃ t, o = .inl t ∧ Wk n0 S1 σ1 (setAll (topAll S0 tops) (upd t)) (D t) := ⟨t, (Option.some.inj h).symm, hw⟩
def loopQ {β ρ : Type} (n0 : Nat) (T : β → List AV) (D : β → St) (p : β ⊕ ρ) (o : ρ) (Q : AQ) : AQ
  | .normal, S, σ => ∃ s, p = .inl s ∧ Wk n0 S σ (T s) (D s)
  | e, S, σ => (∃ y, p = .inr y ∧ (some y = some o → Q e S σ)) ∨ Q e S σ
theorem w_loopF {x : Code} {Q : AQ} {S : List AV} {σ : St} {β ρ : Type} {body : β → Option (β ⊕ ρ)} {n : Nat} {s0 : β} {o : ρ} (h : loopE body n s0 = some o) (tops : List Nat) (upd : β → List (Nat × AV)) (D : β → St)
    (h0 : Wk k0 S σ (setAll (topAll S tops) (upd s0)) (D s0))
    (hs : ∀ s p, body s = some p → awp IT P W k0 x (loopQ k0 (fun s => setAll (topAll S tops) (upd s)) D p o Q) (setAll (topAll S tops) (upd s)) (D s)) : awp IT P W k0 (.loop x) Q S σ := by
  have key : ∀ (n : Nat) (s0 : β) S1 σ1, loopE body n s0 = some o → Wk k0 S1 σ1 (setAll (topAll S tops) (upd s0)) (D s0) → arounds (awp IT P W k0 x) Q k0 n S1 σ1 := by
    intro n
    induction n with
    | zero => intro s0 S1 σ1 h; cases h
    | succ n ih =>
      intro s0 S1 σ1 h hw
      rw [loopE] at h
      cases hb : body s0 with
      | none => rw [hb] at h; cases h
      | some p =>
        rw [hb] at h
        refine ⟨_, _, hw, awp_mono x ?_ _ _ (hs s0 p hb)⟩
        intro e S2 σ2 hq
        cases e with
        | normal =>
          obtain ⟨s, rfl, hw2⟩ := hq
          exact ih s S2 σ2 h hw2
        | exit id =>
          rcases hq with ⟨y, rfl, hq⟩ | hq
          · exact hq h
          · exact hq
        | ret =>
          rcases hq with ⟨y, rfl, hq⟩ | hq
          · exact hq h
          · exact hq
  exact ⟨n, key n s0 S σ h h0⟩
theorem loop_next {S0 S1 : List AV} {σ1 : St} {n0 : Nat} {β ρ : Type} {p : β ⊕ ρ} {tops : List Nat} {upd : β → List (Nat × AV)} {D : β → St} (s : β) (h : some (Sum.inl s) = some p) (hw : Wk n0 S1 σ1 (setAll (topAll S0 tops) (upd s)) (D s)) :
    ∃ s, p = .inl s ∧ Wk n0 S1 σ1 (setAll (topAll S0 tops) (upd s)) (D s) := ⟨s, (Option.some.inj h).symm, hw⟩
theorem loop_exit {β ρ : Type} {p : β ⊕ ρ} {o y : ρ} {G H : Prop} (h : some (Sum.inr y) = some p) (k : some y = some o → G) : (∃ y, p = .inr y ∧ (some y = some o → G)) ∨ H := .inl ⟨y, (Option.some.inj h).symm, k⟩
theorem w_condT {c : Operand} {x y : Code} {Q : AQ} {S : List AV} {σ : St} {t : Bool} (ht : t = true) (hc : aval S c = .raw (.bool t)) (k : awp IT P W k0 x Q S σ) : awp IT P W k0 (.cond c x y) Q S σ := ⟨true, by rw [hc, ht], by rw [if_pos rfl]; exact k⟩
theorem w_condF {c : Operand} {x y : Code} {Q : AQ} {S : List AV} {σ : St} {t : Bool} (ht : t = false) (hc : aval S c = .raw (.bool t)) (k : awp IT P W k0 y Q S σ) : awp IT P W k0 (.cond c x y) Q S σ := ⟨false, by rw [hc, ht], by rw [if_neg (by decide)]; exact k⟩
theorem w_qs {ops : Array Oper} {Q : List AV → St → Prop} {o : Oper} {l : List Oper} {S S' : List AV} {σ : St} (a : AV) {a0 : AV} (hg : o.guard = none) (hc : acall S o = none) (hy : ayield S o = none) (h : qop P (aval S) σ o = some a0) (ha : strip a0 = a) (hS : aput S o.dst a = S')
    (k : aops IT P W ops Q l S' σ) : aops IT P W ops Q (o :: l) S σ := by
  simp only [aops, hg, astep, hc, hy]
  exact .inl ⟨a, σ, .inr (.inr (.inr (.inl ⟨a0, op_q h, ha.symm⟩))), by rw [hS]; exact k⟩
end
section
variable {P : Program} {ρ : Operand → AV} {σ : St} {o : Oper}
theorem q_idx {α : Type} [Enc α] {t e : TypeId} {x i : Operand} {l : List α} {st : Room} {k : IntKind} {n : Int} (hb : 0 ≤ n ∧ n < l.length) (ho : o.op = .indexAddr t x i) (hx : ρ x = .list l.length (Enc.cellsL l) st) (hi : ρ i = .raw (.int k n)) (hu : P.underlying t = some (.slice e)) (hs : sizeT P e = some (Enc.sz α)) :
    qop P ρ σ o = some (.iptr (Enc.cells (ix l n) ++ Enc.cellsL (l.drop (n.toNat + 1)))) := by
  rw [q_index ho hx hi hu hs ⟨hb.1, hb.2, Enc.ne hb⟩, Enc.at hb]
end
theorem strip_c {a : AV} (h : clo a = true) : strip a = a := strip_clo a h
theorem strip_l {n : Nat} {cs : List AV} {st : Room} (h : cloL cs = true) : strip (.list n cs st) = .list n cs .none := by rw [strip, stripL_clo cs h]
theorem strip_o {n : Nat} {cs : List AV} (h : cloL cs = true) (h0 : n = 0 → cs = []) : strip (ownAV n cs) = .list n cs .none := strip_own h h0
theorem stripL_cons {a b : AV} {l m : List AV} (h : strip a = b) (k : stripL l = m) : stripL (a :: l) = b :: m := by rw [stripL, h, k]
theorem okTrim_l {k n : Nat} {cs : List AV} {st : Room} (h : cloL cs = true) : okTrim k (.list n cs st) = true := by rw [okTrim, okTrimL_clo k cs h]
theorem okTrimL_cons {k : Nat} {a : AV} {l : List AV} (h : okTrim k a = true) (m : okTrimL k l = true) : okTrimL k (a :: l) = true := by rw [okTrimL, h, m]; rfl
theorem clo_agg {cs : List AV} (h : cloL cs = true) : clo (.agg cs) = true := h
theorem Enc.z {α : Type} [Enc α] {l : List α} : l.length = 0 → Enc.cellsL l = [] := fun h => by rw [List.length_eq_zero_iff.1 h, Enc.nil]
theorem Enc.stripL {α : Type} [Enc α] (l : List α) : Go.Ab.stripL (Enc.cellsL l) = Enc.cellsL l := stripL_clo _ (Enc.cloL l)
section
variable {P : Program} {ρ : Operand → AV} {σ : St} {o : Oper}
theorem q_lit {α : Type} [Enc α] {l : List α} {cs : List AV} {st : Room} (h : qop P ρ σ o = some (.list l.length cs st)) (hc : Enc.cellsL l = cs) : qop P ρ σ o = some (.list l.length (Enc.cellsL l) st) := by rw [hc]; exact h
def sub {α : Type} (l : List α) (i j : Int) : List α := (l.drop i.toNat).take (j.toNat - i.toNat)
theorem append_ownE {α : Type} [Enc α] {t e : TypeId} {i : TypeInfo} {z : Value} {st : Room} {bs : List (TypeId × List AV)} {a b : List α} {by' : Nat} (hb : (a.length + b.length) * by' ≤ 140737488355328) (hu : P.underlying t = some (.slice e)) (hi : P.info? e = some i) (hz : i.zero = some z) (hsz : i.size = Enc.sz α) (hzs : z.cells.size = Enc.sz α) (hby : i.bytes = by' ∧ 0 < by') :
    aAppend P (ownSt bs e a.length (Enc.sz α)) t (ownAV a.length (Enc.cellsL a)) (.list b.length (Enc.cellsL b) st) = some (ownAV (a ++ b).length (Enc.cellsL (a ++ b)), ownSt bs e (a ++ b).length (Enc.sz α)) := by
  have hm : a.length + b.length ≤ maxLen := by
    have h1 : a.length + b.length ≤ (a.length + b.length) * by' := Nat.le_mul_of_pos_right _ hby.2
    have h2 : 140737488355328 ≤ maxLen := by decide
    omega
  rw [append_own hu hi hz hsz hzs Enc.pos (Enc.lenL a) (Enc.lenL b) hm (by rw [hby.1]; exact hb), List.length_append, Enc.app]
end
section
variable {IT : IterP} {P : Program} {W : Owed} {k0 : Nat}
theorem hB_doneF {ops : Array Oper} {Q : List AV → St → Prop} {l : List Oper} {σ σ' : St} {S S' : List AV} {ps : Pend} {n : Nat} (hn : σ.boxes.length = n) (hσ : pendσ σ ps = σ') (hS : pendS n ps S = S') (k : aops IT P W ops Q l S' σ') :
    aheadB IT P ops σ (fun S' ps => aops IT P W ops Q l (pendS σ.boxes.length ps S') (pendσ σ ps)) [] S ps := by
  show aops IT P W ops Q l (pendS σ.boxes.length ps S) (pendσ σ ps)
  rw [hn, hσ, hS]; exact k
end
theorem okB_cons {n : Nat} {b : TypeId × List AV} {l : List (TypeId × List AV)} (h : okTrimL n b.2 = true) (k : (l.all fun bx => okTrimL n bx.2) = true) : ((b :: l).all fun bx => okTrimL n bx.2) = true := by rw [List.all_cons, h, k]; rfl
theorem okSt_of {n : Nat} {σ : St} (h : ((σ.boxes.take n).all fun bx => okTrimL n bx.2) = true) : okSt n σ = true := h
theorem end_pureF {P : Program} {fn : Func} {S : List AV} {σ : St} {a : AV} {R : Type} {y r : R} (E : R → AV) (hr : some y = some r) (h : aResults P fn σ S = some a) (hok : okTrim 0 a = true) (hs : strip a = E y) : aendP P fn (E r) .ret S σ := by
  cases hr; exact end_pure h hok hs
section
variable {P : Program} {ρ : Operand → AV} {σ : St} {o : Oper}
end
section
variable {α β τ ρ : Type}
theorem chk_i {p : Prop} [Decidable p] {k : Option α} {r : Option α} (h : p) (hk : k = r) : chk p k = r := by rw [chk_pos h]; exact hk
theorem bif_t {c : Bool} {A B : α} {r : α} (h : c = true) (k : A = r) : (bif c then A else B) = r := by rw [h]; exact k
theorem bif_f {c : Bool} {A B : α} {r : α} (h : c = false) (k : B = r) : (bif c then A else B) = r := by rw [h]; exact k
theorem bindE_i {x : Option α} {k : α → Option β} {r : Option β} (a : α) (h : x = some a) (hk : k a = r) : bindE x k = r := by rw [h]; exact hk
theorem cutE_i {x : Option (τ ⊕ ρ)} {k : τ → Option ρ} {r : Option ρ} (t : τ) (h : x = some (.inl t)) (hk : k t = r) : cutE x k = r := by rw [h]; exact hk
theorem cutE_r {x : Option (τ ⊕ ρ)} {k : τ → Option ρ} {r : Option ρ} (y : ρ) (h : x = some (.inr y)) (hk : some y = r) : cutE x k = r := by rw [h]; exact hk
theorem loopE_i {body : β → Option (β ⊕ ρ)} {s0 : β} {n : Nat} {o : ρ} (N : Nat) (f : Nat → β) (h0 : s0 = f 0) (hs : ∀ i, i < N → body (f i) = some (.inl (f (i + 1)))) (he : body (f N) = some (.inr o)) (hn : N < n) : loopE body n s0 = some o := by
  have key : ∀ k i n, i + k = N → k < n → loopE body n (f i) = some o := by
    intro k
    induction k with
    | zero =>
      intro i n hi hn
      obtain rfl : i = N := by omega
      match n, hn with
      | n + 1, _ => rw [loopE, he]
    | succ k ih =>
      intro i n hi hn
      match n, hn with
      | n + 1, _ => rw [loopE, hs i (by omega)]; exact ih (i + 1) n (by omega) (by omega)
  rw [h0]; exact key N 0 n (by omega) hn
end
end Go.Ab

