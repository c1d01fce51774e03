/-
  More ways to walk: loops by what changes, open regions, calls, ends.
-/
import Derived.Test.YtcdmdnadilafhaaDoorZdP
set_option linter.unusedSimpArgs false
set_option linter.unusedVariables false
namespace Go.Ab
open Go Go.RowKit Go.Fwd
section
variable {IT : IterP} {P : Program} {W : Owed} {k0 : Nat}
theorem w_callc {ops : Array Oper} {Q : List AV → St → Prop} {o : Oper} {l : List Oper} {S S' : List AV} {σ : St} {f : FuncId} {args args' : List AV} {r : AV} (hp : Pure IT P f args' r) (hg : o.guard = none) (hc : acall S o = some (f, args)) (hs : stripL args = args') (hok : okTrimL 0 args = true) (hS : aput S o.dst r = S')
    (k : aops IT P W ops Q l S' σ) : aops IT P W ops Q (o :: l) S σ := w_call (by rw [hs]; exact hp) hg hc hok hS k
def setAll (S : List AV) (l : List (Nat × AV)) : List AV := l.foldl (fun S p => S.set p.1 p.2) S
def topAll (S : List AV) (l : List Nat) : List AV := l.foldl (fun S p => S.set p .top) S
def fgM : List Bool → List AV → List AV
  | b :: m, a :: l => (bif b then a else .top) :: fgM m l
  | [], l => l
  | _, [] => []
theorem fg_fgM : ∀ (m : List Bool) (S : List AV), Fg S (fgM m S)
  | b :: m, a :: l => ⟨by cases b <;> simp, fg_fgM m l⟩
  | [], l => Fg.refl l
  | _ :: _, [] => trivial
theorem wm_of {n0 : Nat} {S S' : List AV} {σ σ' : St} (m : List Bool) (h : fgM m S = S') (hσ : σ' = σ) : Wk n0 S σ S' σ' := .one <| .inl ⟨h ▸ fg_fgM m S, .inl hσ⟩
theorem wm_trim {n0 : Nat} {S S' : List AV} {σ σ' : St} (m : List Bool) (n : Nat) (h : fgM m S = S') (hn : n0 ≤ n) (h1 : okSt n σ = true) (h2 : okTrimL n S' = true) (h3 : trimSt n σ = σ') : Wk n0 S σ S' σ' := .one <| .inl ⟨h ▸ fg_fgM m S, .inr ⟨n, hn, h1, h2, h3⟩⟩
theorem wm_keep {n0 : Nat} {S S' : List AV} {σ σ' : St} (m : List Bool) (n : Nat) (fs js : List Nat) (d : Nat) (hn : n0 ≤ n) (hok : okKeep σ n js = true) (h : fgM m (mapKL σ.lens.length (kz σ.boxes σ.lens.length n fs js d) S) = S') (hσ : keepSt σ σ.lens.length n fs js d = σ') : Wk n0 S σ S' σ' :=
  .one <| .inr (.inl ⟨n, fs, js, d, hn, hok, h ▸ fg_fgM m _, hσ⟩)
theorem w_draw {id : Nat} {ops : Array Oper} {Q : AQ} {S : List AV} {σ : St} (n : Nat) (h1 : chk ops S.length n = true) (h2 : noDefer ops.toList = true) (h3 : ahead IT P ops σ (fun S' => aops IT P W ops (Q .normal) (ops.toList.drop n) S' σ) (ops.toList.take n) S) : awp IT P W k0 (.region id ops true) Q S σ := .inl ⟨n, h1, h2, h3⟩
theorem w_drawB {id : Nat} {ops : Array Oper} {Q : AQ} {S : List AV} {σ : St} (n : Nat) (h1 : chk ops S.length n = true) (h2 : noDefer ops.toList = true) (h3 : aheadB IT P ops σ (fun S' ps => aops IT P W ops (Q .normal) (ops.toList.drop n) (pendS σ.boxes.length ps S') (pendσ σ ps)) (ops.toList.take n) S []) : awp IT P W k0 (.region id ops true) Q S σ := .inr (.inl ⟨n, h1, h2, h3⟩)
theorem hB_new {ops : Array Oper} {σ : St} {K : List AV → Pend → Prop} {o : Oper} {l : List Oper} {S S' : List AV} {ps : Pend} {t : TypeId} {d : Tmp} (z : Value) (ho : o.op = .alloc t) (hdst : o.dst = some d) (hd : (o.dst.all fun d => decide (d < S.length)) = true) (hp : (ps.all fun p => o.dst != some p.1) = true) (hg : o.guard = none) (hz : zeroOf P t = some z) (hS : S.set d .top = S') (k : aheadB IT P ops σ K l S' (ps ++ [(d, t, z)])) : aheadB IT P ops σ K (o :: l) S ps := ⟨hd, hp, .inl ⟨hg, t, d, z, ho, hdst, hz, by rw [hS]; exact k⟩⟩
theorem hB_op {ops : Array Oper} {σ : St} {K : List AV → Pend → Prop} {o : Oper} {l : List Oper} {S S' : List AV} {ps : Pend} {a : AV} (hd : (o.dst.all fun d => decide (d < S.length)) = true) (hp : (ps.all fun p => o.dst != some p.1) = true) (hg : o.guard = none) (hc : acall S o = none) (h : qop P (aval S) σ o = some a) (hS : aput S o.dst a = S') (k : aheadB IT P ops σ K l S' ps) : aheadB IT P ops σ K (o :: l) S ps := by
  refine ⟨hd, hp, .inr ?_⟩
  simp only [hg, hstep, hc]
  exact ⟨a, .inl h, by rw [hS]; exact k⟩
theorem hB_call {ops : Array Oper} {σ : St} {K : List AV → Pend → Prop} {o : Oper} {l : List Oper} {S S' : List AV} {ps : Pend} {f : FuncId} {args args' : List AV} {r : AV} (hpu : Pure IT P f args' r) (hd : (o.dst.all fun d => decide (d < S.length)) = true) (hp : (ps.all fun p => o.dst != some p.1) = true) (hg : o.guard = none) (hc : acall S o = some (f, args)) (hs : stripL args = args') (hok : okTrimL 0 args = true) (hS : aput S o.dst r = S') (k : aheadB IT P ops σ K l S' ps) : aheadB IT P ops σ K (o :: l) S ps := by
  refine ⟨hd, hp, .inr ?_⟩
  simp only [hg, hstep, hc]
  exact ⟨r, hok, by rw [hs]; exact hpu, by rw [hS]; exact k⟩
theorem h_end {ops : Array Oper} {σ : St} {K : List AV → Prop} {S : List AV} (h : K S) : ahead IT P ops σ K [] S := h
theorem h_op {ops : Array Oper} {σ : St} {K : List AV → Prop} {o : Oper} {l : List Oper} {S S' : List AV} {a : AV} (hd : (o.dst.all fun d => decide (d < S.length)) = true) (hg : o.guard = none) (hc : acall S o = none) (h : qop P (aval S) σ o = some a) (hS : aput S o.dst a = S') (k : ahead IT P ops σ K l S') : ahead IT P ops σ K (o :: l) S := by
  refine ⟨hd, ?_⟩
  simp only [hg]
  refine .inl ?_
  simp only [hstep, hc]
  exact ⟨a, .inl h, by rw [hS]; exact k⟩
theorem h_opS {ops : Array Oper} {σ : St} {K : List AV → Prop} {o : Oper} {l : List Oper} {S S' : List AV} {a a0 : AV} (hd : (o.dst.all fun d => decide (d < S.length)) = true) (hg : o.guard = none) (hc : acall S o = none) (h : qop P (aval S) σ o = some a0) (ha : strip a0 = a) (hS : aput S o.dst a = S') (k : ahead IT P ops σ K l S') : ahead IT P ops σ K (o :: l) S := by
  refine ⟨hd, ?_⟩
  simp only [hg]
  refine .inl ?_
  simp only [hstep, hc]
  exact ⟨a, .inr (.inr ⟨a0, h, ha.symm⟩), by rw [hS]; exact k⟩
theorem h_call {ops : Array Oper} {σ : St} {K : List AV → Prop} {o : Oper} {l : List Oper} {S S' : List AV} {f : FuncId} {args args' : List AV} {r : AV} (hp : Pure IT P f args' r) (hd : (o.dst.all fun d => decide (d < S.length)) = true) (hg : o.guard = none) (hc : acall S o = some (f, args)) (hs : stripL args = args') (hok : okTrimL 0 args = true) (hS : aput S o.dst r = S') (k : ahead IT P ops σ K l S') : ahead IT P ops σ K (o :: l) S := by
  refine ⟨hd, ?_⟩
  simp only [hg]
  refine .inl ?_
  simp only [hstep, hc]
  exact ⟨r, hok, by rw [hs]; exact hp, by rw [hS]; exact k⟩
theorem h_pass {ops : Array Oper} {σ : St} {K : List AV → Prop} {o : Oper} {l : List Oper} {S S' : List AV} {kb : Nat} {b : Bool} {c : Option Bool} (hd : (o.dst.all fun d => decide (d < S.length)) = true) (hg : o.guard = some (kb, b)) (hk : aguard ops S kb = some c) (hcb : c ≠ some b) (hS : aput S o.dst (.raw undef) = S') (k : ahead IT P ops σ K l S') : ahead IT P ops σ K (o :: l) S := by
  refine ⟨hd, ?_⟩
  simp only [hg]
  exact ⟨c, hk, by rw [if_neg hcb, hS]; exact k⟩
theorem h_met {ops : Array Oper} {σ : St} {K : List AV → Prop} {o : Oper} {l : List Oper} {S : List AV} {kb : Nat} {b : Bool} (hg : o.guard = some (kb, b)) (hk : aguard ops S kb = some (some b)) (k : ahead IT P ops σ K ({ o with guard := none } :: l) S) : ahead IT P ops σ K (o :: l) S := by
  refine ⟨k.1, ?_⟩
  simp only [hg]
  refine ⟨some b, hk, ?_⟩
  rw [if_pos rfl]
  have e : hstepF IT P { o with guard := none } S σ = hstepF IT P o S σ := rfl
  have k := k.2
  simp only at k
  rw [e] at k
  exact k
end
theorem end_pure {P : Program} {fn : Func} {S : List AV} {σ : St} {a r : AV} (h : aResults P fn σ S = some a) (hok : okTrim 0 a = true) (hs : strip a = r) : aendP P fn r .ret S σ := ⟨a, h, ends_strip hok hs⟩
theorem end_keep {P : Program} {fn : Func} {S : List AV} {σ σ' : St} {n m : Nat} {a r : AV} (fs js : List Nat) (d : Nat) (h : aResults P fn σ S = some a) (hok : okKeep σ n js = true) (hr : mapK m (kz σ.boxes m n fs js d) a = r) (hσ : keepSt σ m n fs js d = σ') : aendS P fn n m r σ' .ret S σ := ⟨a, h, ends_keep fs js d hok hr hσ⟩
section
variable {P : Program} {ρ : Operand → AV} {σ : St} {o : Oper}
theorem q_index {t e : TypeId} {x i : Operand} {sz len : Nat} {cs : List AV} {st : Room} {k : IntKind} {n : Int} (ho : o.op = .indexAddr t x i) (hx : ρ x = .list len cs st) (hi : ρ i = .raw (.int k n)) (hu : P.underlying t = some (.slice e)) (hs : sizeT P e = some sz) (hb : 0 ≤ n ∧ n < len ∧ cs ≠ []) :
    qop P ρ σ o = some (.iptr (cs.drop (n.toNat * sz))) := by
  simp only [qop, ho, hx, hi, aIndexAddr, hu, hs, if_pos hb]
theorem op_q {a : AV} (h : qop P ρ σ o = some a) : aop P ρ σ o = some (a, σ) := by simp only [aop, h]
theorem op_store {t : TypeId} {x y : Operand} {s off n : Nat} {v : AV} {bx : TypeId × List AV} (ho : o.op = .store t x y) (hx : ρ x = .ptr s off) (hy : ρ y = v) (hb : σ.boxes[s]? = some bx) (hn : sizeT P t = some n) (hc : cellOk v = true ∧ (cellsOf v).length = n ∧ off + n ≤ bx.2.length ∧ 0 < n) :
    aop P ρ σ o = some (.raw undef, { σ with boxes := σ.boxes.set s (bx.1, bx.2.take off ++ cellsOf v ++ bx.2.drop (off + n)) }) := by
  simp only [aop, qop, ho, aStore, hx, hy, hb, hn, if_pos hc]
theorem op_storeW {t : TypeId} {x y : Operand} {s n : Nat} {v : AV} {bx : TypeId × List AV} (ho : o.op = .store t x y) (hx : ρ x = .ptr s 0) (hy : ρ y = v) (hb : σ.boxes[s]? = some bx) (hn : sizeT P t = some n) (hl : bx.2.length = n) (hc : cellOk v = true) (hv : (cellsOf v).length = n) (h0 : 0 < n) :
    aop P ρ σ o = some (.raw undef, { σ with boxes := σ.boxes.set s (bx.1, cellsOf v) }) := by
  rw [op_store (n := n) ho hx hy hb hn ⟨hc, hv, by omega, h0⟩]
  rw [List.drop_of_length_le (by omega)]
  simp
theorem q_add {x y : Operand} {t : TypeId} {c} {m n r : Int} (ho : o.op = .binOp .add t x y c) (hx : ρ x = .raw (.int .i64 m)) (hy : ρ y = .raw (.int .i64 n)) (hr : m + n = r) (h1 : -9223372036854775808 ≤ r) (h2 : r < 9223372036854775808) : qop P ρ σ o = some (.raw (.int .i64 r)) := by
  subst hr
  have h := wrap_i64 h1 h2
  simp [qop, rawOp, ho, Op.operands, hx, hy, toVal, execOp, rawEnv, eqGuard, binOp, Op.intArith, h]
  rfl
theorem q_sub {x y : Operand} {t : TypeId} {c} {m n r : Int} (ho : o.op = .binOp .sub t x y c) (hx : ρ x = .raw (.int .i64 m)) (hy : ρ y = .raw (.int .i64 n)) (hr : m - n = r) (h1 : -9223372036854775808 ≤ r) (h2 : r < 9223372036854775808) : qop P ρ σ o = some (.raw (.int .i64 r)) := by
  subst hr
  have h := wrap_i64 h1 h2
  simp [qop, rawOp, ho, Op.operands, hx, hy, toVal, execOp, rawEnv, eqGuard, binOp, Op.intArith, h]
  rfl
theorem q_max {c : Call} {x y : Operand} {k k' : IntKind} {m n : Int} (ho : o.op = .call c) (hc : c.callee = .builtin .max) (ha : c.args = #[x, y]) (hx : ρ x = .raw (.int k m)) (hy : ρ y = .raw (.int k' n)) : qop P ρ σ o = some (.raw (.int k (max m n))) := by
  have e : (if n > m then n else m) = max m n := by split <;> omega
  simp [qop, rawOp, ho, hc, ha, Op.operands, Call.operands, hx, hy, toVal, execOp, rawEnv, resolve, invoke, builtin, Builtin.max_, Builtin.max2, val?, okVal, ofVal, ofCell, e]
  simp [Pure.pure, Bind.bind, Sem.bind, val?, okVal, ofVal, ofCell]
theorem q_min {c : Call} {x y : Operand} {k k' : IntKind} {m n : Int} (ho : o.op = .call c) (hc : c.callee = .builtin .min) (ha : c.args = #[x, y]) (hx : ρ x = .raw (.int k m)) (hy : ρ y = .raw (.int k' n)) : qop P ρ σ o = some (.raw (.int k (min m n))) := by
  have e : (if n < m then n else m) = min m n := by split <;> omega
  simp [qop, rawOp, ho, hc, ha, Op.operands, Call.operands, hx, hy, toVal, execOp, rawEnv, resolve, invoke, builtin, Builtin.min_, Builtin.min2, val?, okVal, ofVal, ofCell, e]
  simp [Pure.pure, Bind.bind, Sem.bind, val?, okVal, ofVal, ofCell]
theorem q_bool {t b : Bool} (h : qop P ρ σ o = some (.raw (.bool t))) (e : t = b) : qop P ρ σ o = some (.raw (.bool b)) := by rw [h, e]
end
end Go.Ab

