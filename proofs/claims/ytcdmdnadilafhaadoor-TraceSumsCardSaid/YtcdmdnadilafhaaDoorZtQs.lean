/-
  Slices of lists.
-/
import Derived.Test.YtcdmdnadilafhaaDoorZdSh
import Derived.Test.YtcdmdnadilafhaaDoorZtEn2
set_option linter.unusedSimpArgs false
set_option linter.unusedVariables false
namespace Go.Ab
open Go Go.RowKit Go.Fwd
/-- A type's zero. -/
def zeroV (P : Program) (t : TypeId) : Value := (zeroOf P t).getD undef
section
variable {IT : IterP} {P : Program} {W : Owed} {k0 : Nat}
theorem w_drawD {id : Nat} {ops : Array Oper} {Q : AQ} {S : List AV} {σ : St} (n : Nat) (pl : List Pe) (h1 : Go.Fwd.chk ops S.length n = true) (h2 : noDefer ops.toList = true) (h3 : plOk pl n = true)
    (h : aheadD IT P ops σ pl (fun S' => aops IT P W ops (Q .normal) (ops.toList.drop n) (pendSD σ.boxes.length pl S') (pendσD σ pl)) 0 (ops.toList.take n) S) : awp IT P W k0 (.region id ops true) Q S σ := .inr (.inr (.inr ⟨n, pl, h1, h2, h3, h⟩))
variable {ops : Array Oper} {σ : St} {pl : List Pe} {K : List AV → Prop} {o : Oper} {l : List Oper} {S S' : List AV} {k : Nat}
theorem hD_new (p : Pe) (hm : p ∈ pl) (hk : p.al = k) (hg : o.guard = none) (ho : o.op = .alloc p.t) (hdst : o.dst = some p.d) (hd : (o.dst.all fun d => decide (d < S.length)) = true) (hz : zeroOf P p.t = some p.z) (hS : S.set p.d .top = S') (h : aheadD IT P ops σ pl K (k + 1) l S') : aheadD IT P ops σ pl K k (o :: l) S :=
  ⟨hd, .inl ⟨p, hm, hk, hg, ho, hdst, hz, by rw [hS]; exact h⟩⟩
theorem hD_store (p : Pe) (y : Operand) (hm : p ∈ pl) (hk : p.st = k) (hlt : p.al < k) (hg : o.guard = none) (ho : o.op = .store p.t (.tmp p.d) y) (hdst : o.dst = none) (hy : aval S y = p.v) (hc : cellOk p.v = true) (hn : sizeT P p.t = some p.z.cells.size) (hl : (cellsOf p.v).length = p.z.cells.size)
    (ha : (o.after.toList.any fun e => Region.binds .any e && decide (e.on = p.al)) = true) (h : aheadD IT P ops σ pl K (k + 1) l S) : aheadD IT P ops σ pl K k (o :: l) S :=
  ⟨by rw [hdst]; rfl, .inr (.inl ⟨p, hm, hk, hlt, hg, hdst, ⟨y, ho, hy⟩, hc, hn, hl, ha, h⟩)⟩
theorem hD_op {a : AV} (hd : (o.dst.all fun d => decide (d < S.length)) = true) (hp : (pl.all fun p => decide (p.al ≠ k) && decide (p.st ≠ k) && (o.dst != some p.d)) = true) (hg : o.guard = none) (hc : acall S o = none) (h : qop P (aval S) σ o = some a) (hS : aput S o.dst a = S') (hk : aheadD IT P ops σ pl K (k + 1) l S') : aheadD IT P ops σ pl K k (o :: l) S := by
  refine ⟨hd, .inr (.inr ⟨hp, ?_⟩)⟩
  rw [hg]
  simp only [hstep, hc]
  exact ⟨a, .inl h, by rw [hS]; exact hk⟩
theorem hD_opS {a a0 : AV} (hd : (o.dst.all fun d => decide (d < S.length)) = true) (hp : (pl.all fun p => decide (p.al ≠ k) && decide (p.st ≠ k) && (o.dst != some p.d)) = true) (hg : o.guard = none) (hc : acall S o = none) (h : qop P (aval S) σ o = some a0) (ha : strip a0 = a) (hS : aput S o.dst a = S') (hk : aheadD IT P ops σ pl K (k + 1) l S') : aheadD IT P ops σ pl K k (o :: l) S := by
  refine ⟨hd, .inr (.inr ⟨hp, ?_⟩)⟩
  rw [hg]
  simp only [hstep, hc]
  exact ⟨a, .inr (.inr ⟨a0, h, ha.symm⟩), by rw [hS]; exact hk⟩
theorem hD_call {f : FuncId} {args args' : List AV} {r : AV} (hpu : Pure IT P f args' r) (hd : (o.dst.all fun d => decide (d < S.length)) = true) (hp : (pl.all fun p => decide (p.al ≠ k) && decide (p.st ≠ k) && (o.dst != some p.d)) = true) (hg : o.guard = none) (hc : acall S o = some (f, args)) (hs : stripL args = args') (hok : okTrimL 0 args = true) (hS : aput S o.dst r = S') (hk : aheadD IT P ops σ pl K (k + 1) l S') : aheadD IT P ops σ pl K k (o :: l) S := by
  refine ⟨hd, .inr (.inr ⟨hp, ?_⟩)⟩
  rw [hg]
  simp only [hstep, hc]
  exact ⟨r, hok, by rw [hs]; exact hpu, by rw [hS]; exact hk⟩
theorem h_runR (a : AV) {K : List AV → Prop} (hd : (o.dst.all fun d => decide (d < S.length)) = true) (hg : o.guard = none) (hc : acall S o = none) (h : RawRun P (aval S) o a) (hS : aput S o.dst a = S') (k : ahead IT P ops σ K l S') : ahead IT P ops σ K (o :: l) S := by
  refine ⟨hd, ?_⟩
  rw [hg]
  simp only [hstep, hc]
  exact ⟨a, .inr (.inl h), by rw [hS]; exact k⟩
theorem hD_end (h : K S) : aheadD IT P ops σ pl K k [] S := h
theorem hD_doneF {Q : List AV → St → Prop} {l' : List Oper} {σ' : St} {n : Nat} (hn : σ.boxes.length = n) (hσ : pendσD σ pl = σ') (hS : pendSD n pl S = S') (h : aops IT P W ops Q l' S' σ') : aops IT P W ops Q l' (pendSD σ.boxes.length pl S) (pendσD σ pl) := by
  rw [hn, hσ, hS]; exact h
end
end Go.Ab
set_option linter.unusedSimpArgs false
set_option linter.unusedVariables false
namespace Go.Ab
open Go Go.RowKit Go.Fwd
def subRoom (n : Nat) (i j : Int) (st : Room) : Room := if i.toNat = 0 ∧ j.toNat = n then st else if j.toNat = n ∧ st = .full then .full else .none
theorem sub_lenI {α : Type} (l : List α) {i j : Int} (g : 0 ≤ i ∧ i ≤ j ∧ j ≤ (l.length : Int)) : (sub l i j).length = j.toNat - i.toNat := by
  simp only [sub, List.length_take, List.length_drop]; omega
theorem sub_cells {α : Type} [Enc α] (l : List α) {i j : Int} (g : 0 ≤ i ∧ i ≤ j ∧ j ≤ (l.length : Int)) : ((Enc.cellsL l).drop (i.toNat * Enc.sz α)).take ((j.toNat - i.toNat) * Enc.sz α) = Enc.cellsL (sub l i j) := by
  rw [Enc.drop, Enc.take]; rfl
section
variable {P : Program} {ρ : Operand → AV} {σ : St} {o : Oper}
theorem strip_sub {α : Type} [Enc α] (l : List α) (n : Nat) (st : Room) : strip (.list n (Enc.cellsL l) st) = .list n (Enc.cellsL l) .none := by
  rw [strip, Enc.stripL]
theorem q_sub_H {α : Type} [Enc α] {l : List α} {x y : Operand} {t e : TypeId} {st : Room} {j : Int} (g : 0 ≤ 0 ∧ 0 ≤ j ∧ j ≤ (l.length : Int)) (ho : o.op = .slice t x none (some y) none) (hx : ρ x = .list l.length (Enc.cellsL l) st) (hy : ρ y = .raw (.int .i64 j)) (hu : P.underlying t = some (.slice e)) (hs : sizeT P e = some (Enc.sz α)) :
    qop P ρ σ o = some (.list (sub l 0 j).length (Enc.cellsL (sub l 0 j)) (subRoom l.length 0 j st)) := by
  have hg : (0 : Int) ≤ 0 ∧ 0 ≤ j ∧ j ≤ (l.length : Int) := ⟨Int.le_refl 0, g.2⟩
  have h1 : aSlice P t (ρ x) none (some (ρ y)) none = some (.list (sub l 0 j).length (Enc.cellsL (sub l 0 j)) (subRoom l.length 0 j st)) := by
    have hj := g.2
    rw [sub_lenI l hg, ← sub_cells l hg, hx, hy]
    simp [aSlice, hu, hs, aBounds, aBound, Enc.lenL, subRoom, hj]
  simp only [qop, ho, Option.map, h1]
theorem q_conv64 {x : Operand} {s t : TypeId} {k : IntKind} {n : Int} (g : -9223372036854775808 ≤ n ∧ n < 9223372036854775808) (ho : o.op = .convert s t x) (hx : ρ x = .raw (.int k n)) (hs : val? P (Next.value <$> convert s t (.int k n)) = some (.value (.int .i64 (IntKind.i64.wrap n)))) : qop P ρ σ o = some (.raw (.int .i64 n)) := by
  have h := wrap_i64 g.1 g.2
  rw [h] at hs
  simp [qop, rawOp, ho, Op.operands, hx, toVal, execOp, rawEnv, hs, aBytesStr]
  exact ⟨rfl, rfl⟩
theorem u8sOf_cells : ∀ l : List UInt8, u8sOf (Enc.cellsL l) = some l
  | [] => rfl
  | a :: l => by
    show u8sOf (.raw (.int .u8 ((a.toNat : Nat) : Int)) :: Enc.cellsL l) = _
    have h := a.toNat_lt
    simp [u8sOf, u8sOf_cells l]
    omega
theorem q_bstr {l : List UInt8} {x : Operand} {s t e : TypeId} {st : Room} (ho : o.op = .convert s t x) (hx : ρ x = .list l.length (Enc.cellsL l) st) (hs : P.underlying s = some (.slice e) ∧ P.underlying e = some (.int .u8)) (ht : P.underlying t = some .string) : qop P ρ σ o = some (.raw (.string (bs l))) := by
  have h : aBytesStr P s t (ρ x) = some (.raw (.string (bs l))) := by
    rw [hx]
    simp only [aBytesStr, hs.1, hs.2, ht, u8sOf_cells, if_true]
    rfl
  simp only [qop, ho, h]
theorem op_storeO {t : TypeId} {x y : Operand} {s off n : Nat} {cs : List AV} {bx : TypeId × List AV} (ho : o.op = .store t x y) (hx : ρ x = .ptr s off) (hy : ρ y = ownAV n cs) (hb : σ.boxes[s]? = some bx) (hn : sizeT P t = some 1) (hl : off + 1 ≤ bx.2.length) :
    aop P ρ σ o = some (.raw undef, { σ with boxes := σ.boxes.set s (bx.1, bx.2.take off ++ [ownAV n cs] ++ bx.2.drop (off + 1)) }) := by
  have h1 : cellsOf (ownAV n cs) = [ownAV n cs] := by unfold ownAV; split <;> rfl
  have h2 : cellOk (ownAV n cs) = true := by unfold ownAV; split <;> rfl
  rw [op_store (n := 1) ho hx hy hb hn ⟨h2, by rw [h1]; rfl, hl, by decide⟩, h1]
theorem q_rem64 {x y : Operand} {t : TypeId} {c} {m n : Int} (g : (0 ≤ m ∧ m < 9223372036854775808) ∧ 0 < n) (ho : o.op = .binOp .rem t x y c) (hx : ρ x = .raw (.int .i64 m)) (hy : ρ y = .raw (.int .i64 n)) : qop P ρ σ o = some (.raw (.int .i64 (Int.tmod m n))) := by
  obtain ⟨⟨h1, h2⟩, h3⟩ := g
  have h0 : ¬ n = 0 := by omega
  have hb : 0 ≤ Int.tmod m n ∧ Int.tmod m n ≤ m := by
    rw [Int.tmod_eq_emod_of_nonneg h1]
    exact ⟨Int.emod_nonneg _ h0, by
      have := Int.emod_emod_of_dvd m (Int.dvd_refl n)
      have h4 := Int.mul_ediv_add_emod m n
      have h5 : 0 ≤ n * (m / n) := Int.mul_nonneg (by omega) (Int.ediv_nonneg h1 (by omega))
      omega⟩
  have h := wrap_i64 (x := Int.tmod m n) (by omega) (by omega)
  simp [qop, rawOp, ho, Op.operands, hx, hy, toVal, execOp, rawEnv, eqGuard, binOp, Op.intDiv, h0, h]
  try rfl
def trcR (t : Trc) (st : Room) : AV := .agg [.list t.l.length (Enc.cellsL t.l) st, .raw (.int .u8 t.e.k), .raw (.int .i64 t.e.c)]
theorem strip_trcR (t : Trc) (st : Room) : strip (trcR t st) = .agg (Enc.cells t) := by
  simp only [trcR, strip, stripL, Enc.stripL]; rfl
end
end Go.Ab
