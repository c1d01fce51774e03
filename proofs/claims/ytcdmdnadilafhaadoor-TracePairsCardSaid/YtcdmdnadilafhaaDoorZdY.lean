/-
  Regions in whose midst boxes are made and written: steps.
-/
import Derived.Test.YtcdmdnadilafhaaDoorZdSh
set_option linter.unusedSimpArgs false
set_option linter.unusedVariables false
namespace Go.Ab
open Go Go.RowKit Go.Fwd
/-- A type's zero. -/
def zeroV (P : Program) (t : TypeId) : Value := (zeroOf P t).getD undef
section
variable {IT : IterP} {P : Program} {W : Owed} {k0 : Nat}
theorem w_drawD {id : Nat} {ops : Array Oper} {Q : AQ} {S : List AV} {σ : St} (n : Nat) (pl : List Pe) (h1 : Go.Fwd.chk ops S.length n = true) (h2 : noDefer ops.toList = true) (h3 : plOk pl n = true)
    (h : aheadD IT P ops σ pl (fun S' => aops IT P W ops (Q .normal) (ops.toList.drop n) (pendSD σ.boxes.length pl S') (pendσD σ pl)) 0 (ops.toList.take n) S) : awp IT P W k0 (.region id ops true) Q S σ := .inr (.inr (.inr ⟨n, pl, h1, h2, h3, h⟩))
variable {ops : Array Oper} {σ : St} {pl : List Pe} {K : List AV → Prop} {o : Oper} {l : List Oper} {S S' : List AV} {k : Nat}
theorem hD_new (p : Pe) (hm : p ∈ pl) (hk : p.al = k) (hg : o.guard = none) (ho : o.op = .alloc p.t) (hdst : o.dst = some p.d) (hd : (o.dst.all fun d => decide (d < S.length)) = true) (hz : zeroOf P p.t = some p.z) (hS : S.set p.d .top = S') (h : aheadD IT P ops σ pl K (k + 1) l S') : aheadD IT P ops σ pl K k (o :: l) S :=
  ⟨hd, .inl ⟨p, hm, hk, hg, ho, hdst, hz, by rw [hS]; exact h⟩⟩
theorem hD_store (p : Pe) (y : Operand) (hm : p ∈ pl) (hk : p.st = k) (hlt : p.al < k) (hg : o.guard = none) (ho : o.op = .store p.t (.tmp p.d) y) (hdst : o.dst = none) (hy : aval S y = p.v) (hc : cellOk p.v = true) (hn : sizeT P p.t = some p.z.cells.size) (hl : (cellsOf p.v).length = p.z.cells.size)
    (ha : (o.after.toList.any fun e => Region.binds .any e && decide (e.on = p.al)) = true) (h : aheadD IT P ops σ pl K (k + 1) l S) : aheadD IT P ops σ pl K k (o :: l) S :=
  ⟨by rw [hdst]; rfl, .inr (.inl ⟨p, hm, hk, hlt, hg, hdst, ⟨y, ho, hy⟩, hc, hn, hl, ha, h⟩)⟩
theorem hD_op {a : AV} (hd : (o.dst.all fun d => decide (d < S.length)) = true) (hp : (pl.all fun p => decide (p.al ≠ k) && decide (p.st ≠ k) && (o.dst != some p.d)) = true) (hg : o.guard = none) (hc : acall S o = none) (h : qop P (aval S) σ o = some a) (hS : aput S o.dst a = S') (hk : aheadD IT P ops σ pl K (k + 1) l S') : aheadD IT P ops σ pl K k (o :: l) S := by
  refine ⟨hd, .inr (.inr ⟨hp, ?_⟩)⟩
  rw [hg]
  simp only [hstep, hc]
  exact ⟨a, .inl h, by rw [hS]; exact hk⟩
theorem hD_opS {a a0 : AV} (hd : (o.dst.all fun d => decide (d < S.length)) = true) (hp : (pl.all fun p => decide (p.al ≠ k) && decide (p.st ≠ k) && (o.dst != some p.d)) = true) (hg : o.guard = none) (hc : acall S o = none) (h : qop P (aval S) σ o = some a0) (ha : strip a0 = a) (hS : aput S o.dst a = S') (hk : aheadD IT P ops σ pl K (k + 1) l S') : aheadD IT P ops σ pl K k (o :: l) S := by
  refine ⟨hd, .inr (.inr ⟨hp, ?_⟩)⟩
  rw [hg]
  simp only [hstep, hc]
  exact ⟨a, .inr (.inr ⟨a0, h, ha.symm⟩), by rw [hS]; exact hk⟩
theorem hD_call {f : FuncId} {args args' : List AV} {r : AV} (hpu : Pure IT P f args' r) (hd : (o.dst.all fun d => decide (d < S.length)) = true) (hp : (pl.all fun p => decide (p.al ≠ k) && decide (p.st ≠ k) && (o.dst != some p.d)) = true) (hg : o.guard = none) (hc : acall S o = some (f, args)) (hs : stripL args = args') (hok : okTrimL 0 args = true) (hS : aput S o.dst r = S') (hk : aheadD IT P ops σ pl K (k + 1) l S') : aheadD IT P ops σ pl K k (o :: l) S := by
  refine ⟨hd, .inr (.inr ⟨hp, ?_⟩)⟩
  rw [hg]
  simp only [hstep, hc]
  exact ⟨r, hok, by rw [hs]; exact hpu, by rw [hS]; exact hk⟩
theorem h_runR (a : AV) {K : List AV → Prop} (hd : (o.dst.all fun d => decide (d < S.length)) = true) (hg : o.guard = none) (hc : acall S o = none) (h : RawRun P (aval S) o a) (hS : aput S o.dst a = S') (k : ahead IT P ops σ K l S') : ahead IT P ops σ K (o :: l) S := by
  refine ⟨hd, ?_⟩
  rw [hg]
  simp only [hstep, hc]
  exact ⟨a, .inr (.inl h), by rw [hS]; exact k⟩
theorem hD_end (h : K S) : aheadD IT P ops σ pl K k [] S := h
theorem hD_doneF {Q : List AV → St → Prop} {l' : List Oper} {σ' : St} {n : Nat} (hn : σ.boxes.length = n) (hσ : pendσD σ pl = σ') (hS : pendSD n pl S = S') (h : aops IT P W ops Q l' S' σ') : aops IT P W ops Q l' (pendSD σ.boxes.length pl S) (pendσD σ pl) := by
  rw [hn, hσ, hS]; exact h
end
end Go.Ab
