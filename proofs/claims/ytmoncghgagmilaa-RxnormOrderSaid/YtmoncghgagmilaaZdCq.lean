/-
  Slices of boxed slices, copy, make of elements of several cells: as lists.
-/
import Derived.Test.YtmoncghgagmilaaRows
import Derived.Test.YtmoncghgagmilaaZnP
import Derived.Test.YtmoncghgagmilaaZdSh
set_option linter.unusedSimpArgs false
set_option linter.unusedVariables false
namespace Go.Ab
open Go Go.RowKit Go.Fwd Go.Proofs
theorem mix : Try.prog.follows .mixedOrders = true := by kernel_rfl
theorem ents (f : Nat) (fn : Func) (hf : Try.prog.funcs[f]? = some fn) (hb : fn.body.isSome = true) : Ent Try.prog f := by
 obtain ⟨c, hc⟩ := Option.isSome_iff_exists.1 hb
 have hall : (Try.prog.funcs.toList.all fun fn => !(fn.name == "runtime.NumGoroutine")) = true := by kernel_rfl
 have := List.all_eq_true.1 hall fn (Array.mem_toList_iff.2 (Array.mem_of_getElem? hf))
 exact enters_of hf (by simpa using this) hc
def noP : CallP := fun _ _ => none
def noS : CallS := fun _ _ _ => none
theorem z4d : Good Try.prog noP noS := ⟨mix, ents, (fun _ _ _ h => nomatch h), (fun _ _ _ _ _ h => nomatch h)⟩
theorem undS : Try.prog.underlying 28 = some (.array 4 26) := by kernel_rfl
theorem undW : Try.prog.underlying 26 = some (.int .u64) := by kernel_rfl
theorem sizeW (w : World) : (sizeOf 26).run Try.prog w = .ok 1 w := by kernel_rfl
theorem aggW (w : World) : (isAgg 26).run Try.prog w = .ok false w := by kernel_rfl
theorem eqInS' (d : Nat) (a0 a1 a2 a3 b0 b1 b2 b3 : Int) (w : World) : (Op.equalIn (d + 1 + 1) 28 (.agg #[.int .u64 a0, .int .u64 a1, .int .u64 a2, .int .u64 a3]) (.agg #[.int .u64 b0, .int .u64 b1, .int .u64 b2, .int .u64 b3])).run Try.prog w =
 .ok (a0 == b0 && a1 == b1 && a2 == b2 && a3 == b3) w := by
 rw [Op.equalIn]
 simp only [Sem.run_bind, run_underlying undS, Result.andThen_ok, sizeW]
 have hq : ∀ (a b : Int) (w : World), (Op.equalIn (d + 1) 26 (.int .u64 a) (.int .u64 b)).run Try.prog w = .ok (a == b) w := fun a b w => run_equalIn_int w d 26 .u64 .u64 a b undW
 have hr : List.range' 0 4 = [0, 1, 2, 3] := rfl
 simp [part, hr, aggW, Sem.run_bind, hq, Result.andThen]
 by_cases h0 : a0 = b0 <;> by_cases h1 : a1 = b1 <;> by_cases h2 : a2 = b2 <;> by_cases h3 : a3 = b3 <;> simp [h0, h1, h2, h3, hq, Result.andThen]
theorem eqInS (a0 a1 a2 a3 b0 b1 b2 b3 : Int) (w : World) : (Op.equalIn 10000 28 (.agg #[.int .u64 a0, .int .u64 a1, .int .u64 a2, .int .u64 a3]) (.agg #[.int .u64 b0, .int .u64 b1, .int .u64 b2, .int .u64 b3])).run Try.prog w =
 .ok (a0 == b0 && a1 == b1 && a2 == b2 && a3 == b3) w := eqInS' 9998 _ _ _ _ _ _ _ _ w
theorem z8j : Try.prog.eqGuardType Try.prog.depth 28 = false := by kernel_rfl
theorem z2e {ρ : Operand → AV} {o : Oper} {x y : Operand} {c} (s t : BS) (ho : o.op = .binOp .eql 28 x y c) (hx : ρ x = z44 s) (hy : ρ y = z44 t) : ziw Try.prog ρ o (.raw (.bool (decide (s = t)))) := by
 refine ⟨?_, by rw [ho]; intros; simp, by rw [ho]; intros; simp, .bool (decide (s = t)), fun w => ?_, rfl, rfl⟩
 ·rw [ho]; simp [Op.operands, hx, hy, z44, zg6, zd4, zh7]
 ·have h1 : zcs ρ x = .agg #[.int .u64 (wd s 0), .int .u64 (wd s 1), .int .u64 (wd s 2), .int .u64 (wd s 3)] := by simp [zcs, hx, z44, zg6, zd4, zh7]
  have h2 : zcs ρ y = .agg #[.int .u64 (wd t 0), .int .u64 (wd t 1), .int .u64 (wd t 2), .int .u64 (wd t 3)] := by simp [zcs, hy, z44, zg6, zd4, zh7]
  have h3 := eqInS (wd s 0) (wd s 1) (wd s 2) (wd s 3) (wd t 0) (wd t 1) (wd t 2) (wd t 3) w
  rw [z7x] at h3
  simp [execOp, ho, h1, h2, eqGuard, binOp, Op.equal, Op.maxDepth, program, Sem.run, z8j, h3]
theorem zz3 {ρ : Operand → AV} {o : Oper} {x y : Operand} {c} (s t : BS) (ho : o.op = .binOp .neq 28 x y c) (hx : ρ x = z44 s) (hy : ρ y = z44 t) : ziw Try.prog ρ o (.raw (.bool (decide (s ≠ t)))) := by
 refine ⟨?_, by rw [ho]; intros; simp, by rw [ho]; intros; simp, .bool (decide (s ≠ t)), fun w => ?_, rfl, rfl⟩
 ·rw [ho]; simp [Op.operands, hx, hy, z44, zg6, zd4, zh7]
 ·have h1 : zcs ρ x = .agg #[.int .u64 (wd s 0), .int .u64 (wd s 1), .int .u64 (wd s 2), .int .u64 (wd s 3)] := by simp [zcs, hx, z44, zg6, zd4, zh7]
  have h2 : zcs ρ y = .agg #[.int .u64 (wd t 0), .int .u64 (wd t 1), .int .u64 (wd t 2), .int .u64 (wd t 3)] := by simp [zcs, hy, z44, zg6, zd4, zh7]
  have h3 := eqInS (wd s 0) (wd s 1) (wd s 2) (wd s 3) (wd t 0) (wd t 1) (wd t 2) (wd t 3) w
  rw [z7x] at h3
  simp [execOp, ho, h1, h2, eqGuard, binOp, Op.equal, Op.maxDepth, program, Sem.run, z8j, h3]
theorem zzm {ρ : Operand → AV} {o : Oper} {x y : Operand} {c} (s t : BS) (ho : o.op = .binOp .eql 28 x y c) (hx : ρ x = .agg (Enc.cells s)) (hy : ρ y = .agg (Enc.cells t)) : ziw Try.prog ρ o (.raw (.bool (decide (s = t)))) := z2e s t ho hx hy
theorem zu8 {ρ : Operand → AV} {o : Oper} {x y : Operand} {c} (s t : BS) (ho : o.op = .binOp .neq 28 x y c) (hx : ρ x = .agg (Enc.cells s)) (hy : ρ y = .agg (Enc.cells t)) : ziw Try.prog ρ o (.raw (.bool (decide (s ≠ t)))) := zz3 s t ho hx hy
theorem or_run (a b : BS) : Pure (ITP Try.prog) Try.prog 59 [.agg (Enc.cells a), .agg (Enc.cells b)] (.agg [.raw (.int .u64 (orI .u64 (wd a 0) (wd b 0))), .raw (.int .u64 (orI .u64 (wd a 1) (wd b 1))), .raw (.int .u64 (orI .u64 (wd a 2) (wd b 2))), .raw (.int .u64 (orI .u64 (wd a 3) (wd b 3)))]) := zd7 z4d 100 (by kernel_rfl)
theorem z7f (a b : BS) : Pure (ITP Try.prog) Try.prog 96 [.agg (Enc.cells a), .agg (Enc.cells b)] (.agg [.raw (.int .u64 (zl3 .u64 (wd a 0) (wd b 0))), .raw (.int .u64 (zl3 .u64 (wd a 1) (wd b 1))), .raw (.int .u64 (zl3 .u64 (wd a 2) (wd b 2))), .raw (.int .u64 (zl3 .u64 (wd a 3) (wd b 3)))]) := zd7 z4d 100 (by kernel_rfl)
theorem k_or2 (a b : BS) : Pure (ITP Try.prog) Try.prog 59 [.agg (Enc.cells a), .agg (Enc.cells b)] (.agg (Enc.cells (a ||| b))) := by
 have := or_run a b
 simp only [wd_or] at this; exact this
theorem z8d (a b : BS) : Pure (ITP Try.prog) Try.prog 96 [.agg (Enc.cells a), .agg (Enc.cells b)] (.agg (Enc.cells (a &&& ~~~ b))) := by
 have := z7f a b
 rw [zr4 _ _ 0 (by decide), zr4 _ _ 1 (by decide), zr4 _ _ 2 (by decide), zr4 _ _ 3 (by decide)] at this; exact this
end Go.Ab
set_option linter.unusedSimpArgs false
set_option linter.unusedVariables false
namespace Go.Ab
open Go Go.RowKit Go.Fwd
def zeroV (P : Program) (t : TypeId) : Value := (zhm P t).getD undef
section
variable {IT : IterP} {P : Program} {W : Owed} {k0 : Nat}
theorem w_drawD {id : Nat} {ops : Array Oper} {Q : AQ} {S : List AV} {σ : St} (n : Nat) (pl : List Pe) (h1 : Go.Fwd.chk ops S.length n = true) (h2 : zlz ops.toList = true) (h3 : plOk pl n = true)
 (h : zeh IT P ops σ pl (fun S' => zb6 IT P W ops (Q .normal) (ops.toList.drop n) (zjp σ.boxes.length pl S') (zir σ pl)) 0 (ops.toList.take n) S) : awp IT P W k0 (.region id ops true) Q S σ := .inr (.inr (.inr ⟨n, pl, h1, h2, h3, h⟩))
variable {ops : Array Oper} {σ : St} {pl : List Pe} {K : List AV → Prop} {o : Oper} {l : List Oper} {S S' : List AV} {k : Nat}
theorem hD_new (p : Pe) (hm : p ∈ pl) (hk : p.al = k) (hg : o.guard = none) (ho : o.op = .alloc p.t) (hdst : o.dst = some p.d) (hd : (o.dst.all fun d => decide (d < S.length)) = true) (hz : zhm P p.t = some p.z) (hS : S.set p.d .top = S') (h : zeh IT P ops σ pl K (k + 1) l S') : zeh IT P ops σ pl K k (o :: l) S :=
 ⟨hd, .inl ⟨p, hm, hk, hg, ho, hdst, hz, by rw [hS]; exact h⟩⟩
theorem z5q (p : Pe) (y : Operand) (hm : p ∈ pl) (hk : p.st = k) (hlt : p.al < k) (hg : o.guard = none) (ho : o.op = .store p.t (.tmp p.d) y) (hdst : o.dst = none) (hy : zcp S y = p.v) (hc : zhk p.v = true) (hn : zec P p.t = some p.z.cells.size) (hl : (cellsOf p.v).length = p.z.cells.size)
 (ha : (o.after.toList.any fun e => Region.binds .any e && decide (e.on = p.al)) = true) (h : zeh IT P ops σ pl K (k + 1) l S) : zeh IT P ops σ pl K k (o :: l) S :=
 ⟨by rw [hdst]; rfl, .inr (.inl ⟨p, hm, hk, hlt, hg, hdst, ⟨y, ho, hy⟩, hc, hn, hl, ha, h⟩)⟩
theorem zjy {a : AV} (hd : (o.dst.all fun d => decide (d < S.length)) = true) (hp : (pl.all fun p => decide (p.al ≠ k) && decide (p.st ≠ k) && (o.dst != some p.d)) = true) (hg : o.guard = none) (hc : zc3 S o = none) (h : qop P (zcp S) σ o = some a) (hS : zn S o.dst a = S') (hk : zeh IT P ops σ pl K (k + 1) l S') : zeh IT P ops σ pl K k (o :: l) S := by
 refine ⟨hd, .inr (.inr ⟨hp, ?_⟩)⟩
 rw [hg]
 simp only [zgu, hc]
 exact ⟨a, .inl h, by rw [hS]; exact hk⟩
theorem hD_call {f : FuncId} {args args' : List AV} {r : AV} (hpu : Pure IT P f args' r) (hd : (o.dst.all fun d => decide (d < S.length)) = true) (hp : (pl.all fun p => decide (p.al ≠ k) && decide (p.st ≠ k) && (o.dst != some p.d)) = true) (hg : o.guard = none) (hc : zc3 S o = some (f, args)) (hs : stripL args = args') (hok : z7 0 args = true) (hS : zn S o.dst r = S') (hk : zeh IT P ops σ pl K (k + 1) l S') : zeh IT P ops σ pl K k (o :: l) S := by
 refine ⟨hd, .inr (.inr ⟨hp, ?_⟩)⟩
 rw [hg]
 simp only [zgu, hc]
 exact ⟨r, hok, by rw [hs]; exact hpu, by rw [hS]; exact hk⟩
theorem zt2 (a : AV) {K : List AV → Prop} (hd : (o.dst.all fun d => decide (d < S.length)) = true) (hg : o.guard = none) (hc : zc3 S o = none) (h : ziw P (zcp S) o a) (hS : zn S o.dst a = S') (k : ahead IT P ops σ K l S') : ahead IT P ops σ K (o :: l) S := by
 refine ⟨hd, ?_⟩
 rw [hg]
 simp only
 refine .inl ?_
 simp only [zgu, hc]
 exact ⟨a, .inr (.inl h), by rw [hS]; exact k⟩
theorem hD_end (h : K S) : zeh IT P ops σ pl K k [] S := h
theorem z6j {Q : List AV → St → Prop} {l' : List Oper} {σ' : St} {n : Nat} (hn : σ.boxes.length = n) (hσ : zir σ pl = σ') (hS : zjp n pl S = S') (h : zb6 IT P W ops Q l' S' σ') : zb6 IT P W ops Q l' (zjp σ.boxes.length pl S) (zir σ pl) := by
 rw [hn, hσ, hS]; exact h
end
end Go.Ab
set_option linter.unusedSimpArgs false
set_option linter.unusedVariables false
namespace Go.Ab
open Go Go.RowKit Go.Fwd
def zl1 (n : Nat) (i j : Int) (st : Room) : Room := if i.toNat = 0 ∧ j.toNat = n then st else if j.toNat = n ∧ st = .full then .full else .none
theorem zze {α : Type} (l : List α) {i j : Int} (g : 0 ≤ i ∧ i ≤ j ∧ j ≤ (l.length : Int)) : (sub l i j).length = j.toNat - i.toNat := by
 simp only [sub, List.length_take, List.length_drop]; omega
theorem zvc {α : Type} [Enc α] (l : List α) {i j : Int} (g : 0 ≤ i ∧ i ≤ j ∧ j ≤ (l.length : Int)) : ((Enc.cellsL l).drop (i.toNat * Enc.sz α)).take ((j.toNat - i.toNat) * Enc.sz α) = Enc.cellsL (sub l i j) := by
 rw [Enc.drop, Enc.take]; rfl
section
variable {P : Program} {ρ : Operand → AV} {σ : St} {o : Oper}
theorem zcz {α : Type} [Enc α] (l : List α) (n : Nat) (st : Room) : zb7 (.list n (Enc.cellsL l) st) = .list n (Enc.cellsL l) .none := by
 rw [zb7, Enc.stripL]
theorem z1e {α : Type} [Enc α] {l : List α} {x y : Operand} {t e : TypeId} {st : Room} {j : Int} (g : 0 ≤ 0 ∧ 0 ≤ j ∧ j ≤ (l.length : Int)) (ho : o.op = .slice t x none (some y) none) (hx : ρ x = .list l.length (Enc.cellsL l) st) (hy : ρ y = .raw (.int .i64 j)) (hu : P.underlying t = some (.slice e)) (hs : zec P e = some (Enc.sz α)) :
 qop P ρ σ o = some (.list (sub l 0 j).length (Enc.cellsL (sub l 0 j)) (zl1 l.length 0 j st)) := by
 have hg : (0 : Int) ≤ 0 ∧ 0 ≤ j ∧ j ≤ (l.length : Int) := ⟨Int.le_refl 0, g.2⟩
 have h1 : zig P t (ρ x) none (some (ρ y)) none = some (.list (sub l 0 j).length (Enc.cellsL (sub l 0 j)) (zl1 l.length 0 j st)) := by
  have hj := g.2
  rw [zze l hg, ← zvc l hg, hx, hy]
  simp [zig, hu, hs, zdx, zgj, Enc.lenL, zl1, hj]
 simp only [qop, ho, Option.map, h1]
theorem zx5 {x : Operand} {s t : TypeId} {k : IntKind} {n : Int} (g : -9223372036854775808 ≤ n ∧ n < 9223372036854775808) (ho : o.op = .convert s t x) (hx : ρ x = .raw (.int k n)) (hs : val? P (Next.value <$> convert s t (.int k n)) = some (.value (.int .i64 (IntKind.i64.wrap n)))) : qop P ρ σ o = some (.raw (.int .i64 n)) := by
 have h := zn6 g.1 g.2
 rw [h] at hs
 simp [qop, zg9, ho, Op.operands, hx, zg6, execOp, zcs, hs, zkc]
 exact ⟨rfl, rfl⟩
end
section
variable {P : Program} {ρ : Operand → AV} {σ : St} {o : Oper}
theorem zf0 {α : Type} [Enc α] {l : List α} {x y : Operand} {t e : TypeId} {st : Room} {i : Int} (g : 0 ≤ i ∧ i ≤ (l.length : Int) ∧ (l.length : Int) ≤ (l.length : Int)) (ho : o.op = .slice t x (some y) none none) (hx : ρ x = .list l.length (Enc.cellsL l) st) (hy : ρ y = .raw (.int .i64 i)) (hu : P.underlying t = some (.slice e)) (hs : zec P e = some (Enc.sz α)) :
 qop P ρ σ o = some (.list (sub l i l.length).length (Enc.cellsL (sub l i l.length)) (zl1 l.length i l.length st)) := by
 have h1 : zig P t (ρ x) (some (ρ y)) none none = some (.list (sub l i l.length).length (Enc.cellsL (sub l i l.length)) (zl1 l.length i l.length st)) := by
  have hj := g.1
  have hk := g.2.1
  rw [zze l g, ← zvc l g, hx, hy]
  simp [zig, hu, hs, zdx, zgj, Enc.lenL, zl1, hj, hk]
 simp only [qop, ho, Option.map, h1]
end
end Go.Ab
set_option linter.unusedSimpArgs false
set_option linter.unusedVariables false
namespace Go.Ab
open Go Go.RowKit Go.Fwd Go.Proofs
structure Bd where
 lo : Int
 mo : Int
 deriving DecidableEq
def z3y (e : Bd) : List AV := [.raw (.int .i64 e.lo), .raw (.int .i64 e.mo)]
instance : Enc Bd where
 inh := ⟨0, 0⟩
 cells := z3y
 cellsL l := l.flatMap z3y
 sz := 2
 pos := by decide
 nil := rfl
 cons _ _ := rfl
 len _ := rfl
 clo _ := rfl
theorem und3 : Try.prog.underlying 3 = some (.int .i64) := by kernel_rfl
theorem z6a (w : World) : (isAgg 3).run Try.prog w = .ok false w := by kernel_rfl
theorem eq_nil {P : Program} {d : Nat} {xs ys : Array Value} (w : World) : (Op.eqFields d xs ys []).run P w = .ok true w := rfl
theorem z3z {P : Program} {d : Nat} {xs ys : Array Value} {f : Field} {fs : List Field} {t : TypeId} {o : Nat} {w : World} {va vb : Value} {r k : Bool} (ht : f.type = t) (ho : f.offset = o) (hn : (f.name == "_") = false) (h1 : (part t xs o).run P w = .ok va w) (h2 : (part t ys o).run P w = .ok vb w)
 (h3 : (Op.equalIn d t va vb).run P w = .ok r w) (h4 : (Op.eqFields d xs ys fs).run P w = .ok k w) : (Op.eqFields d xs ys (f :: fs)).run P w = .ok (r && k) w := by
 subst ht; subst ho
 have hn' : f.name ≠ "_" := by simpa using hn
 simp only [Op.eqFields, if_pos hn', Sem.run_bind, h1, h2, h3, Result.andThen_ok]
 cases r with
 | false => rfl
 | true => simpa using h4
theorem ztf {P : Program} {t : TypeId} {xs : Array Value} {o : Nat} {v : Value} {w : World} (hn : (isAgg t).run P w = .ok false w) (h : xs[o]? = some v) : (part t xs o).run P w = .ok v w := by
 simp only [part, Sem.run_bind, hn, Result.andThen_ok, Bool.false_eq_true, if_false, h, Sem.run_pure]
theorem zjd (e : Bd) : zg6 (.agg (Enc.cells e)) = some (.agg #[.int .i64 e.lo, .int .i64 e.mo]) := rfl
theorem eqFldB : (Try.prog.fieldsOf 62).toList.map (fun f => (f.type, f.offset, f.name == "_")) = [(3, 0, false), (3, 1, false)] := by kernel_rfl
theorem eqInB (d : Nat) (a b : Bd) (w : World) : (Op.equalIn (d + 1 + 1) 62 (.agg #[.int .i64 a.lo, .int .i64 a.mo]) (.agg #[.int .i64 b.lo, .int .i64 b.mo])).run Try.prog w = .ok (decide (a = b)) w := by
 rw [run_equalIn_struct w (d + 1) 62 _ _ (by kernel_rfl) (by kernel_rfl)]
 have hf := eqFldB
 generalize (Try.prog.fieldsOf 62).toList = fs at hf
 obtain ⟨f0, fs, rfl⟩ : ∃ f r, fs = f :: r := by cases fs with | nil => simp at hf | cons f r => exact ⟨f, r, rfl⟩
 obtain ⟨f1, fs, rfl⟩ : ∃ f r, fs = f :: r := by cases fs with | nil => simp at hf | cons f r => exact ⟨f, r, rfl⟩
 simp only [List.map_cons, List.cons.injEq, Prod.mk.injEq, List.map_eq_nil_iff] at hf
 obtain ⟨⟨t0, o0, n0⟩, ⟨t1, o1, n1⟩, rfl⟩ := hf
 rw [z3z t0 o0 n0 (ztf (z6a w) rfl) (ztf (z6a w) rfl) (run_equalIn_int w d 3 .i64 .i64 _ _ und3)
  (z3z t1 o1 n1 (ztf (z6a w) rfl) (ztf (z6a w) rfl) (run_equalIn_int w d 3 .i64 .i64 _ _ und3) (eq_nil w))]
 congr 1
 obtain ⟨a1, a2⟩ := a
 obtain ⟨b1, b2⟩ := b
 simp only [Bd.mk.injEq, Bool.and_true]
 by_cases h1 : a1 = b1 <;> by_cases h2 : a2 = b2 <;> simp [h1, h2]
theorem z8g : Try.prog.eqGuardType Try.prog.depth 62 = false := by kernel_rfl
theorem ze2 {ρ : Operand → AV} {o : Oper} {x y : Operand} {c} (s t : Bd) (ho : o.op = .binOp .eql 62 x y c) (hx : ρ x = .agg (Enc.cells s)) (hy : ρ y = .agg (Enc.cells t)) : ziw Try.prog ρ o (.raw (.bool (decide (s = t)))) := by
 refine ⟨?_, by rw [ho]; intros; simp, by rw [ho]; intros; simp, .bool (decide (s = t)), fun w => ?_, rfl, rfl⟩
 ·rw [ho]; simp [Op.operands, hx, hy, zjd]
 ·have h1 : zcs ρ x = .agg #[.int .i64 s.lo, .int .i64 s.mo] := by rw [zcs, hx, zjd, Option.getD_some]
  have h2 : zcs ρ y = .agg #[.int .i64 t.lo, .int .i64 t.mo] := by rw [zcs, hy, zjd, Option.getD_some]
  have h3 := eqInB 9998 s t w
  simp [execOp, ho, h1, h2, eqGuard, binOp, Op.equal, Op.maxDepth, program, Sem.run, z8g, h3, Sem.run_bind, Result.andThen]
theorem zyk {ρ : Operand → AV} {o : Oper} {x y : Operand} {c} (s t : Bd) (ho : o.op = .binOp .neq 62 x y c) (hx : ρ x = .agg (Enc.cells s)) (hy : ρ y = .agg (Enc.cells t)) : ziw Try.prog ρ o (.raw (.bool (decide (s ≠ t)))) := by
 refine ⟨?_, by rw [ho]; intros; simp, by rw [ho]; intros; simp, .bool (decide (s ≠ t)), fun w => ?_, rfl, rfl⟩
 ·rw [ho]; simp [Op.operands, hx, hy, zjd]
 ·have h1 : zcs ρ x = .agg #[.int .i64 s.lo, .int .i64 s.mo] := by rw [zcs, hx, zjd, Option.getD_some]
  have h2 : zcs ρ y = .agg #[.int .i64 t.lo, .int .i64 t.mo] := by rw [zcs, hy, zjd, Option.getD_some]
  have h3 := eqInB 9998 s t w
  simp [execOp, ho, h1, h2, eqGuard, binOp, Op.equal, Op.maxDepth, program, Sem.run, z8g, h3, Sem.run_bind, Result.andThen]
set_option maxRecDepth 100000 in
theorem q_loadW {ρ : Operand → AV} {σ : St} {o : Oper} {x : Operand} {b : Nat} {t : TypeId} {i : Int} (s : BS) (hi : 0 ≤ i ∧ i < 4) (ho : o.op = .load 26 x) (hx : ρ x = .ptr b (0 + i.toNat * 1)) (hb : σ.boxes[b]? = some (t, Enc.cells s)) : qop Try.prog ρ σ o = some (.raw (.int .u64 (wd s i.toNat))) := by
 have key : ∀ j : Nat, j < 4 → rd Try.prog 26 ((Enc.cells s).drop (0 + j * 1)) = some (.raw (.int .u64 (wd s j))) := by
  intro j hj
  match j, hj with
  | 0, _ => rfl
  | 1, _ => rfl
  | 2, _ => rfl
  | 3, _ => rfl
 simp only [qop, ho, z0s, hx, hb]
 exact key i.toNat (by omega)
end Go.Ab
set_option linter.unusedSimpArgs false
set_option linter.unusedVariables false
namespace Go.Ab
open Go Go.RowKit Go.Fwd
section
variable {IT : IterP} {P : Program} {W : Owed} {k0 : Nat}
theorem z64 {id : Nat} {ops : Array Oper} {y : Code} {Q : AQ} {S : List AV} {σ : St} (S1 : List AV) (σ1 : St) (h : zpe IT P W ops (fun S σ => Wk k0 S σ S1 σ1) ops.size (Array.replicate ops.size false) S σ) (hrest : awp IT P W k0 y Q S1 σ1) : awp IT P W k0 (.seq (.region id ops true) y) Q S σ :=
 .inr (.inr (.inl (zhq (fun S σ hw => ⟨S1, σ1, hw, hrest⟩) _ _ _ _ h)))
theorem z0g {ops0 : Array Oper} {FIN0 : List AV → St → Prop} {k : Nat} {l : Array Bool} {S : List AV} {σ : St} (h : ∀ ops, ops = ops0 → ∀ FIN : List AV → St → Prop, (∀ S σ, FIN0 S σ → FIN S σ) → ∀ S0, S0 = S → zpe IT P W ops FIN k l S0 σ) : zpe IT P W ops0 FIN0 k l S σ := h ops0 rfl FIN0 (fun _ _ h => h) S rfl
theorem aopAt_s {ops ops0 : Array Oper} {K : List AV → St → Prop} {i : Nat} {o : Oper} {S : List AV} {σ : St} (hops : ops = ops0) (ho : ops0[i]? = some o) (h : zb6 IT P W ops K [o] S σ) : zr8 IT P W ops K i S σ := by
 subst hops
 unfold zr8
 rw [ho]
 simp only [zb6] at h
 exact h
theorem aany_n {ops ops0 : Array Oper} {FIN : List AV → St → Prop} {k : Nat} {bs : List Bool} {S : List AV} {σ : St} (hops : ops = ops0) (is : List Nat) (hr : Region.ready .any ops0 ⟨bs⟩ = is) (hne : is ≠ []) (h : ∀ i ∈ is, zr8 IT P W ops (fun S σ => zpe IT P W ops FIN k ⟨bs.set i true⟩ S σ) i S σ) : zpe IT P W ops FIN (k + 1) ⟨bs⟩ S σ := by
 subst hops
 refine ⟨fun e => absurd (hr.symm.trans e) hne, fun i hi => ?_⟩
 have h1 := h i (hr ▸ hi)
 have e : (⟨bs⟩ : Array Bool).setIfInBounds i true = ⟨bs.set i true⟩ := by
  apply Array.ext'
  simp
 rw [e]; exact h1
theorem aany_0 {ops ops0 : Array Oper} {FIN : List AV → St → Prop} {bs : List Bool} {S : List AV} {σ : St} (hops : ops = ops0) (hr : Region.ready .any ops0 ⟨bs⟩ = []) (h : FIN S σ) : zpe IT P W ops FIN 0 ⟨bs⟩ S σ := by
 subst hops
 exact ⟨hr, h⟩
theorem zwc {p : Nat → Prop} : ∀ i ∈ ([] : List Nat), p i := fun i h => by cases h
theorem all_cons {p : Nat → Prop} {a : Nat} {l : List Nat} (h : p a) (t : ∀ i ∈ l, p i) : ∀ i ∈ a :: l, p i := fun i hi => by
 rcases List.mem_cons.1 hi with rfl | hi
 ·exact h
 ·exact t i hi
end
section
variable {P : Program} {ρ : Operand → AV} {σ : St} {o : Oper} {α : Type} [Enc α]
theorem Enc.atK {l : List α} {i : Int} (g : 0 ≤ i ∧ i < l.length) (k : Nat) : (Enc.cellsL l).drop (0 + i.toNat * Enc.sz α + k) = (Enc.cells (ix l i) ++ Enc.cellsL (l.drop (i.toNat + 1))).drop k := by
 rw [Nat.zero_add, ← List.drop_drop, Enc.at g]
theorem zd9 {t e : TypeId} {x i : Operand} {s n : Nat} {f : Bool} {k : IntKind} {j : Int} (g : 0 ≤ j ∧ j < n) (ho : o.op = .indexAddr t x i) (hx : ρ x = .bsl s 0 n (Enc.sz α) f) (hi : ρ i = .raw (.int k j)) (hu : P.underlying t = some (.slice e)) (hs : zec P e = some (Enc.sz α)) :
 qop P ρ σ o = some (.ptr s (0 + j.toNat * Enc.sz α)) := zyr ho hx hi hu hs g
theorem zc6 {l : List α} {i : Int} {k s : Nat} {te t : TypeId} {x : Operand} {a : AV} (g : 0 ≤ i ∧ i < l.length) (ho : o.op = .load t x) (hx : ρ x = .ptr s (0 + i.toNat * Enc.sz α + k)) (hb : σ.boxes[s]? = some (te, Enc.cellsL l)) (hr : rd P t ((Enc.cells (ix l i) ++ Enc.cellsL (l.drop (i.toNat + 1))).drop k) = some a) :
 qop P ρ σ o = some a := by
 rw [← Enc.atK g] at hr
 simp only [qop, ho, hx, z0s, hb, hr]
theorem Enc.putK {l : List α} {i : Int} {x : α} {k n : Nat} {cs : List AV} (g : 0 ≤ i ∧ i < l.length) (hl : cs.length = n) (hk : k + n ≤ Enc.sz α) (hx : Enc.cells x = (Enc.cells (ix l i)).take k ++ cs ++ (Enc.cells (ix l i)).drop (k + n)) :
 (Enc.cellsL l).take (0 + i.toNat * Enc.sz α + k) ++ cs ++ (Enc.cellsL l).drop (0 + i.toNat * Enc.sz α + k + n) = Enc.cellsL (l.set i.toNat x) := by
 have hi : i.toNat < l.length := by omega
 have hset : l.set i.toNat x = l.take i.toNat ++ [x] ++ l.drop (i.toNat + 1) := by
  rw [List.set_eq_take_append_cons_drop, if_pos hi]; simp
 have hlen := Enc.len (ix l i)
 have e1 : (Enc.cellsL l).drop (i.toNat * Enc.sz α) = Enc.cells (ix l i) ++ Enc.cellsL (l.drop (i.toNat + 1)) := Enc.at g
 have e2 : (Enc.cellsL l).take (0 + i.toNat * Enc.sz α + k) = Enc.cellsL (l.take i.toNat) ++ (Enc.cells (ix l i)).take k := by
  rw [Nat.zero_add, List.take_add, Enc.take, e1, List.take_append_of_le_length (by omega)]
 have e3 : (Enc.cellsL l).drop (0 + i.toNat * Enc.sz α + k + n) = (Enc.cells (ix l i)).drop (k + n) ++ Enc.cellsL (l.drop (i.toNat + 1)) := by
  rw [Nat.zero_add, Nat.add_assoc, ← List.drop_drop, e1, List.drop_append_of_le_length (by omega)]
 rw [e2, e3, hset, Enc.app, Enc.app, Enc.cons, Enc.nil, hx]
 simp
theorem zis {l : List α} {i : Int} {k s n : Nat} {te t : TypeId} {x y : Operand} {v : AV} (x' : α) (g : 0 ≤ i ∧ i < l.length) (ho : o.op = .store t x y) (hx : ρ x = .ptr s (0 + i.toNat * Enc.sz α + k)) (hy : ρ y = v) (hb : σ.boxes[s]? = some (te, Enc.cellsL l)) (hn : zec P t = some n) (hc : zhk v = true) (hl : (cellsOf v).length = n) (h0 : 0 < n) (hk : k + n ≤ Enc.sz α)
 (hx' : Enc.cells x' = (Enc.cells (ix l i)).take k ++ cellsOf v ++ (Enc.cells (ix l i)).drop (k + n)) : aop P ρ σ o = some (.raw undef, { σ with boxes := σ.boxes.set s (te, Enc.cellsL (l.set i.toNat x')) }) := by
 have hfit : 0 + i.toNat * Enc.sz α + k + n ≤ (Enc.cellsL l).length := by
  rw [Enc.lenL]
  have h1 : i.toNat + 1 ≤ l.length := by omega
  have h2 := Nat.mul_le_mul_right (Enc.sz α) h1
  rw [Nat.succ_mul] at h2
  omega
 rw [zn3 (n := n) ho hx hy hb hn ⟨hc, hl, hfit, h0⟩, Enc.putK g hl hk hx']
theorem zoo {c : Call} {x y : Operand} {t e : TypeId} {i : TypeInfo} {z : Value} {s n by' : Nat} {l r : List α} {st : Room} (hn : l.length = n ∧ 0 < n ∧ 0 < r.length ∧ (n + r.length) * by' ≤ 140737488355328) (ho : o.op = .call c) (hc : c.callee = .builtin .append) (ha : c.args.toList = [x, y]) (ht : c.argTypes.toList = [t, t])
 (hx : ρ x = .bsl s 0 n (Enc.sz α) false) (hy : ρ y = .list r.length (Enc.cellsL r) st) (hb : σ.boxes[s]? = some (e, Enc.cellsL l)) (hu : P.underlying t = some (.slice e)) (hi : P.info? e = some i) (hz : i.zero = some z) (hsz : i.size = Enc.sz α) (hzs : z.cells.size = Enc.sz α) (hby : i.bytes = by' ∧ 0 < by') :
 zp0 P ρ σ o = some (.bsl σ.boxes.length 0 (n + r.length) (Enc.sz α) false, { σ with boxes := σ.boxes.set s (e, []) ++ [(e, Enc.cellsL (l ++ r))] }) := by
 obtain ⟨h1, h2, h3, h4⟩ := hn
 have hp := Enc.pos (α := α)
 have hsrc : z07 P σ i.size t t (ρ y) = some (r.length, Enc.cellsL r) := by rw [hy]; exact zhu ⟨rfl, by rw [Enc.lenL, hsz], by omega⟩
 have hmax : n + r.length ≤ maxLen := by
  have h5 : n + r.length ≤ (n + r.length) * by' := Nat.le_mul_of_pos_right _ hby.2
  have h6 : 140737488355328 ≤ maxLen := by decide
  omega
 have hcond : Enc.sz α = i.size ∧ n + r.length ≤ maxLen ∧ (n + r.length) * i.bytes ≤ 140737488355328 ∧ 0 + n * Enc.sz α ≤ (Enc.cellsL l).length := ⟨hsz.symm, hmax, by rw [hby.1]; exact h4, by rw [Enc.lenL, h1]; omega⟩
 have hcond2 : (0 : Nat) = 0 ∧ n * Enc.sz α = (Enc.cellsL l).length ∧ e = e ∧ 0 < n := ⟨rfl, by rw [Enc.lenL, h1], rfl, h2⟩
 have hcond0 : 0 < i.size ∧ z.cells.size = i.size ∧ 0 < r.length := ⟨by omega, by omega, h3⟩
 have key : zl0 P σ t t (ρ x) (ρ y) = some (.bsl σ.boxes.length 0 (n + r.length) (Enc.sz α) false, { σ with boxes := σ.boxes.set s (e, []) ++ [(e, Enc.cellsL (l ++ r))] }) := by
  rw [zl0]
  simp only [hu, hi, hz, hsrc, if_pos hcond0, hx, hb, if_pos hcond, Bool.false_eq_true, if_false, Enc.app]
  rw [if_pos ⟨trivial, hcond2.2.1, trivial, h2⟩]
 have hnn : zlo (ρ x) = false := by rw [hx]; rfl
 simp only [zp0, ho, hc, ha, ht, key, hnn, Bool.false_eq_true, if_false]
end
section
variable {m : Nat} {g : FZ}
theorem zdk : fgM [] (zci m g []) = [] := by rw [zci]; rfl
theorem zd {a b : AV} {S S' : List AV} {ms : List Bool} (h : znh m g a = b) (r : fgM ms (zci m g S) = S') : fgM (true :: ms) (zci m g (a :: S)) = b :: S' := by
 rw [zci]; show (bif true then znh m g a else .top) :: _ = _; rw [r, h]; rfl
theorem za {a : AV} {S S' : List AV} {ms : List Bool} (r : fgM ms (zci m g S) = S') : fgM (false :: ms) (zci m g (a :: S)) = .top :: S' := by
 rw [zci]; show (bif false then znh m g a else .top) :: _ = _; rw [r]; rfl
theorem zqr : zci m g [] = [] := by rw [zci]
theorem zbh {a b : AV} {l l' : List AV} (h : znh m g a = b) (r : zci m g l = l') : zci m g (a :: l) = b :: l' := by rw [zci, h, r]
theorem znb : za8 g [] = [] := by rw [za8]
theorem zf5 {a b : AV} {l l' : List AV} (h : zdu g a = b) (r : za8 g l = l') : za8 g (a :: l) = b :: l' := by rw [za8, h, r]
theorem zwf {a : AV} (h : clo a = true) : zdu g a = a := by
 have := zce g [a] (by rw [cloL, h]; rfl)
 rw [za8] at this
 exact (List.cons.inj this).1
theorem kz_bsl {α : Type} [Enc α] {bs : List (TypeId × List AV)} {js : List Nat} {d s n : Nat} {f : Bool} {t : TypeId} {l : List α} (hn : l.length = n) (hb : bs[s]? = some (t, Enc.cellsL l)) (hp : ze8 0 [] js s = none) : znh m (kz bs m 0 [] js (d + 1)) (.bsl s 0 n (Enc.sz α) f) = .list l.length (Enc.cellsL l) .none := by
 subst hn
 rw [znh]
 simp only [kz, hp, hb, Option.map_some, Option.getD_some, List.drop_zero, zak _ _ _ (Enc.cloL l)]
 rw [List.take_of_length_le (by rw [Enc.lenL]; exact Nat.le_refl _)]
theorem zsl {α : Type} [Enc α] {bs : List (TypeId × List AV)} {d s n : Nat} {f : Bool} {t : TypeId} {l : List α} (hn : l.length = n) (hb : bs[s]? = some (t, Enc.cellsL l)) : zdu (frz bs (d + 1)) (.bsl s 0 n (Enc.sz α) f) = .list l.length (Enc.cellsL l) .none := by
 subst hn
 rw [zdu]
 simp only [frz, hb, Option.map_some, Option.getD_some, List.drop_zero, zce _ _ (Enc.cloL l)]
 rw [List.take_of_length_le (by rw [Enc.lenL]; exact Nat.le_refl _)]
theorem zca {bs : List (TypeId × List AV)} {n d : Nat} {fs js0 : List Nat} : (([] : List Nat).map fun j => ((bs[j]?).map fun b => (b.1, zci m (kz bs m n fs js0 d) b.2)).getD (0, [.bad])) = [] := rfl
theorem z8 {bs : List (TypeId × List AV)} {n d j : Nat} {fs js js0 : List Nat} {t : TypeId} {cs cs' : List AV} {r : List (TypeId × List AV)} (hb : bs[j]? = some (t, cs)) (hc : zci m (kz bs m n fs js0 d) cs = cs') (hr : (js.map fun j => ((bs[j]?).map fun b => (b.1, zci m (kz bs m n fs js0 d) b.2)).getD (0, [.bad])) = r) :
 ((j :: js).map fun j => ((bs[j]?).map fun b => (b.1, zci m (kz bs m n fs js0 d) b.2)).getD (0, [.bad])) = (t, cs') :: r := by
 rw [List.map_cons, hr, hb]
 simp only [Option.map_some, Option.getD_some, hc]
theorem zdh {σ σ' : St} {d : Nat} {js : List Nat} {bs' : List (TypeId × List AV)} (h : (js.map fun j => ((σ.boxes[j]?).map fun b => (b.1, zci m (kz σ.boxes m 0 [] js d) b.2)).getD (0, [.bad])) = bs') (h2 : { σ with boxes := bs', lens := σ.lens.take m, elems := σ.elems.take m } = σ') : zkd σ m 0 [] js d = σ' := by
 subst h2
 unfold zkd zdd
 rw [h]
 rfl
end
end Go.Ab
set_option linter.unusedSimpArgs false
set_option linter.unusedVariables false
namespace Go.Ab
open Go Go.RowKit Go.Fwd
section
variable {P : Program} {ρ : Operand → AV} {σ : St} {o : Oper} {α : Type} [Enc α]
theorem z3l {t e : TypeId} {x i : Operand} {s n : Nat} {f : Bool} {k : IntKind} {j : Int} (g : 0 ≤ j ∧ j < n) (ho : o.op = .slice t x (some i) none none) (hx : ρ x = .bsl s 0 n (Enc.sz α) f) (hi : ρ i = .raw (.int k j)) (hu : P.underlying t = some (.slice e)) (hs : zec P e = some (Enc.sz α)) :
 qop P ρ σ o = some (.bsl s (j.toNat * Enc.sz α) (n - j.toNat) (Enc.sz α) f) := by
 have h4 : zdx n (some (.raw (.int k j))) none none = some (j.toNat, n, false) := by
  have c : 0 ≤ j ∧ j ≤ (n : Int) := by omega
  simp only [zdx, zgj, if_pos c]
 have hlt : j.toNat < n := by omega
 simp only [qop, ho, hx, hi, Option.map_some, Option.map_none, zig, hu, hs, h4, if_true, if_pos hlt, Nat.zero_add]
 simp
theorem q_bslH {t e : TypeId} {x i : Operand} {s n : Nat} {f : Bool} {k : IntKind} {j : Int} (g : 0 < j ∧ j ≤ n) (ho : o.op = .slice t x none (some i) none) (hx : ρ x = .bsl s 0 n (Enc.sz α) f) (hi : ρ i = .raw (.int k j)) (hu : P.underlying t = some (.slice e)) (hs : zec P e = some (Enc.sz α)) :
 qop P ρ σ o = some (.bsl s 0 j.toNat (Enc.sz α) (f && (j.toNat == n))) := by
 have h4 : zdx n none (some (.raw (.int k j))) none = some (0, j.toNat, false) := by
  have c : 0 ≤ j ∧ j ≤ (n : Int) := by omega
  simp only [zdx, zgj, if_pos c]
 have hlt : 0 < j.toNat := by omega
 simp only [qop, ho, hx, hi, Option.map_some, Option.map_none, zig, hu, hs, h4, if_true, if_pos hlt, Nat.zero_add, Nat.zero_mul, Nat.sub_zero]
 simp
theorem z4e {t e : TypeId} {x y : Operand} {i : TypeInfo} {z : Value} {k k' : IntKind} {j : Int} {by' : Nat} (zero : α) (g : 0 ≤ j ∧ (by' : Int) * j ≤ 281474976710656) (ho : o.op = .makeSlice t x y) (hx : ρ x = .raw (.int k j)) (hy : ρ y = .raw (.int k' j)) (hu : P.underlying t = some (.slice e)) (hi : P.info? e = some i) (hz : i.zero = some z)
 (hsz : i.size = Enc.sz α) (h1 : (decide (1 < i.size) && z.cells.toList.all (·.oneCell') && decide (z.cells.size = i.size)) = true) (hzero : z.cells.toList.map zpa = Enc.cells zero) (hby : i.bytes = by' ∧ 0 < by') :
 zp0 P ρ σ o = some (.bsl σ.boxes.length 0 j.toNat (Enc.sz α) true, { σ with boxes := σ.boxes ++ [(e, Enc.cellsL (List.replicate j.toNat zero))] }) := by
 simp only [Bool.and_eq_true, decide_eq_true_eq] at h1
 obtain ⟨⟨h1, h2⟩, h3⟩ := h1
 obtain ⟨rfl, hp⟩ := hby
 have hj : j ≤ 9223372036854775807 := by
  have h5 : j ≤ (i.bytes : Int) * j := by
   have h6 : (1 : Int) * j ≤ (i.bytes : Int) * j := Int.mul_le_mul_of_nonneg_right (by omega) g.1
   omega
  omega
 have hflat : ∀ n : Nat, ((List.replicate n z.cells.toList).flatten).map zpa = Enc.cellsL (List.replicate n zero) := by
  intro n
  induction n with
  | zero => simp [Enc.nil]
  | succ n ih => rw [List.replicate_succ, List.flatten_cons, List.map_append, ih, hzero, List.replicate_succ, Enc.cons]
 simp only [zp0, ho, z1c, zut, hx, hy, hu, hi, hz]
 rw [if_neg (fun h => by omega)]
 simp only
 rw [if_pos ⟨trivial, g.1, hj, g.2, h2, h3⟩, hflat, hsz]
end
end Go.Ab
