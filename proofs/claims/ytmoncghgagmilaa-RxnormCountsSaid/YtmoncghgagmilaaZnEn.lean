/-
  Bounds of a Repeat as a typed value; their equality.
-/
import Derived.Test.YtmoncghgagmilaaRows
import Derived.Test.YtmoncghgagmilaaZnP
import Derived.Test.YtmoncghgagmilaaZdSh
set_option linter.unusedSimpArgs false
set_option linter.unusedVariables false
namespace Go.Ab
open Go Go.RowKit Go.Fwd Go.Proofs
theorem mix : Try.prog.follows .mixedOrders = true := by kernel_rfl
theorem ents (f : Nat) (fn : Func) (hf : Try.prog.funcs[f]? = some fn) (hb : fn.body.isSome = true) : Ent Try.prog f := by
 obtain ⟨c, hc⟩ := Option.isSome_iff_exists.1 hb
 have hall : (Try.prog.funcs.toList.all fun fn => !(fn.name == "runtime.NumGoroutine")) = true := by kernel_rfl
 have := List.all_eq_true.1 hall fn (Array.mem_toList_iff.2 (Array.mem_of_getElem? hf))
 exact enters_of hf (by simpa using this) hc
def noP : CallP := fun _ _ => none
def noS : CallS := fun _ _ _ => none
theorem z4g : Good Try.prog noP noS := ⟨mix, ents, (fun _ _ _ h => nomatch h), (fun _ _ _ _ _ h => nomatch h)⟩
theorem undS : Try.prog.underlying 28 = some (.array 4 26) := by kernel_rfl
theorem undW : Try.prog.underlying 26 = some (.int .u64) := by kernel_rfl
theorem sizeW (w : World) : (sizeOf 26).run Try.prog w = .ok 1 w := by kernel_rfl
theorem aggW (w : World) : (isAgg 26).run Try.prog w = .ok false w := by kernel_rfl
theorem eqInS' (d : Nat) (a0 a1 a2 a3 b0 b1 b2 b3 : Int) (w : World) : (Op.equalIn (d + 1 + 1) 28 (.agg #[.int .u64 a0, .int .u64 a1, .int .u64 a2, .int .u64 a3]) (.agg #[.int .u64 b0, .int .u64 b1, .int .u64 b2, .int .u64 b3])).run Try.prog w =
 .ok (a0 == b0 && a1 == b1 && a2 == b2 && a3 == b3) w := by
 rw [Op.equalIn]
 simp only [Sem.run_bind, run_underlying undS, Result.andThen_ok, sizeW]
 have hq : ∀ (a b : Int) (w : World), (Op.equalIn (d + 1) 26 (.int .u64 a) (.int .u64 b)).run Try.prog w = .ok (a == b) w := fun a b w => run_equalIn_int w d 26 .u64 .u64 a b undW
 have hr : List.range' 0 4 = [0, 1, 2, 3] := rfl
 simp [part, hr, aggW, Sem.run_bind, hq, Result.andThen]
 by_cases h0 : a0 = b0 <;> by_cases h1 : a1 = b1 <;> by_cases h2 : a2 = b2 <;> by_cases h3 : a3 = b3 <;> simp [h0, h1, h2, h3, hq, Result.andThen]
theorem eqInS (a0 a1 a2 a3 b0 b1 b2 b3 : Int) (w : World) : (Op.equalIn 10000 28 (.agg #[.int .u64 a0, .int .u64 a1, .int .u64 a2, .int .u64 a3]) (.agg #[.int .u64 b0, .int .u64 b1, .int .u64 b2, .int .u64 b3])).run Try.prog w =
 .ok (a0 == b0 && a1 == b1 && a2 == b2 && a3 == b3) w := eqInS' 9998 _ _ _ _ _ _ _ _ w
theorem z7j : Try.prog.eqGuardType Try.prog.depth 28 = false := by kernel_rfl
theorem z1i {ρ : Operand → AV} {o : Oper} {x y : Operand} {c} (s t : BS) (ho : o.op = .binOp .eql 28 x y c) (hx : ρ x = z49 s) (hy : ρ y = z49 t) : zi2 Try.prog ρ o (.raw (.bool (decide (s = t)))) := by
 refine ⟨?_, by rw [ho]; intros; simp, by rw [ho]; intros; simp, .bool (decide (s = t)), fun w => ?_, rfl, rfl⟩
 ·rw [ho]; simp [Op.operands, hx, hy, z49, zhj, zd7, zid]
 ·have h1 : zcv ρ x = .agg #[.int .u64 (wd s 0), .int .u64 (wd s 1), .int .u64 (wd s 2), .int .u64 (wd s 3)] := by simp [zcv, hx, z49, zhj, zd7, zid]
  have h2 : zcv ρ y = .agg #[.int .u64 (wd t 0), .int .u64 (wd t 1), .int .u64 (wd t 2), .int .u64 (wd t 3)] := by simp [zcv, hy, z49, zhj, zd7, zid]
  have h3 := eqInS (wd s 0) (wd s 1) (wd s 2) (wd s 3) (wd t 0) (wd t 1) (wd t 2) (wd t 3) w
  rw [z7t] at h3
  simp [execOp, ho, h1, h2, eqGuard, binOp, Op.equal, Op.maxDepth, program, Sem.run, z7j, h3]
theorem zz6 {ρ : Operand → AV} {o : Oper} {x y : Operand} {c} (s t : BS) (ho : o.op = .binOp .neq 28 x y c) (hx : ρ x = z49 s) (hy : ρ y = z49 t) : zi2 Try.prog ρ o (.raw (.bool (decide (s ≠ t)))) := by
 refine ⟨?_, by rw [ho]; intros; simp, by rw [ho]; intros; simp, .bool (decide (s ≠ t)), fun w => ?_, rfl, rfl⟩
 ·rw [ho]; simp [Op.operands, hx, hy, z49, zhj, zd7, zid]
 ·have h1 : zcv ρ x = .agg #[.int .u64 (wd s 0), .int .u64 (wd s 1), .int .u64 (wd s 2), .int .u64 (wd s 3)] := by simp [zcv, hx, z49, zhj, zd7, zid]
  have h2 : zcv ρ y = .agg #[.int .u64 (wd t 0), .int .u64 (wd t 1), .int .u64 (wd t 2), .int .u64 (wd t 3)] := by simp [zcv, hy, z49, zhj, zd7, zid]
  have h3 := eqInS (wd s 0) (wd s 1) (wd s 2) (wd s 3) (wd t 0) (wd t 1) (wd t 2) (wd t 3) w
  rw [z7t] at h3
  simp [execOp, ho, h1, h2, eqGuard, binOp, Op.equal, Op.maxDepth, program, Sem.run, z7j, h3]
theorem zzd {ρ : Operand → AV} {o : Oper} {x y : Operand} {c} (s t : BS) (ho : o.op = .binOp .eql 28 x y c) (hx : ρ x = .agg (Enc.cells s)) (hy : ρ y = .agg (Enc.cells t)) : zi2 Try.prog ρ o (.raw (.bool (decide (s = t)))) := z1i s t ho hx hy
theorem zug {ρ : Operand → AV} {o : Oper} {x y : Operand} {c} (s t : BS) (ho : o.op = .binOp .neq 28 x y c) (hx : ρ x = .agg (Enc.cells s)) (hy : ρ y = .agg (Enc.cells t)) : zi2 Try.prog ρ o (.raw (.bool (decide (s ≠ t)))) := zz6 s t ho hx hy
theorem or_run (a b : BS) : Pure (ITP Try.prog) Try.prog 59 [.agg (Enc.cells a), .agg (Enc.cells b)] (.agg [.raw (.int .u64 (orI .u64 (wd a 0) (wd b 0))), .raw (.int .u64 (orI .u64 (wd a 1) (wd b 1))), .raw (.int .u64 (orI .u64 (wd a 2) (wd b 2))), .raw (.int .u64 (orI .u64 (wd a 3) (wd b 3)))]) := zd5 z4g 100 (by kernel_rfl)
theorem z7h (a b : BS) : Pure (ITP Try.prog) Try.prog 96 [.agg (Enc.cells a), .agg (Enc.cells b)] (.agg [.raw (.int .u64 (zmm .u64 (wd a 0) (wd b 0))), .raw (.int .u64 (zmm .u64 (wd a 1) (wd b 1))), .raw (.int .u64 (zmm .u64 (wd a 2) (wd b 2))), .raw (.int .u64 (zmm .u64 (wd a 3) (wd b 3)))]) := zd5 z4g 100 (by kernel_rfl)
theorem k_or2 (a b : BS) : Pure (ITP Try.prog) Try.prog 59 [.agg (Enc.cells a), .agg (Enc.cells b)] (.agg (Enc.cells (a ||| b))) := by
 have := or_run a b
 simp only [wd_or] at this; exact this
theorem z8a (a b : BS) : Pure (ITP Try.prog) Try.prog 96 [.agg (Enc.cells a), .agg (Enc.cells b)] (.agg (Enc.cells (a &&& ~~~ b))) := by
 have := z7h a b
 rw [zta _ _ 0 (by decide), zta _ _ 1 (by decide), zta _ _ 2 (by decide), zta _ _ 3 (by decide)] at this; exact this
end Go.Ab
set_option linter.unusedSimpArgs false
set_option linter.unusedVariables false
namespace Go.Ab
open Go Go.RowKit Go.Fwd
def zeroV (P : Program) (t : TypeId) : Value := (zhf P t).getD undef
section
variable {IT : IterP} {P : Program} {W : Owed} {k0 : Nat}
theorem w_drawD {id : Nat} {ops : Array Oper} {Q : AQ} {S : List AV} {σ : St} (n : Nat) (pl : List Pe) (h1 : Go.Fwd.chk ops S.length n = true) (h2 : zj6 ops.toList = true) (h3 : plOk pl n = true)
 (h : zel IT P ops σ pl (fun S' => zco IT P W ops (Q .normal) (ops.toList.drop n) (zjw σ.boxes.length pl S') (zjb σ pl)) 0 (ops.toList.take n) S) : awp IT P W k0 (.region id ops true) Q S σ := .inr (.inr (.inr ⟨n, pl, h1, h2, h3, h⟩))
variable {ops : Array Oper} {σ : St} {pl : List Pe} {K : List AV → Prop} {o : Oper} {l : List Oper} {S S' : List AV} {k : Nat}
theorem hD_new (p : Pe) (hm : p ∈ pl) (hk : p.al = k) (hg : o.guard = none) (ho : o.op = .alloc p.t) (hdst : o.dst = some p.d) (hd : (o.dst.all fun d => decide (d < S.length)) = true) (hz : zhf P p.t = some p.z) (hS : S.set p.d .top = S') (h : zel IT P ops σ pl K (k + 1) l S') : zel IT P ops σ pl K k (o :: l) S :=
 ⟨hd, .inl ⟨p, hm, hk, hg, ho, hdst, hz, by rw [hS]; exact h⟩⟩
theorem z5f (p : Pe) (y : Operand) (hm : p ∈ pl) (hk : p.st = k) (hlt : p.al < k) (hg : o.guard = none) (ho : o.op = .store p.t (.tmp p.d) y) (hdst : o.dst = none) (hy : zcs S y = p.v) (hc : zho p.v = true) (hn : zec P p.t = some p.z.cells.size) (hl : (cellsOf p.v).length = p.z.cells.size)
 (ha : (o.after.toList.any fun e => Region.binds .any e && decide (e.on = p.al)) = true) (h : zel IT P ops σ pl K (k + 1) l S) : zel IT P ops σ pl K k (o :: l) S :=
 ⟨by rw [hdst]; rfl, .inr (.inl ⟨p, hm, hk, hlt, hg, hdst, ⟨y, ho, hy⟩, hc, hn, hl, ha, h⟩)⟩
theorem zj4 {a : AV} (hd : (o.dst.all fun d => decide (d < S.length)) = true) (hp : (pl.all fun p => decide (p.al ≠ k) && decide (p.st ≠ k) && (o.dst != some p.d)) = true) (hg : o.guard = none) (hc : zcz S o = none) (h : qop P (zcs S) σ o = some a) (hS : zp S o.dst a = S') (hk : zel IT P ops σ pl K (k + 1) l S') : zel IT P ops σ pl K k (o :: l) S := by
 refine ⟨hd, .inr (.inr ⟨hp, ?_⟩)⟩
 rw [hg]
 simp only [zgh, hc]
 exact ⟨a, .inl h, by rw [hS]; exact hk⟩
theorem hD_call {f : FuncId} {args args' : List AV} {r : AV} (hpu : Pure IT P f args' r) (hd : (o.dst.all fun d => decide (d < S.length)) = true) (hp : (pl.all fun p => decide (p.al ≠ k) && decide (p.st ≠ k) && (o.dst != some p.d)) = true) (hg : o.guard = none) (hc : zcz S o = some (f, args)) (hs : stripL args = args') (hok : z7 0 args = true) (hS : zp S o.dst r = S') (hk : zel IT P ops σ pl K (k + 1) l S') : zel IT P ops σ pl K k (o :: l) S := by
 refine ⟨hd, .inr (.inr ⟨hp, ?_⟩)⟩
 rw [hg]
 simp only [zgh, hc]
 exact ⟨r, hok, by rw [hs]; exact hpu, by rw [hS]; exact hk⟩
theorem ztt (a : AV) {K : List AV → Prop} (hd : (o.dst.all fun d => decide (d < S.length)) = true) (hg : o.guard = none) (hc : zcz S o = none) (h : zi2 P (zcs S) o a) (hS : zp S o.dst a = S') (k : ahead IT P ops σ K l S') : ahead IT P ops σ K (o :: l) S := by
 refine ⟨hd, ?_⟩
 rw [hg]
 simp only
 refine .inl ?_
 simp only [zgh, hc]
 exact ⟨a, .inr (.inl h), by rw [hS]; exact k⟩
theorem hD_end (h : K S) : zel IT P ops σ pl K k [] S := h
theorem z5o {Q : List AV → St → Prop} {l' : List Oper} {σ' : St} {n : Nat} (hn : σ.boxes.length = n) (hσ : zjb σ pl = σ') (hS : zjw n pl S = S') (h : zco IT P W ops Q l' S' σ') : zco IT P W ops Q l' (zjw σ.boxes.length pl S) (zjb σ pl) := by
 rw [hn, hσ, hS]; exact h
end
end Go.Ab
set_option linter.unusedSimpArgs false
set_option linter.unusedVariables false
namespace Go.Ab
open Go Go.RowKit Go.Fwd
def zmd (n : Nat) (i j : Int) (st : Room) : Room := if i.toNat = 0 ∧ j.toNat = n then st else if j.toNat = n ∧ st = .full then .full else .none
theorem zy9 {α : Type} (l : List α) {i j : Int} (g : 0 ≤ i ∧ i ≤ j ∧ j ≤ (l.length : Int)) : (sub l i j).length = j.toNat - i.toNat := by
 simp only [sub, List.length_take, List.length_drop]; omega
theorem zti {α : Type} [Enc α] (l : List α) {i j : Int} (g : 0 ≤ i ∧ i ≤ j ∧ j ≤ (l.length : Int)) : ((Enc.cellsL l).drop (i.toNat * Enc.sz α)).take ((j.toNat - i.toNat) * Enc.sz α) = Enc.cellsL (sub l i j) := by
 rw [Enc.drop, Enc.take]; rfl
section
variable {P : Program} {ρ : Operand → AV} {σ : St} {o : Oper}
theorem zkq {α : Type} [Enc α] (l : List α) (n : Nat) (st : Room) : zcm (.list n (Enc.cellsL l) st) = .list n (Enc.cellsL l) .none := by
 rw [zcm, Enc.stripL]
theorem z33 {α : Type} [Enc α] {l : List α} {x y : Operand} {t e : TypeId} {st : Room} {j : Int} (g : 0 ≤ 0 ∧ 0 ≤ j ∧ j ≤ (l.length : Int)) (ho : o.op = .slice t x none (some y) none) (hx : ρ x = .list l.length (Enc.cellsL l) st) (hy : ρ y = .raw (.int .i64 j)) (hu : P.underlying t = some (.slice e)) (hs : zec P e = some (Enc.sz α)) :
 qop P ρ σ o = some (.list (sub l 0 j).length (Enc.cellsL (sub l 0 j)) (zmd l.length 0 j st)) := by
 have hg : (0 : Int) ≤ 0 ∧ 0 ≤ j ∧ j ≤ (l.length : Int) := ⟨Int.le_refl 0, g.2⟩
 have h1 : zik P t (ρ x) none (some (ρ y)) none = some (.list (sub l 0 j).length (Enc.cellsL (sub l 0 j)) (zmd l.length 0 j st)) := by
  have hj := g.2
  rw [zy9 l hg, ← zti l hg, hx, hy]
  simp [zik, hu, hs, zd3, zg0, Enc.lenL, zmd, hj]
 simp only [qop, ho, Option.map, h1]
theorem zyf {x : Operand} {s t : TypeId} {k : IntKind} {n : Int} (g : -9223372036854775808 ≤ n ∧ n < 9223372036854775808) (ho : o.op = .convert s t x) (hx : ρ x = .raw (.int k n)) (hs : val? P (Next.value <$> convert s t (.int k n)) = some (.value (.int .i64 (IntKind.i64.wrap n)))) : qop P ρ σ o = some (.raw (.int .i64 n)) := by
 have h := zn4 g.1 g.2
 rw [h] at hs
 simp [qop, zhm, ho, Op.operands, hx, zhj, execOp, zcv, hs, zld]
 exact ⟨rfl, rfl⟩
end
section
variable {P : Program} {ρ : Operand → AV} {σ : St} {o : Oper}
theorem z1o {α : Type} [Enc α] {l : List α} {x y : Operand} {t e : TypeId} {st : Room} {i : Int} (g : 0 ≤ i ∧ i ≤ (l.length : Int) ∧ (l.length : Int) ≤ (l.length : Int)) (ho : o.op = .slice t x (some y) none none) (hx : ρ x = .list l.length (Enc.cellsL l) st) (hy : ρ y = .raw (.int .i64 i)) (hu : P.underlying t = some (.slice e)) (hs : zec P e = some (Enc.sz α)) :
 qop P ρ σ o = some (.list (sub l i l.length).length (Enc.cellsL (sub l i l.length)) (zmd l.length i l.length st)) := by
 have h1 : zik P t (ρ x) (some (ρ y)) none none = some (.list (sub l i l.length).length (Enc.cellsL (sub l i l.length)) (zmd l.length i l.length st)) := by
  have hj := g.1
  have hk := g.2.1
  rw [zy9 l g, ← zti l g, hx, hy]
  simp [zik, hu, hs, zd3, zg0, Enc.lenL, zmd, hj, hk]
 simp only [qop, ho, Option.map, h1]
end
end Go.Ab
set_option linter.unusedSimpArgs false
set_option linter.unusedVariables false
namespace Go.Ab
open Go Go.RowKit Go.Fwd Go.Proofs
structure Bd where
 lo : Int
 mo : Int
 deriving DecidableEq
def z4p (e : Bd) : List AV := [.raw (.int .i64 e.lo), .raw (.int .i64 e.mo)]
instance : Enc Bd where
 inh := ⟨0, 0⟩
 cells := z4p
 cellsL l := l.flatMap z4p
 sz := 2
 pos := by decide
 nil := rfl
 cons _ _ := rfl
 len _ := rfl
 clo _ := rfl
theorem und3 : Try.prog.underlying 3 = some (.int .i64) := by kernel_rfl
theorem z6t (w : World) : (isAgg 3).run Try.prog w = .ok false w := by kernel_rfl
theorem eq_nil {P : Program} {d : Nat} {xs ys : Array Value} (w : World) : (Op.eqFields d xs ys []).run P w = .ok true w := rfl
theorem z2j {P : Program} {d : Nat} {xs ys : Array Value} {f : Field} {fs : List Field} {t : TypeId} {o : Nat} {w : World} {va vb : Value} {r k : Bool} (ht : f.type = t) (ho : f.offset = o) (hn : (f.name == "_") = false) (h1 : (part t xs o).run P w = .ok va w) (h2 : (part t ys o).run P w = .ok vb w)
 (h3 : (Op.equalIn d t va vb).run P w = .ok r w) (h4 : (Op.eqFields d xs ys fs).run P w = .ok k w) : (Op.eqFields d xs ys (f :: fs)).run P w = .ok (r && k) w := by
 subst ht; subst ho
 have hn' : f.name ≠ "_" := by simpa using hn
 simp only [Op.eqFields, if_pos hn', Sem.run_bind, h1, h2, h3, Result.andThen_ok]
 cases r with
 | false => rfl
 | true => simpa using h4
theorem zs8 {P : Program} {t : TypeId} {xs : Array Value} {o : Nat} {v : Value} {w : World} (hn : (isAgg t).run P w = .ok false w) (h : xs[o]? = some v) : (part t xs o).run P w = .ok v w := by
 simp only [part, Sem.run_bind, hn, Result.andThen_ok, Bool.false_eq_true, if_false, h, Sem.run_pure]
theorem zjn (e : Bd) : zhj (.agg (Enc.cells e)) = some (.agg #[.int .i64 e.lo, .int .i64 e.mo]) := rfl
theorem eqFldB : (Try.prog.fieldsOf 62).toList.map (fun f => (f.type, f.offset, f.name == "_")) = [(3, 0, false), (3, 1, false)] := by kernel_rfl
theorem eqInB (d : Nat) (a b : Bd) (w : World) : (Op.equalIn (d + 1 + 1) 62 (.agg #[.int .i64 a.lo, .int .i64 a.mo]) (.agg #[.int .i64 b.lo, .int .i64 b.mo])).run Try.prog w = .ok (decide (a = b)) w := by
 rw [run_equalIn_struct w (d + 1) 62 _ _ (by kernel_rfl) (by kernel_rfl)]
 have hf := eqFldB
 generalize (Try.prog.fieldsOf 62).toList = fs at hf
 obtain ⟨f0, fs, rfl⟩ : ∃ f r, fs = f :: r := by cases fs with | nil => simp at hf | cons f r => exact ⟨f, r, rfl⟩
 obtain ⟨f1, fs, rfl⟩ : ∃ f r, fs = f :: r := by cases fs with | nil => simp at hf | cons f r => exact ⟨f, r, rfl⟩
 simp only [List.map_cons, List.cons.injEq, Prod.mk.injEq, List.map_eq_nil_iff] at hf
 obtain ⟨⟨t0, o0, n0⟩, ⟨t1, o1, n1⟩, rfl⟩ := hf
 rw [z2j t0 o0 n0 (zs8 (z6t w) rfl) (zs8 (z6t w) rfl) (run_equalIn_int w d 3 .i64 .i64 _ _ und3)
  (z2j t1 o1 n1 (zs8 (z6t w) rfl) (zs8 (z6t w) rfl) (run_equalIn_int w d 3 .i64 .i64 _ _ und3) (eq_nil w))]
 congr 1
 obtain ⟨a1, a2⟩ := a
 obtain ⟨b1, b2⟩ := b
 simp only [Bd.mk.injEq, Bool.and_true]
 by_cases h1 : a1 = b1 <;> by_cases h2 : a2 = b2 <;> simp [h1, h2]
theorem z7y : Try.prog.eqGuardType Try.prog.depth 62 = false := by kernel_rfl
theorem ze9 {ρ : Operand → AV} {o : Oper} {x y : Operand} {c} (s t : Bd) (ho : o.op = .binOp .eql 62 x y c) (hx : ρ x = .agg (Enc.cells s)) (hy : ρ y = .agg (Enc.cells t)) : zi2 Try.prog ρ o (.raw (.bool (decide (s = t)))) := by
 refine ⟨?_, by rw [ho]; intros; simp, by rw [ho]; intros; simp, .bool (decide (s = t)), fun w => ?_, rfl, rfl⟩
 ·rw [ho]; simp [Op.operands, hx, hy, zjn]
 ·have h1 : zcv ρ x = .agg #[.int .i64 s.lo, .int .i64 s.mo] := by rw [zcv, hx, zjn, Option.getD_some]
  have h2 : zcv ρ y = .agg #[.int .i64 t.lo, .int .i64 t.mo] := by rw [zcv, hy, zjn, Option.getD_some]
  have h3 := eqInB 9998 s t w
  simp [execOp, ho, h1, h2, eqGuard, binOp, Op.equal, Op.maxDepth, program, Sem.run, z7y, h3, Sem.run_bind, Result.andThen]
theorem zx4 {ρ : Operand → AV} {o : Oper} {x y : Operand} {c} (s t : Bd) (ho : o.op = .binOp .neq 62 x y c) (hx : ρ x = .agg (Enc.cells s)) (hy : ρ y = .agg (Enc.cells t)) : zi2 Try.prog ρ o (.raw (.bool (decide (s ≠ t)))) := by
 refine ⟨?_, by rw [ho]; intros; simp, by rw [ho]; intros; simp, .bool (decide (s ≠ t)), fun w => ?_, rfl, rfl⟩
 ·rw [ho]; simp [Op.operands, hx, hy, zjn]
 ·have h1 : zcv ρ x = .agg #[.int .i64 s.lo, .int .i64 s.mo] := by rw [zcv, hx, zjn, Option.getD_some]
  have h2 : zcv ρ y = .agg #[.int .i64 t.lo, .int .i64 t.mo] := by rw [zcv, hy, zjn, Option.getD_some]
  have h3 := eqInB 9998 s t w
  simp [execOp, ho, h1, h2, eqGuard, binOp, Op.equal, Op.maxDepth, program, Sem.run, z7y, h3, Sem.run_bind, Result.andThen]
set_option maxRecDepth 100000 in
theorem q_loadW {ρ : Operand → AV} {σ : St} {o : Oper} {x : Operand} {b : Nat} {t : TypeId} {i : Int} (s : BS) (hi : 0 ≤ i ∧ i < 4) (ho : o.op = .load 26 x) (hx : ρ x = .ptr b (0 + i.toNat * 1)) (hb : σ.boxes[b]? = some (t, Enc.cells s)) : qop Try.prog ρ σ o = some (.raw (.int .u64 (wd s i.toNat))) := by
 have key : ∀ j : Nat, j < 4 → rd Try.prog 26 ((Enc.cells s).drop (0 + j * 1)) = some (.raw (.int .u64 (wd s j))) := by
  intro j hj
  match j, hj with
  | 0, _ => rfl
  | 1, _ => rfl
  | 2, _ => rfl
  | 3, _ => rfl
 simp only [qop, ho, z0s, hx, hb]
 exact key i.toNat (by omega)
end Go.Ab
