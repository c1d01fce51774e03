/-
  Equality of the reference's entries and ends.
-/
import Derived.Test.YtcdmdnadilafhaaGreatDoorZyBld
set_option linter.unusedSimpArgs false
set_option linter.unusedVariables false
namespace Go.Ab
open Go Go.RowKit Go.Fwd Go.Proofs
structure En where
 k : Int
 fr : Int
 to : Int
 b : List UInt8
 deriving DecidableEq
structure Ed where
 k : Int
 c : Int
 deriving DecidableEq
structure Trc where
 l : List En
 e : Ed
 deriving DecidableEq
structure Sme where
 k : Int
 far : Int
 b : List UInt8
def zxw (e : En) : List AV := [.raw (.int .u8 e.k), .raw (.int .i64 e.fr), .raw (.int .i64 e.to), .raw (.string (bs e.b))]
instance : Enc En where
 inh := ⟨0, 0, 0, []⟩
 cells := zxw
 cellsL l := l.flatMap zxw
 sz := 4
 pos := by decide
 nil := rfl
 cons _ _ := rfl
 len _ := rfl
 clo _ := rfl
def zw8 (e : Ed) : List AV := [.raw (.int .u8 e.k), .raw (.int .i64 e.c)]
instance : Enc Ed where
 inh := ⟨0, 0⟩
 cells := zw8
 cellsL l := l.flatMap zw8
 sz := 2
 pos := by decide
 nil := rfl
 cons _ _ := rfl
 len _ := rfl
 clo _ := rfl
def zqd (t : Trc) : List AV := [.list t.l.length (Enc.cellsL t.l) .none, .raw (.int .u8 t.e.k), .raw (.int .i64 t.e.c)]
theorem zra (t : Trc) : cloL (zqd t) = true := by
 show (clo (.list _ (Enc.cellsL t.l) .none) && _) = true
 simp only [clo, Enc.cloL t.l, cloL]
 rfl
instance : Enc Trc where
 inh := ⟨[], 0, 0⟩
 cells := zqd
 cellsL l := l.flatMap zqd
 sz := 3
 pos := by decide
 nil := rfl
 cons _ _ := rfl
 len _ := rfl
 clo := zra
def zqi (t : Sme) : List AV := [.raw (.int .u8 t.k), .raw (.int .u8 t.far), .list t.b.length (Enc.cellsL t.b) .none]
theorem zsp (t : Sme) : cloL (zqi t) = true := by
 show (_ && (_ && (clo (.list _ (Enc.cellsL t.b) .none) && _))) = true
 simp only [clo, Enc.cloL t.b, cloL]
 rfl
instance : Enc Sme where
 inh := ⟨0, 0, []⟩
 cells := zqi
 cellsL l := l.flatMap zqi
 sz := 3
 pos := by decide
 nil := rfl
 cons _ _ := rfl
 len _ := rfl
 clo := zsp
theorem eqFld43 : (Tryz.prog.fieldsOf 41).toList.map (fun f => (f.type, f.offset, f.name == "_")) = [(5, 0, false), (3, 1, false), (3, 2, false), (9, 3, false)] := by kernel_rfl
theorem und5 : Tryz.prog.underlying 5 = some (.int .u8) := by kernel_rfl
theorem und3 : Tryz.prog.underlying 3 = some (.int .i64) := by kernel_rfl
theorem und9 : Tryz.prog.underlying 9 = some .string := by kernel_rfl
theorem zq7 (w : World) : (isAgg 5).run Tryz.prog w = .ok false w := by kernel_rfl
theorem zlm (w : World) : (isAgg 3).run Tryz.prog w = .ok false w := by kernel_rfl
theorem z0y (w : World) : (isAgg 9).run Tryz.prog w = .ok false w := by kernel_rfl
theorem zuw (a b : List UInt8) : ((bs a).toList == (bs b).toList) = decide (a = b) := by
 rw [ByteArray.toList_eq, ByteArray.toList_eq]
 show ((a.toArray.toList) == (b.toArray.toList)) = _
 by_cases h : a = b <;> simp [h]
theorem zuh {P : Program} {d : Nat} {xs ys : Array Value} (w : World) : (Op.eqFields d xs ys []).run P w = .ok true w := rfl
theorem zeo {P : Program} {d : Nat} {xs ys : Array Value} {f : Field} {fs : List Field} {t : TypeId} {o : Nat} {w : World} {va vb : Value} {r k : Bool} (ht : f.type = t) (ho : f.offset = o) (hn : (f.name == "_") = false) (h1 : (part t xs o).run P w = .ok va w) (h2 : (part t ys o).run P w = .ok vb w)
 (h3 : (Op.equalIn d t va vb).run P w = .ok r w) (h4 : (Op.eqFields d xs ys fs).run P w = .ok k w) : (Op.eqFields d xs ys (f :: fs)).run P w = .ok (r && k) w := by
 subst ht; subst ho
 have hn' : f.name ≠ "_" := by simpa using hn
 simp only [Op.eqFields, if_pos hn', Sem.run_bind, h1, h2, h3, Result.andThen_ok]
 cases r with
 | false => rfl
 | true => simpa using h4
theorem zb0 {P : Program} {t : TypeId} {xs : Array Value} {o : Nat} {v : Value} {w : World} (hn : (isAgg t).run P w = .ok false w) (h : xs[o]? = some v) : (part t xs o).run P w = .ok v w := by
 simp only [part, Sem.run_bind, hn, Result.andThen_ok, Bool.false_eq_true, if_false, h, Sem.run_pure]
theorem z16 (d : Nat) (a b : En) (w : World) : (Op.equalIn (d + 1 + 1) 41 (.agg #[.int .u8 a.k, .int .i64 a.fr, .int .i64 a.to, .string (bs a.b)]) (.agg #[.int .u8 b.k, .int .i64 b.fr, .int .i64 b.to, .string (bs b.b)])).run Tryz.prog w = .ok (decide (a = b)) w := by
 rw [run_equalIn_struct w (d + 1) 41 _ _ (by kernel_rfl) (by kernel_rfl)]
 have hf := eqFld43
 generalize (Tryz.prog.fieldsOf 41).toList = fs at hf
 obtain ⟨f0, fs, rfl⟩ : ∃ f r, fs = f :: r := by cases fs with | nil => simp at hf | cons f r => exact ⟨f, r, rfl⟩
 obtain ⟨f1, fs, rfl⟩ : ∃ f r, fs = f :: r := by cases fs with | nil => simp at hf | cons f r => exact ⟨f, r, rfl⟩
 obtain ⟨f2, fs, rfl⟩ : ∃ f r, fs = f :: r := by cases fs with | nil => simp at hf | cons f r => exact ⟨f, r, rfl⟩
 obtain ⟨f3, fs, rfl⟩ : ∃ f r, fs = f :: r := by cases fs with | nil => simp at hf | cons f r => exact ⟨f, r, rfl⟩
 simp only [List.map_cons, List.cons.injEq, Prod.mk.injEq, List.map_eq_nil_iff] at hf
 obtain ⟨⟨t0, o0, n0⟩, ⟨t1, o1, n1⟩, ⟨t2, o2, n2⟩, ⟨t3, o3, n3⟩, rfl⟩ := hf
 rw [zeo t0 o0 n0 (zb0 (zq7 w) rfl) (zb0 (zq7 w) rfl) (run_equalIn_int w d 5 .u8 .u8 _ _ und5)
  (zeo t1 o1 n1 (zb0 (zlm w) rfl) (zb0 (zlm w) rfl) (run_equalIn_int w d 3 .i64 .i64 _ _ und3)
  (zeo t2 o2 n2 (zb0 (zlm w) rfl) (zb0 (zlm w) rfl) (run_equalIn_int w d 3 .i64 .i64 _ _ und3)
  (zeo t3 o3 n3 (zb0 (z0y w) rfl) (zb0 (z0y w) rfl) (run_equalIn_string w d 9 _ _ und9) (zuh w))))]
 congr 1
 rw [zuw]
 obtain ⟨a1, a2, a3, a4⟩ := a
 obtain ⟨b1, b2, b3, b4⟩ := b
 simp only [En.mk.injEq, Bool.and_true]
 by_cases h1 : a1 = b1 <;> by_cases h2 : a2 = b2 <;> by_cases h3 : a3 = b3 <;> by_cases h4 : a4 = b4 <;> simp [h1, h2, h3, h4]
theorem eqFld24 : (Tryz.prog.fieldsOf 25).toList.map (fun f => (f.type, f.offset, f.name == "_")) = [(5, 0, false), (3, 1, false)] := by kernel_rfl
theorem eqIn24 (d : Nat) (a b : Ed) (w : World) : (Op.equalIn (d + 1 + 1) 25 (.agg #[.int .u8 a.k, .int .i64 a.c]) (.agg #[.int .u8 b.k, .int .i64 b.c])).run Tryz.prog w = .ok (decide (a = b)) w := by
 rw [run_equalIn_struct w (d + 1) 25 _ _ (by kernel_rfl) (by kernel_rfl)]
 have hf := eqFld24
 generalize (Tryz.prog.fieldsOf 25).toList = fs at hf
 obtain ⟨f0, fs, rfl⟩ : ∃ f r, fs = f :: r := by cases fs with | nil => simp at hf | cons f r => exact ⟨f, r, rfl⟩
 obtain ⟨f1, fs, rfl⟩ : ∃ f r, fs = f :: r := by cases fs with | nil => simp at hf | cons f r => exact ⟨f, r, rfl⟩
 simp only [List.map_cons, List.cons.injEq, Prod.mk.injEq, List.map_eq_nil_iff] at hf
 obtain ⟨⟨t0, o0, n0⟩, ⟨t1, o1, n1⟩, rfl⟩ := hf
 rw [zeo t0 o0 n0 (zb0 (zq7 w) rfl) (zb0 (zq7 w) rfl) (run_equalIn_int w d 5 .u8 .u8 _ _ und5)
  (zeo t1 o1 n1 (zb0 (zlm w) rfl) (zb0 (zlm w) rfl) (run_equalIn_int w d 3 .i64 .i64 _ _ und3) (zuh w))]
 congr 1
 obtain ⟨a1, a2⟩ := a
 obtain ⟨b1, b2⟩ := b
 simp only [Ed.mk.injEq, Bool.and_true]
 by_cases h1 : a1 = b1 <;> by_cases h2 : a2 = b2 <;> simp [h1, h2]
theorem zxb : Tryz.prog.eqGuardType Tryz.prog.depth 41 = false := by kernel_rfl
theorem guard24 : Tryz.prog.eqGuardType Tryz.prog.depth 25 = false := by kernel_rfl
theorem zes (e : En) : zcf (.agg (Enc.cells e)) = some (.agg #[.int .u8 e.k, .int .i64 e.fr, .int .i64 e.to, .string (bs e.b)]) := rfl
theorem zhm (e : Ed) : zcf (.agg (Enc.cells e)) = some (.agg #[.int .u8 e.k, .int .i64 e.c]) := rfl
theorem ztg {ρ : Operand → AV} {o : Oper} {x y : Operand} {c} (s t : En) (ho : o.op = .binOp .eql 41 x y c) (hx : ρ x = .agg (Enc.cells s)) (hy : ρ y = .agg (Enc.cells t)) : zjl Tryz.prog ρ o (.raw (.bool (decide (s = t)))) := by
 refine ⟨?_, by rw [ho]; intros; simp, by rw [ho]; intros; simp, .bool (decide (s = t)), fun w => ?_, rfl, rfl⟩
 ·rw [ho]; simp [Op.operands, hx, hy, zes]
 ·have h1 : zax ρ x = .agg #[.int .u8 s.k, .int .i64 s.fr, .int .i64 s.to, .string (bs s.b)] := by rw [zax, hx, zes, Option.getD_some]
  have h2 : zax ρ y = .agg #[.int .u8 t.k, .int .i64 t.fr, .int .i64 t.to, .string (bs t.b)] := by rw [zax, hy, zes, Option.getD_some]
  have h3 := z16 9998 s t w
  simp [execOp, ho, h1, h2, eqGuard, binOp, Op.equal, Op.maxDepth, program, Sem.run, zxb, h3, Sem.run_bind, Result.andThen]
theorem z02 {ρ : Operand → AV} {o : Oper} {x y : Operand} {c} (s t : En) (ho : o.op = .binOp .neq 41 x y c) (hx : ρ x = .agg (Enc.cells s)) (hy : ρ y = .agg (Enc.cells t)) : zjl Tryz.prog ρ o (.raw (.bool (decide (s ≠ t)))) := by
 refine ⟨?_, by rw [ho]; intros; simp, by rw [ho]; intros; simp, .bool (decide (s ≠ t)), fun w => ?_, rfl, rfl⟩
 ·rw [ho]; simp [Op.operands, hx, hy, zes]
 ·have h1 : zax ρ x = .agg #[.int .u8 s.k, .int .i64 s.fr, .int .i64 s.to, .string (bs s.b)] := by rw [zax, hx, zes, Option.getD_some]
  have h2 : zax ρ y = .agg #[.int .u8 t.k, .int .i64 t.fr, .int .i64 t.to, .string (bs t.b)] := by rw [zax, hy, zes, Option.getD_some]
  have h3 := z16 9998 s t w
  simp [execOp, ho, h1, h2, eqGuard, binOp, Op.equal, Op.maxDepth, program, Sem.run, zxb, h3, Sem.run_bind, Result.andThen]
theorem zsw {ρ : Operand → AV} {o : Oper} {x y : Operand} {c} (s t : Ed) (ho : o.op = .binOp .eql 25 x y c) (hx : ρ x = .agg (Enc.cells s)) (hy : ρ y = .agg (Enc.cells t)) : zjl Tryz.prog ρ o (.raw (.bool (decide (s = t)))) := by
 refine ⟨?_, by rw [ho]; intros; simp, by rw [ho]; intros; simp, .bool (decide (s = t)), fun w => ?_, rfl, rfl⟩
 ·rw [ho]; simp [Op.operands, hx, hy, zhm]
 ·have h1 : zax ρ x = .agg #[.int .u8 s.k, .int .i64 s.c] := by rw [zax, hx, zhm, Option.getD_some]
  have h2 : zax ρ y = .agg #[.int .u8 t.k, .int .i64 t.c] := by rw [zax, hy, zhm, Option.getD_some]
  have h3 := eqIn24 9998 s t w
  simp [execOp, ho, h1, h2, eqGuard, binOp, Op.equal, Op.maxDepth, program, Sem.run, guard24, h3, Sem.run_bind, Result.andThen]
end Go.Ab
set_option linter.unusedSimpArgs false
set_option linter.unusedVariables false
namespace Go.Ab
open Go Go.RowKit Go.Fwd Go.Proofs
theorem eqFld91 : (Tryz.prog.fieldsOf 67).toList.map (fun f => (f.type, f.offset, f.name == "_")) = [(5, 0, false), (3, 1, false), (3, 2, false), (9, 3, false)] := by kernel_rfl
theorem eqIn91 (d : Nat) (a b : En) (w : World) : (Op.equalIn (d + 1 + 1) 67 (.agg #[.int .u8 a.k, .int .i64 a.fr, .int .i64 a.to, .string (bs a.b)]) (.agg #[.int .u8 b.k, .int .i64 b.fr, .int .i64 b.to, .string (bs b.b)])).run Tryz.prog w = .ok (decide (a = b)) w := by
 rw [run_equalIn_struct w (d + 1) 67 _ _ (by kernel_rfl) (by kernel_rfl)]
 have hf := eqFld91
 generalize (Tryz.prog.fieldsOf 67).toList = fs at hf
 obtain ⟨f0, fs, rfl⟩ : ∃ f r, fs = f :: r := by cases fs with | nil => simp at hf | cons f r => exact ⟨f, r, rfl⟩
 obtain ⟨f1, fs, rfl⟩ : ∃ f r, fs = f :: r := by cases fs with | nil => simp at hf | cons f r => exact ⟨f, r, rfl⟩
 obtain ⟨f2, fs, rfl⟩ : ∃ f r, fs = f :: r := by cases fs with | nil => simp at hf | cons f r => exact ⟨f, r, rfl⟩
 obtain ⟨f3, fs, rfl⟩ : ∃ f r, fs = f :: r := by cases fs with | nil => simp at hf | cons f r => exact ⟨f, r, rfl⟩
 simp only [List.map_cons, List.cons.injEq, Prod.mk.injEq, List.map_eq_nil_iff] at hf
 obtain ⟨⟨t0, o0, n0⟩, ⟨t1, o1, n1⟩, ⟨t2, o2, n2⟩, ⟨t3, o3, n3⟩, rfl⟩ := hf
 rw [zeo t0 o0 n0 (zb0 (zq7 w) rfl) (zb0 (zq7 w) rfl) (run_equalIn_int w d 5 .u8 .u8 _ _ und5)
  (zeo t1 o1 n1 (zb0 (zlm w) rfl) (zb0 (zlm w) rfl) (run_equalIn_int w d 3 .i64 .i64 _ _ und3)
  (zeo t2 o2 n2 (zb0 (zlm w) rfl) (zb0 (zlm w) rfl) (run_equalIn_int w d 3 .i64 .i64 _ _ und3)
  (zeo t3 o3 n3 (zb0 (z0y w) rfl) (zb0 (z0y w) rfl) (run_equalIn_string w d 9 _ _ und9) (zuh w))))]
 congr 1
 rw [zuw]
 obtain ⟨a1, a2, a3, a4⟩ := a
 obtain ⟨b1, b2, b3, b4⟩ := b
 simp only [En.mk.injEq, Bool.and_true]
 by_cases h1 : a1 = b1 <;> by_cases h2 : a2 = b2 <;> by_cases h3 : a3 = b3 <;> by_cases h4 : a4 = b4 <;> simp [h1, h2, h3, h4]
theorem guard91 : Tryz.prog.eqGuardType Tryz.prog.depth 67 = false := by kernel_rfl
theorem zpa {ρ : Operand → AV} {o : Oper} {x y : Operand} {c} (s t : En) (ho : o.op = .binOp .neq 67 x y c) (hx : ρ x = .agg (Enc.cells s)) (hy : ρ y = .agg (Enc.cells t)) : zjl Tryz.prog ρ o (.raw (.bool (decide (s ≠ t)))) := by
 refine ⟨?_, by rw [ho]; intros; simp, by rw [ho]; intros; simp, .bool (decide (s ≠ t)), fun w => ?_, rfl, rfl⟩
 ·rw [ho]; simp [Op.operands, hx, hy, zes]
 ·have h1 : zax ρ x = .agg #[.int .u8 s.k, .int .i64 s.fr, .int .i64 s.to, .string (bs s.b)] := by rw [zax, hx, zes, Option.getD_some]
  have h2 : zax ρ y = .agg #[.int .u8 t.k, .int .i64 t.fr, .int .i64 t.to, .string (bs t.b)] := by rw [zax, hy, zes, Option.getD_some]
  have h3 := eqIn91 9998 s t w
  simp [execOp, ho, h1, h2, eqGuard, binOp, Op.equal, Op.maxDepth, program, Sem.run, guard91, h3, Sem.run_bind, Result.andThen]
theorem eqFld56 : (Tryz.prog.fieldsOf 32).toList.map (fun f => (f.type, f.offset, f.name == "_")) = [(5, 0, false), (3, 1, false)] := by kernel_rfl
theorem eqIn56 (d : Nat) (a b : Ed) (w : World) : (Op.equalIn (d + 1 + 1) 32 (.agg #[.int .u8 a.k, .int .i64 a.c]) (.agg #[.int .u8 b.k, .int .i64 b.c])).run Tryz.prog w = .ok (decide (a = b)) w := by
 rw [run_equalIn_struct w (d + 1) 32 _ _ (by kernel_rfl) (by kernel_rfl)]
 have hf := eqFld56
 generalize (Tryz.prog.fieldsOf 32).toList = fs at hf
 obtain ⟨f0, fs, rfl⟩ : ∃ f r, fs = f :: r := by cases fs with | nil => simp at hf | cons f r => exact ⟨f, r, rfl⟩
 obtain ⟨f1, fs, rfl⟩ : ∃ f r, fs = f :: r := by cases fs with | nil => simp at hf | cons f r => exact ⟨f, r, rfl⟩
 simp only [List.map_cons, List.cons.injEq, Prod.mk.injEq, List.map_eq_nil_iff] at hf
 obtain ⟨⟨t0, o0, n0⟩, ⟨t1, o1, n1⟩, rfl⟩ := hf
 rw [zeo t0 o0 n0 (zb0 (zq7 w) rfl) (zb0 (zq7 w) rfl) (run_equalIn_int w d 5 .u8 .u8 _ _ und5)
  (zeo t1 o1 n1 (zb0 (zlm w) rfl) (zb0 (zlm w) rfl) (run_equalIn_int w d 3 .i64 .i64 _ _ und3) (zuh w))]
 congr 1
 obtain ⟨a1, a2⟩ := a
 obtain ⟨b1, b2⟩ := b
 simp only [Ed.mk.injEq, Bool.and_true]
 by_cases h1 : a1 = b1 <;> by_cases h2 : a2 = b2 <;> simp [h1, h2]
theorem guard56 : Tryz.prog.eqGuardType Tryz.prog.depth 32 = false := by kernel_rfl
theorem zwg {ρ : Operand → AV} {o : Oper} {x y : Operand} {c} (s t : Ed) (ho : o.op = .binOp .neq 32 x y c) (hx : ρ x = .agg (Enc.cells s)) (hy : ρ y = .agg (Enc.cells t)) : zjl Tryz.prog ρ o (.raw (.bool (decide (s ≠ t)))) := by
 refine ⟨?_, by rw [ho]; intros; simp, by rw [ho]; intros; simp, .bool (decide (s ≠ t)), fun w => ?_, rfl, rfl⟩
 ·rw [ho]; simp [Op.operands, hx, hy, zhm]
 ·have h1 : zax ρ x = .agg #[.int .u8 s.k, .int .i64 s.c] := by rw [zax, hx, zhm, Option.getD_some]
  have h2 : zax ρ y = .agg #[.int .u8 t.k, .int .i64 t.c] := by rw [zax, hy, zhm, Option.getD_some]
  have h3 := eqIn56 9998 s t w
  simp [execOp, ho, h1, h2, eqGuard, binOp, Op.equal, Op.maxDepth, program, Sem.run, guard56, h3, Sem.run_bind, Result.andThen]
section
variable {P : Program} {ρ : Operand → AV} {σ : St} {o : Oper}
theorem bs_app (a b : List UInt8) : bs a ++ bs b = bs (a ++ b) := by
 apply ByteArray.ext
 show (bs a ++ bs b).data = _
 rw [ByteArray.data_append]
 simp [bs]
theorem zb7 {t : TypeId} {x y : Operand} {c} {a b : List UInt8} (ho : o.op = .binOp .eql t x y c) (hx : ρ x = .raw (.string (bs a))) (hy : ρ y = .raw (.string (bs b))) : qop P ρ σ o = some (.raw (.bool (a == b))) := by
 have hst : (a == b) = decide (a = b) := by by_cases h : a = b <;> simp [h]
 have h3 : val? P (execOp (zax ρ) o) = some (.value (.bool (a == b))) := by
  rw [hst, ← zuw]
  simp [execOp, ho, zax, hx, hy, zcf, eqGuard, binOp, Op.stringOp]
  rfl
 have h1 : o.op.operands.toList.all (fun x => (zcf (ρ x)).isSome) = true := by rw [ho]; simp [Op.operands, hx, hy, zcf]
 have h4 : zda P ρ o = some (.raw (.bool (a == b))) := by
  unfold zda; rw [if_pos h1, ho, h3]; rfl
 simp only [qop, ho, hx, hy, h4]
theorem zij {t : TypeId} {x y : Operand} {c} {a b : List UInt8} (ho : o.op = .binOp .neq t x y c) (hx : ρ x = .raw (.string (bs a))) (hy : ρ y = .raw (.string (bs b))) : qop P ρ σ o = some (.raw (.bool (!(a == b)))) := by
 have hst : (a == b) = decide (a = b) := by by_cases h : a = b <;> simp [h]
 have h3 : val? P (execOp (zax ρ) o) = some (.value (.bool (!(a == b)))) := by
  rw [hst, ← zuw]
  simp [execOp, ho, zax, hx, hy, zcf, eqGuard, binOp, Op.stringOp]
  rfl
 have h1 : o.op.operands.toList.all (fun x => (zcf (ρ x)).isSome) = true := by rw [ho]; simp [Op.operands, hx, hy, zcf]
 have h4 : zda P ρ o = some (.raw (.bool (!(a == b)))) := by
  unfold zda; rw [if_pos h1, ho, h3]; rfl
 simp only [qop, ho, hx, hy, h4]
theorem zad {t : TypeId} {x y : Operand} {c} {a b : List UInt8} (g : a.length + b.length ≤ 9223372036854775807) (ho : o.op = .binOp .add t x y c) (hx : ρ x = .raw (.string (bs a))) (hy : ρ y = .raw (.string (bs b))) : qop P ρ σ o = some (.raw (.string (bs (a ++ b)))) := by
 have hs : ¬ ((((bs a).size + (bs b).size : Nat) : Int) > IntKind.i64.max) := by
  have h1 : (bs a).size = a.length := rfl
  have h2 : (bs b).size = b.length := rfl
  have h3 : IntKind.i64.max = 9223372036854775807 := rfl
  rw [h1, h2, h3]; omega
 have h3 : val? P (execOp (zax ρ) o) = some (.value (.string (bs (a ++ b)))) := by
  rw [← bs_app]
  simp only [execOp, ho, zax, hx, hy, zcf, eqGuard, binOp, Op.stringOp, Option.getD_some]
  simp only [if_neg hs]
  rfl
 have h1 : o.op.operands.toList.all (fun x => (zcf (ρ x)).isSome) = true := by rw [ho]; simp [Op.operands, hx, hy, zcf]
 have h4 : zda P ρ o = some (.raw (.string (bs (a ++ b)))) := by
  unfold zda; rw [if_pos h1, ho, h3]; rfl
 simp only [qop, ho, hx, hy, h4]
end
end Go.Ab
