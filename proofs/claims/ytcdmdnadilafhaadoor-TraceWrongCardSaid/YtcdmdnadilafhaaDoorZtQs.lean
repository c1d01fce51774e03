/-
  Slices of lists.
-/
import Derived.Test.YtcdmdnadilafhaaDoorZtNm
import Derived.Test.YtcdmdnadilafhaaDoorZdSh
set_option linter.unusedSimpArgs false
set_option linter.unusedVariables false
namespace Go.Ab
open Go Go.RowKit Go.Fwd Go.Proofs
structure En where
  k : Int
  fr : Int
  to : Int
  b : List UInt8
  deriving DecidableEq
structure Ed where
  k : Int
  c : Int
  deriving DecidableEq
structure Trc where
  l : List En
  e : Ed
  deriving DecidableEq
structure Sme where
  k : Int
  far : Int
  b : List UInt8
def cellsEn (e : En) : List AV := [.raw (.int .u8 e.k), .raw (.int .i64 e.fr), .raw (.int .i64 e.to), .raw (.string (bs e.b))]
instance : Enc En where
  inh := ⟨0, 0, 0, []⟩
  cells := cellsEn
  cellsL l := l.flatMap cellsEn
  sz := 4
  pos := by decide
  nil := rfl
  cons _ _ := rfl
  len _ := rfl
  clo _ := rfl
def cellsEd (e : Ed) : List AV := [.raw (.int .u8 e.k), .raw (.int .i64 e.c)]
instance : Enc Ed where
  inh := ⟨0, 0⟩
  cells := cellsEd
  cellsL l := l.flatMap cellsEd
  sz := 2
  pos := by decide
  nil := rfl
  cons _ _ := rfl
  len _ := rfl
  clo _ := rfl
def cellsTrc (t : Trc) : List AV := [.list t.l.length (Enc.cellsL t.l) .none, .raw (.int .u8 t.e.k), .raw (.int .i64 t.e.c)]
theorem clo_cellsTrc (t : Trc) : cloL (cellsTrc t) = true := by
  show (clo (.list _ (Enc.cellsL t.l) .none) && _) = true
  simp only [clo, Enc.cloL t.l, cloL]
  rfl
instance : Enc Trc where
  inh := ⟨[], 0, 0⟩
  cells := cellsTrc
  cellsL l := l.flatMap cellsTrc
  sz := 3
  pos := by decide
  nil := rfl
  cons _ _ := rfl
  len _ := rfl
  clo := clo_cellsTrc
def cellsSme (t : Sme) : List AV := [.raw (.int .u8 t.k), .raw (.int .u8 t.far), .list t.b.length (Enc.cellsL t.b) .none]
theorem clo_cellsSme (t : Sme) : cloL (cellsSme t) = true := by
  show (_ && (_ && (clo (.list _ (Enc.cellsL t.b) .none) && _))) = true
  simp only [clo, Enc.cloL t.b, cloL]
  rfl
instance : Enc Sme where
  inh := ⟨0, 0, []⟩
  cells := cellsSme
  cellsL l := l.flatMap cellsSme
  sz := 3
  pos := by decide
  nil := rfl
  cons _ _ := rfl
  len _ := rfl
  clo := clo_cellsSme
theorem eqFld43 : (Tryd.prog.fieldsOf 43).toList.map (fun f => (f.type, f.offset, f.name == "_")) = [(5, 0, false), (3, 1, false), (3, 2, false), (9, 3, false)] := by kernel_rfl
theorem und5 : Tryd.prog.underlying 5 = some (.int .u8) := by kernel_rfl
theorem und3 : Tryd.prog.underlying 3 = some (.int .i64) := by kernel_rfl
theorem und9 : Tryd.prog.underlying 9 = some .string := by kernel_rfl
theorem nagg5 (w : World) : (isAgg 5).run Tryd.prog w = .ok false w := by kernel_rfl
theorem nagg3 (w : World) : (isAgg 3).run Tryd.prog w = .ok false w := by kernel_rfl
theorem nagg9 (w : World) : (isAgg 9).run Tryd.prog w = .ok false w := by kernel_rfl
theorem bs_beq (a b : List UInt8) : ((bs a).toList == (bs b).toList) = decide (a = b) := by
  rw [ByteArray.toList_eq, ByteArray.toList_eq]
  show ((a.toArray.toList) == (b.toArray.toList)) = _
  by_cases h : a = b <;> simp [h]
theorem eq_nil {P : Program} {d : Nat} {xs ys : Array Value} (w : World) : (Op.eqFields d xs ys []).run P w = .ok true w := rfl
theorem eq_cons {P : Program} {d : Nat} {xs ys : Array Value} {f : Field} {fs : List Field} {t : TypeId} {o : Nat} {w : World} {va vb : Value} {r k : Bool} (ht : f.type = t) (ho : f.offset = o) (hn : (f.name == "_") = false) (h1 : (part t xs o).run P w = .ok va w) (h2 : (part t ys o).run P w = .ok vb w)
    (h3 : (Op.equalIn d t va vb).run P w = .ok r w) (h4 : (Op.eqFields d xs ys fs).run P w = .ok k w) : (Op.eqFields d xs ys (f :: fs)).run P w = .ok (r && k) w := by
  subst ht; subst ho
  have hn' : f.name ≠ "_" := by simpa using hn
  simp only [Op.eqFields, if_pos hn', Sem.run_bind, h1, h2, h3, Result.andThen_ok]
  cases r with
  | false => rfl
  | true => simpa using h4
theorem part_at {P : Program} {t : TypeId} {xs : Array Value} {o : Nat} {v : Value} {w : World} (hn : (isAgg t).run P w = .ok false w) (h : xs[o]? = some v) : (part t xs o).run P w = .ok v w := by
  simp only [part, Sem.run_bind, hn, Result.andThen_ok, Bool.false_eq_true, if_false, h, Sem.run_pure]
theorem eqIn43 (d : Nat) (a b : En) (w : World) : (Op.equalIn (d + 1 + 1) 43 (.agg #[.int .u8 a.k, .int .i64 a.fr, .int .i64 a.to, .string (bs a.b)]) (.agg #[.int .u8 b.k, .int .i64 b.fr, .int .i64 b.to, .string (bs b.b)])).run Tryd.prog w = .ok (decide (a = b)) w := by
  rw [run_equalIn_struct w (d + 1) 43 _ _ (by kernel_rfl) (by kernel_rfl)]
  have hf := eqFld43
  generalize (Tryd.prog.fieldsOf 43).toList = fs at hf
  obtain ⟨f0, fs, rfl⟩ : ∃ f r, fs = f :: r := by cases fs with | nil => simp at hf | cons f r => exact ⟨f, r, rfl⟩
  obtain ⟨f1, fs, rfl⟩ : ∃ f r, fs = f :: r := by cases fs with | nil => simp at hf | cons f r => exact ⟨f, r, rfl⟩
  obtain ⟨f2, fs, rfl⟩ : ∃ f r, fs = f :: r := by cases fs with | nil => simp at hf | cons f r => exact ⟨f, r, rfl⟩
  obtain ⟨f3, fs, rfl⟩ : ∃ f r, fs = f :: r := by cases fs with | nil => simp at hf | cons f r => exact ⟨f, r, rfl⟩
  simp only [List.map_cons, List.cons.injEq, Prod.mk.injEq, List.map_eq_nil_iff] at hf
  obtain ⟨⟨t0, o0, n0⟩, ⟨t1, o1, n1⟩, ⟨t2, o2, n2⟩, ⟨t3, o3, n3⟩, rfl⟩ := hf
  rw [eq_cons t0 o0 n0 (part_at (nagg5 w) rfl) (part_at (nagg5 w) rfl) (run_equalIn_int w d 5 .u8 .u8 _ _ und5)
    (eq_cons t1 o1 n1 (part_at (nagg3 w) rfl) (part_at (nagg3 w) rfl) (run_equalIn_int w d 3 .i64 .i64 _ _ und3)
    (eq_cons t2 o2 n2 (part_at (nagg3 w) rfl) (part_at (nagg3 w) rfl) (run_equalIn_int w d 3 .i64 .i64 _ _ und3)
    (eq_cons t3 o3 n3 (part_at (nagg9 w) rfl) (part_at (nagg9 w) rfl) (run_equalIn_string w d 9 _ _ und9) (eq_nil w))))]
  congr 1
  rw [bs_beq]
  obtain ⟨a1, a2, a3, a4⟩ := a
  obtain ⟨b1, b2, b3, b4⟩ := b
  simp only [En.mk.injEq, Bool.and_true]
  by_cases h1 : a1 = b1 <;> by_cases h2 : a2 = b2 <;> by_cases h3 : a3 = b3 <;> by_cases h4 : a4 = b4 <;> simp [h1, h2, h3, h4]
theorem guard43 : Tryd.prog.eqGuardType Tryd.prog.depth 43 = false := by kernel_rfl
theorem toVal_En (e : En) : toVal (.agg (Enc.cells e)) = some (.agg #[.int .u8 e.k, .int .i64 e.fr, .int .i64 e.to, .string (bs e.b)]) := rfl
theorem rs_eqEn {ρ : Operand → AV} {o : Oper} {x y : Operand} {c} (s t : En) (ho : o.op = .binOp .eql 43 x y c) (hx : ρ x = .agg (Enc.cells s)) (hy : ρ y = .agg (Enc.cells t)) : RawRun Tryd.prog ρ o (.raw (.bool (decide (s = t)))) := by
  refine ⟨?_, by rw [ho]; intros; simp, by rw [ho]; intros; simp, .bool (decide (s = t)), fun w => ?_, rfl, rfl⟩
  · rw [ho]; simp [Op.operands, hx, hy, toVal_En]
  · have h1 : rawEnv ρ x = .agg #[.int .u8 s.k, .int .i64 s.fr, .int .i64 s.to, .string (bs s.b)] := by rw [rawEnv, hx, toVal_En, Option.getD_some]
    have h2 : rawEnv ρ y = .agg #[.int .u8 t.k, .int .i64 t.fr, .int .i64 t.to, .string (bs t.b)] := by rw [rawEnv, hy, toVal_En, Option.getD_some]
    have h3 := eqIn43 9998 s t w
    simp [execOp, ho, h1, h2, eqGuard, binOp, Op.equal, Op.maxDepth, program, Sem.run, guard43, h3, Sem.run_bind, Result.andThen]
end Go.Ab
set_option linter.unusedSimpArgs false
set_option linter.unusedVariables false
namespace Go.Ab
open Go Go.RowKit Go.Fwd Go.Proofs
section
variable {P : Program} {ρ : Operand → AV} {σ : St} {o : Oper}
theorem bs_app (a b : List UInt8) : bs a ++ bs b = bs (a ++ b) := by
  apply ByteArray.ext
  show (bs a ++ bs b).data = _
  rw [ByteArray.data_append]
  simp [bs]
theorem q_strne {t : TypeId} {x y : Operand} {c} {a b : List UInt8} (ho : o.op = .binOp .neq t x y c) (hx : ρ x = .raw (.string (bs a))) (hy : ρ y = .raw (.string (bs b))) : qop P ρ σ o = some (.raw (.bool (!(a == b)))) := by
  have hst : (a == b) = decide (a = b) := by by_cases h : a = b <;> simp [h]
  have h3 : val? P (execOp (rawEnv ρ) o) = some (.value (.bool (!(a == b)))) := by
    rw [hst, ← bs_beq]
    simp [execOp, ho, rawEnv, hx, hy, toVal, eqGuard, binOp, Op.stringOp]
    rfl
  have h1 : o.op.operands.toList.all (fun x => (toVal (ρ x)).isSome) = true := by rw [ho]; simp [Op.operands, hx, hy, toVal]
  have h4 : rawOp P ρ o = some (.raw (.bool (!(a == b)))) := by
    unfold rawOp; rw [if_pos h1, ho, h3]; rfl
  simp only [qop, ho, hx, hy, h4]
theorem q_stradd {t : TypeId} {x y : Operand} {c} {a b : List UInt8} (g : a.length + b.length ≤ 9223372036854775807) (ho : o.op = .binOp .add t x y c) (hx : ρ x = .raw (.string (bs a))) (hy : ρ y = .raw (.string (bs b))) : qop P ρ σ o = some (.raw (.string (bs (a ++ b)))) := by
  have hs : ¬ ((((bs a).size + (bs b).size : Nat) : Int) > IntKind.i64.max) := by
    have h1 : (bs a).size = a.length := rfl
    have h2 : (bs b).size = b.length := rfl
    have h3 : IntKind.i64.max = 9223372036854775807 := rfl
    rw [h1, h2, h3]; omega
  have h3 : val? P (execOp (rawEnv ρ) o) = some (.value (.string (bs (a ++ b)))) := by
    rw [← bs_app]
    simp only [execOp, ho, rawEnv, hx, hy, toVal, eqGuard, binOp, Op.stringOp, Option.getD_some]
    simp only [if_neg hs]
    rfl
  have h1 : o.op.operands.toList.all (fun x => (toVal (ρ x)).isSome) = true := by rw [ho]; simp [Op.operands, hx, hy, toVal]
  have h4 : rawOp P ρ o = some (.raw (.string (bs (a ++ b)))) := by
    unfold rawOp; rw [if_pos h1, ho, h3]; rfl
  simp only [qop, ho, hx, hy, h4]
end
end Go.Ab
set_option linter.unusedSimpArgs false
set_option linter.unusedVariables false
namespace Go.Ab
open Go Go.RowKit Go.Fwd
section
variable {IT : IterP} {P : Program} {W : Owed} {k0 : Nat}
variable {ops : Array Oper} {σ : St} {pl : List Pe} {K : List AV → Prop} {o : Oper} {l : List Oper} {S S' : List AV} {k : Nat}
end
end Go.Ab
set_option linter.unusedSimpArgs false
set_option linter.unusedVariables false
namespace Go.Ab
open Go Go.RowKit Go.Fwd
def subRoom (n : Nat) (i j : Int) (st : Room) : Room := if i.toNat = 0 ∧ j.toNat = n then st else if j.toNat = n ∧ st = .full then .full else .none
theorem sub_lenI {α : Type} (l : List α) {i j : Int} (g : 0 ≤ i ∧ i ≤ j ∧ j ≤ (l.length : Int)) : (sub l i j).length = j.toNat - i.toNat := by
  simp only [sub, List.length_take, List.length_drop]; omega
theorem sub_cells {α : Type} [Enc α] (l : List α) {i j : Int} (g : 0 ≤ i ∧ i ≤ j ∧ j ≤ (l.length : Int)) : ((Enc.cellsL l).drop (i.toNat * Enc.sz α)).take ((j.toNat - i.toNat) * Enc.sz α) = Enc.cellsL (sub l i j) := by
  rw [Enc.drop, Enc.take]; rfl
section
variable {P : Program} {ρ : Operand → AV} {σ : St} {o : Oper}
theorem strip_sub {α : Type} [Enc α] (l : List α) (n : Nat) (st : Room) : strip (.list n (Enc.cellsL l) st) = .list n (Enc.cellsL l) .none := by
  rw [strip, Enc.stripL]
theorem q_sub_H {α : Type} [Enc α] {l : List α} {x y : Operand} {t e : TypeId} {st : Room} {j : Int} (g : 0 ≤ 0 ∧ 0 ≤ j ∧ j ≤ (l.length : Int)) (ho : o.op = .slice t x none (some y) none) (hx : ρ x = .list l.length (Enc.cellsL l) st) (hy : ρ y = .raw (.int .i64 j)) (hu : P.underlying t = some (.slice e)) (hs : sizeT P e = some (Enc.sz α)) :
    qop P ρ σ o = some (.list (sub l 0 j).length (Enc.cellsL (sub l 0 j)) (subRoom l.length 0 j st)) := by
  have hg : (0 : Int) ≤ 0 ∧ 0 ≤ j ∧ j ≤ (l.length : Int) := ⟨Int.le_refl 0, g.2⟩
  have h1 : aSlice P t (ρ x) none (some (ρ y)) none = some (.list (sub l 0 j).length (Enc.cellsL (sub l 0 j)) (subRoom l.length 0 j st)) := by
    have hj := g.2
    rw [sub_lenI l hg, ← sub_cells l hg, hx, hy]
    simp [aSlice, hu, hs, aBounds, aBound, Enc.lenL, subRoom, hj]
  simp only [qop, ho, Option.map, h1]
theorem q_conv64 {x : Operand} {s t : TypeId} {k : IntKind} {n : Int} (g : -9223372036854775808 ≤ n ∧ n < 9223372036854775808) (ho : o.op = .convert s t x) (hx : ρ x = .raw (.int k n)) (hs : val? P (Next.value <$> convert s t (.int k n)) = some (.value (.int .i64 (IntKind.i64.wrap n)))) : qop P ρ σ o = some (.raw (.int .i64 n)) := by
  have h := wrap_i64 g.1 g.2
  rw [h] at hs
  simp [qop, rawOp, ho, Op.operands, hx, toVal, execOp, rawEnv, hs, aBytesStr]
  exact ⟨rfl, rfl⟩
theorem u8sOf_cells : ∀ l : List UInt8, u8sOf (Enc.cellsL l) = some l
  | [] => rfl
  | a :: l => by
    show u8sOf (.raw (.int .u8 ((a.toNat : Nat) : Int)) :: Enc.cellsL l) = _
    have h := a.toNat_lt
    simp [u8sOf, u8sOf_cells l]
    omega
theorem q_bstr {l : List UInt8} {x : Operand} {s t e : TypeId} {st : Room} (ho : o.op = .convert s t x) (hx : ρ x = .list l.length (Enc.cellsL l) st) (hs : P.underlying s = some (.slice e) ∧ P.underlying e = some (.int .u8)) (ht : P.underlying t = some .string) : qop P ρ σ o = some (.raw (.string (bs l))) := by
  have h : aBytesStr P s t (ρ x) = some (.raw (.string (bs l))) := by
    rw [hx]
    simp only [aBytesStr, hs.1, hs.2, ht, u8sOf_cells, if_true]
    rfl
  simp only [qop, ho, h]
theorem op_storeO {t : TypeId} {x y : Operand} {s off n : Nat} {cs : List AV} {bx : TypeId × List AV} (ho : o.op = .store t x y) (hx : ρ x = .ptr s off) (hy : ρ y = ownAV n cs) (hb : σ.boxes[s]? = some bx) (hn : sizeT P t = some 1) (hl : off + 1 ≤ bx.2.length) :
    aop P ρ σ o = some (.raw undef, { σ with boxes := σ.boxes.set s (bx.1, bx.2.take off ++ [ownAV n cs] ++ bx.2.drop (off + 1)) }) := by
  have h1 : cellsOf (ownAV n cs) = [ownAV n cs] := by unfold ownAV; split <;> rfl
  have h2 : cellOk (ownAV n cs) = true := by unfold ownAV; split <;> rfl
  rw [op_store (n := 1) ho hx hy hb hn ⟨h2, by rw [h1]; rfl, hl, by decide⟩, h1]
theorem q_rem64 {x y : Operand} {t : TypeId} {c} {m n : Int} (g : (0 ≤ m ∧ m < 9223372036854775808) ∧ 0 < n) (ho : o.op = .binOp .rem t x y c) (hx : ρ x = .raw (.int .i64 m)) (hy : ρ y = .raw (.int .i64 n)) : qop P ρ σ o = some (.raw (.int .i64 (Int.tmod m n))) := by
  obtain ⟨⟨h1, h2⟩, h3⟩ := g
  have h0 : ¬ n = 0 := by omega
  have hb : 0 ≤ Int.tmod m n ∧ Int.tmod m n ≤ m := by
    rw [Int.tmod_eq_emod_of_nonneg h1]
    exact ⟨Int.emod_nonneg _ h0, by
      have := Int.emod_emod_of_dvd m (Int.dvd_refl n)
      have h4 := Int.mul_ediv_add_emod m n
      have h5 : 0 ≤ n * (m / n) := Int.mul_nonneg (by omega) (Int.ediv_nonneg h1 (by omega))
      omega⟩
  have h := wrap_i64 (x := Int.tmod m n) (by omega) (by omega)
  simp [qop, rawOp, ho, Op.operands, hx, hy, toVal, execOp, rawEnv, eqGuard, binOp, Op.intDiv, h0, h]
  try rfl
def trcR (t : Trc) (st : Room) : AV := .agg [.list t.l.length (Enc.cellsL t.l) st, .raw (.int .u8 t.e.k), .raw (.int .i64 t.e.c)]
theorem strip_trcR (t : Trc) (st : Room) : strip (trcR t st) = .agg (Enc.cells t) := by
  simp only [trcR, strip, stripL, Enc.stripL]; rfl
end
end Go.Ab

