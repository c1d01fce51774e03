/-
  Arrays of 256 numbers as typed values of the abstract machine.
-/
import Derived.Test.YtjmhbbbpjbgmjaaZseQs
import Derived.Test.YtjmhbbbpjbgmjaaZseLeaf
set_option linter.unusedSimpArgs false
set_option linter.unusedVariables false
namespace Go.Ab
open Go Go.RowKit Go.Fwd Go.Proofs Go.Proofs.Ytjmhbbbpjbgmjaa

structure Ar where
  f : Nat → Int
def intC (x : Int) : AV := .raw (.int .i64 x)
def arL (a : Ar) : List Int := (List.range 256).map a.f
def cellsA (a : Ar) : List AV := (arL a).map intC
theorem arL_len (a : Ar) : (arL a).length = 256 := by simp [arL]
theorem arL_get (a : Ar) (i : Nat) (h : i < 256) : (arL a)[i]? = some (a.f i) := by simp [arL, h]
theorem clo_ints (l : List Int) : cloL (l.map intC) = true := by
  induction l with
  | nil => rfl
  | cons x l ih => rw [List.map_cons, cloL, ih]; rfl
instance : Enc Ar where
  inh := ⟨fun _ => 0⟩
  cells := cellsA
  cellsL l := l.flatMap cellsA
  sz := 256
  pos := by decide
  nil := rfl
  cons _ _ := rfl
  len a := by simp [cellsA, arL]
  clo a := clo_ints _
def zeroA : Ar := ⟨fun _ => 0⟩
def rdA (a : Ar) (i : Int) : Int := a.f i.toNat
def wrA (a : Ar) (i v : Int) : Ar := ⟨fun k => if k = i.toNat then v else a.f k⟩
def eqA (a b : Ar) : Bool := decide (arL a = arL b)
theorem cellsA_get (a : Ar) (i : Nat) (h : i < 256) : (cellsA a)[i]? = some (intC (a.f i)) := by simp [cellsA, arL, h]
theorem cellsA_wr (a : Ar) (i v : Int) (h : 0 ≤ i ∧ i < 256) : cellsA (wrA a i v) = (cellsA a).set i.toNat (intC v) := by
  apply List.ext_getElem?
  intro k
  rcases Nat.lt_or_ge k 256 with hk | hk
  · rw [cellsA_get _ _ hk]
    by_cases e : i.toNat = k
    · subst e
      rw [List.getElem?_set_self (by simp [cellsA, arL]; omega)]; simp [wrA]
    · rw [List.getElem?_set_ne e, cellsA_get _ _ hk]; simp [wrA, Ne.symm e]
  · rw [List.getElem?_eq_none (by simp [cellsA, arL]; omega), List.getElem?_eq_none (by simp [cellsA, arL]; omega)]
section
variable {ρ : Operand → AV} {σ : St} {o : Oper}
theorem size57 : sizeT Try.prog 57 = some 256 := by kernel_rfl
theorem size56 : sizeT Try.prog 56 = some 256 := by kernel_rfl
theorem size3 : sizeT Try.prog 3 = some 1 := by kernel_rfl
theorem und3 : Try.prog.underlying 3 = some (.int .i64) := by kernel_rfl
theorem und57 : Try.prog.underlying 57 = some (.array 256 3) := by kernel_rfl
theorem und56 : Try.prog.underlying 56 = some (.array 256 3) := by kernel_rfl
theorem rd_arr {P : Program} {t : TypeId} {cs : List AV} {n k : Nat} {e : TypeId} (hu : P.underlying t = some (.array k e)) (hs : sizeT P t = some n) (hl : cs.length = n) : rd P t cs = some (.agg cs) := by
  unfold sizeT at hs
  cases hi : P.info? t with
  | none => simp [hi] at hs
  | some i =>
    simp only [hi, Option.map_some, Option.some.injEq] at hs
    subst hs
    simp only [rd, hu, hi, hl, Nat.le_refl, if_true, List.take_of_length_le]
theorem rd_int {P : Program} {t : TypeId} {k : IntKind} {cs : List AV} {n : Nat} (hu : P.underlying t = some (.int k)) (hs : sizeT P t = some n) : rd P t cs = cs.head? := by
  unfold sizeT at hs
  cases hi : P.info? t with
  | none => simp [hi] at hs
  | some i => simp [rd, hu, hi]
theorem q_loadArr {t : TypeId} {x : Operand} {b : Nat} {tt : TypeId} (a : Ar) (ht : t = 57 ∨ t = 56) (ho : o.op = .load t x) (hx : ρ x = .ptr b 0) (hb : σ.boxes[b]? = some (tt, Enc.cells a)) : qop Try.prog ρ σ o = some (.agg (Enc.cells a)) := by
  have key : rd Try.prog t ((Enc.cells a).drop 0) = some (.agg (Enc.cells a)) := by
    rw [List.drop_zero]
    rcases ht with rfl | rfl
    · exact rd_arr und57 size57 (Enc.len a)
    · exact rd_arr und56 size56 (Enc.len a)
  simp only [qop, ho, aLoad, hx, hb, key]
theorem head_at (a : Ar) (rest : List AV) (i : Int) (h : 0 ≤ i ∧ i < 256) : ((Enc.cells a ++ rest).drop (i.toNat * 1)).head? = some (.raw (.int .i64 (rdA a i))) := by
  rw [Nat.mul_one, List.head?_drop, List.getElem?_append_left (by rw [Enc.len]; show i.toNat < 256; omega)]
  exact cellsA_get a i.toNat (by omega)
theorem q_loadA {x : Operand} {b : Nat} {tt : TypeId} {i : Int} (a : Ar) (h : 0 ≤ i ∧ i < 256) (ho : o.op = .load 3 x) (hx : ρ x = .ptr b (0 + i.toNat * 1)) (hb : σ.boxes[b]? = some (tt, Enc.cells a)) : qop Try.prog ρ σ o = some (.raw (.int .i64 (rdA a i))) := by
  have key := head_at a [] i h
  rw [List.append_nil] at key
  simp only [qop, ho, aLoad, hx, hb, Nat.zero_add, rd_int und3 size3, key]
theorem q_idxIA {x i : Operand} {cs : List AV} {k : IntKind} {n : Int} (h : 0 ≤ n ∧ n < 256) (ho : o.op = .indexAddr 57 x i) (hx : ρ x = .iptr cs) (hi : ρ i = .raw (.int k n)) : qop Try.prog ρ σ o = some (.iptr (cs.drop (n.toNat * 1))) := by
  have h' : 0 ≤ n ∧ n < ((256 : Nat) : Int) := h
  simp only [qop, ho, hx, hi, aIndexAddr, und57, size3, if_pos h', aMove]
theorem q_loadIA {x : Operand} {i : Int} (a : Ar) (rest : List AV) (h : 0 ≤ i ∧ i < 256) (ho : o.op = .load 3 x) (hx : ρ x = .iptr ((Enc.cells a ++ rest).drop (i.toNat * 1))) : qop Try.prog ρ σ o = some (.raw (.int .i64 (rdA a i))) := by
  simp only [qop, ho, aLoad, hx, rd_int und3 size3, head_at a rest i h]
theorem op_storeA {x y : Operand} {b : Nat} {tt : TypeId} {i v : Int} (a : Ar) (h : 0 ≤ i ∧ i < 256) (ho : o.op = .store 3 x y) (hx : ρ x = .ptr b (0 + i.toNat * 1)) (hy : ρ y = .raw (.int .i64 v)) (hb : σ.boxes[b]? = some (tt, Enc.cells a)) :
    aop Try.prog ρ σ o = some (.raw undef, { σ with boxes := σ.boxes.set b (tt, Enc.cells (wrA a i v)) }) := by
  have hl : (Enc.cells a).length = 256 := Enc.len a
  rw [op_store (n := 1) ho hx hy hb size3 ⟨rfl, rfl, by simp only [hl]; omega, by decide⟩]
  have e : (Enc.cells a).take (0 + i.toNat * 1) ++ cellsOf (.raw (.int .i64 v)) ++ (Enc.cells a).drop (0 + i.toNat * 1 + 1) = Enc.cells (wrA a i v) := by
    show _ = cellsA (wrA a i v)
    rw [cellsA_wr _ _ _ h, List.set_eq_take_append_cons_drop, if_pos (by rw [show (cellsA a).length = 256 from Enc.len a]; omega)]
    simp only [Nat.zero_add, Nat.mul_one, List.append_assoc, cellsOf, List.singleton_append]
    rfl
  simp only [e]
def zv57 : Value := .agg ((List.range 256).map fun _ => Value.int .i64 0).toArray
theorem zero57 : zeroOf Try.prog 57 = some zv57 := by kernel_rfl
theorem zero56 : zeroOf Try.prog 56 = some zv57 := by kernel_rfl
theorem cells_zero : cellsOf (ofVal zv57) = Enc.cells zeroA := by kernel_rfl
theorem aAlloc_of {P : Program} {t : TypeId} {z : Value} (hz : zeroOf P t = some z) : aAlloc P σ t = some (.ptr σ.boxes.length 0, { σ with boxes := σ.boxes ++ [(t, cellsOf (ofVal z))] }) := by
  unfold zeroOf at hz
  unfold aAlloc
  cases hi : P.info? t with
  | none => simp [hi] at hz
  | some i =>
    simp only [hi] at hz ⊢
    cases hzz : i.zero with
    | none => simp [hzz] at hz
    | some z' =>
      simp only [hzz] at hz ⊢
      split at hz
      · rename_i hk
        cases hz
        rw [if_pos hk.1, aBox, if_pos hk.2]
      · cases hz
theorem op_allocA {t : TypeId} (ht : t = 57 ∨ t = 56) (ho : o.op = .alloc t) : aop Try.prog ρ σ o = some (.ptr σ.boxes.length 0, { σ with boxes := σ.boxes ++ [(t, Enc.cells zeroA)] }) := by
  have h : aAlloc Try.prog σ t = some (.ptr σ.boxes.length 0, { σ with boxes := σ.boxes ++ [(t, Enc.cells zeroA)] }) := by
    rcases ht with rfl | rfl
    · rw [aAlloc_of zero57, cells_zero]
    · rw [aAlloc_of zero56, cells_zero]
  simp only [aop, qop, ho, h]
end
/-! ### compared -/
theorem run_equalIn_i (w : World) (d : Nat) (a b : Int) : (Op.equalIn (d + 1) 3 (.int .i64 a) (.int .i64 b)).run Try.prog w = .ok (a == b) w := run_equalIn_int w d 3 .i64 .i64 a b und3
theorem toVal_ints (l : List Int) : toVal (.agg (l.map intC)) = some (.agg (l.map (Value.int .i64)).toArray) := by
  have : rawCells (l.map intC) = some (l.map (Value.int .i64)) := by
    induction l with
    | nil => rfl
    | cons x l ih => rw [List.map_cons, rawCells, ih]; rfl
  simp [toVal, this]
theorem run_isAgg3 (w : World) : (isAgg 3).run Try.prog w = .ok false w := by kernel_rfl
theorem run_size3 (w : World) : (sizeOf 3).run Try.prog w = .ok 1 w := by kernel_rfl
theorem run_und {t : TypeId} {d : TypeDesc} (h : Try.prog.underlying t = some d) (w : World) : (underlying t).run Try.prog w = .ok d w := run_underlying h w
theorem eqIn57 (d : Nat) (xs ys : List Int) (hx : xs.length = 256) (hy : ys.length = 256) (w : World) :
    (Op.equalIn (d + 1 + 1) 57 (.agg (xs.map (Value.int .i64)).toArray) (.agg (ys.map (Value.int .i64)).toArray)).run Try.prog w = .ok (decide (xs = ys)) w := by
  rw [Op.equalIn]
  simp only [Sem.run_bind, run_underlying und57, Result.andThen_ok, run_size3]
  simp only [Std.Legacy.Range.forIn_eq_forIn_range', Std.Legacy.Range.size, Nat.sub_zero, Nat.add_sub_cancel, Nat.div_one]
  have key : ∀ n s, s + n = 256 → (Sem.run Try.prog
          (forIn (List.range' s n) (none, ()) fun i (__s : Option Bool × Unit) => do
            let __do_lift ← part 3 (List.map (Value.int IntKind.i64) xs).toArray (i * 1)
            let __do_lift_1 ← part 3 (List.map (Value.int IntKind.i64) ys).toArray (i * 1)
            let __do_lift ← Op.equalIn (d + 1) 3 __do_lift __do_lift_1
            if (!__do_lift) = true then pure (ForInStep.done (some false, ())) else pure (ForInStep.yield (none, ()))) w) = .ok (if xs.drop s = ys.drop s then (none, ()) else (some false, ())) w := by
    intro n
    induction n with
    | zero =>
      intro s hs
      rw [if_pos (by rw [List.drop_of_length_le (by omega), List.drop_of_length_le (by omega)])]
      simp [Sem.run_pure]
    | succ n ih =>
      intro s hs
      have h1 : s < xs.length := by omega
      have h2 : s < ys.length := by omega
      have ih := ih (s + 1) (by omega)
      rw [List.range'_succ, List.forIn_cons]
      rw [List.drop_eq_getElem_cons h1, List.drop_eq_getElem_cons h2]
      have hp : ∀ (zs : List Int) (hz : s < zs.length) (w : World), (part 3 (List.map (Value.int IntKind.i64) zs).toArray (s * 1)).run Try.prog w = .ok (.int .i64 zs[s]) w := fun zs hz w => by
        simp only [part, Sem.run_bind, run_isAgg3, Result.andThen_ok, Nat.mul_one, List.getElem?_toArray, List.getElem?_map, List.getElem?_eq_getElem hz, Option.map_some, if_false, Bool.false_eq_true, Sem.run_pure]
      simp only [Sem.run_bind, hp xs h1, hp ys h2, Result.andThen_ok, Bool.false_eq_true, Sem.run_pure, run_equalIn_i]
      by_cases e : xs[s] = ys[s]
      · simp only [e, beq_self_eq_true, Bool.not_true, Bool.false_eq_true, if_false, Sem.run_pure, Result.andThen_ok, List.cons.injEq, true_and]
        exact ih
      · have : (xs[s] == ys[s]) = false := by simp [e]
        simp only [this, Bool.not_false, if_true, Sem.run_pure, Result.andThen_ok, List.cons.injEq, e, false_and, if_false]
  have h := key 256 0 rfl
  simp only [List.drop_zero] at h
  rw [h]
  by_cases e : xs = ys
  · simp [e, Result.andThen, Sem.run_pure]
  · simp [e, Result.andThen, Sem.run_pure]
theorem guard57 : Try.prog.eqGuardType Try.prog.depth 57 = false := by kernel_rfl
theorem rs_eqA {ρ : Operand → AV} {o : Oper} {x y : Operand} {c} (s t : Ar) (ho : o.op = .binOp .eql 57 x y c) (hx : ρ x = .agg (Enc.cells s)) (hy : ρ y = .agg (Enc.cells t)) : RawRun Try.prog ρ o (.raw (.bool (eqA s t))) := by
  replace hx : ρ x = .agg ((arL s).map intC) := hx
  replace hy : ρ y = .agg ((arL t).map intC) := hy
  refine ⟨?_, by rw [ho]; intros; simp, by rw [ho]; intros; simp, .bool (eqA s t), fun w => ?_, rfl, rfl⟩
  · rw [ho]; simp [Op.operands, hx, hy, toVal_ints]
  · have h1 : rawEnv ρ x = .agg ((arL s).map (Value.int .i64)).toArray := by simp only [rawEnv, hx, toVal_ints, Option.getD_some]
    have h2 : rawEnv ρ y = .agg ((arL t).map (Value.int .i64)).toArray := by simp only [rawEnv, hy, toVal_ints, Option.getD_some]
    have h3 := eqIn57 9998 (arL s) (arL t) (arL_len s) (arL_len t) w
    simp only [execOp, ho, h1, h2, eqGuard, binOp, Op.equal, Op.maxDepth, program, Sem.run, guard57]
    simp [execOp, ho, h1, h2, eqGuard, binOp, Op.equal, Op.maxDepth, program, Sem.run, guard57, h3, eqA]
end Go.Ab
