/-
  strings.Builder: WriteString and String as contracts on boxes.
-/
import Derived.Test.YtblibgbakbhlkaaGreatDoorZvQc
import Derived.Test.YtblibgbakbhlkaaGreatDoorZvBld
set_option linter.unusedSimpArgs false
set_option linter.unusedVariables false
namespace Go.Ab
open Go Go.RowKit Go.Fwd Go.Proofs
structure Ev where
  k : Int
  b : Int
  deriving DecidableEq
structure Ck where
  k : Int
  l : List UInt8
  deriving DecidableEq
def cellsEv (e : Ev) : List AV := [.raw (.int .u8 e.k), .raw (.int .u8 e.b)]
instance : Enc Ev where
  inh := ⟨0, 0⟩
  cells := cellsEv
  cellsL l := l.flatMap cellsEv
  sz := 2
  pos := by decide
  nil := rfl
  cons _ _ := rfl
  len _ := rfl
  clo _ := rfl
def cellsCk (t : Ck) : List AV := [.raw (.int .u8 t.k), .list t.l.length (Enc.cellsL t.l) .none]
theorem clo_cellsCk (t : Ck) : cloL (cellsCk t) = true := by
  show (_ && (clo (.list _ (Enc.cellsL t.l) .none) && _)) = true
  simp only [clo, Enc.cloL t.l, cloL]
  rfl
instance : Enc Ck where
  inh := ⟨0, []⟩
  cells := cellsCk
  cellsL l := l.flatMap cellsCk
  sz := 2
  pos := by decide
  nil := rfl
  cons _ _ := rfl
  len _ := rfl
  clo := clo_cellsCk
theorem und5 : Tryz.prog.underlying 5 = some (.int .u8) := by kernel_rfl
theorem und3 : Tryz.prog.underlying 3 = some (.int .i64) := by kernel_rfl
theorem und9 : Tryz.prog.underlying 9 = some .string := by kernel_rfl
theorem nagg5 (w : World) : (isAgg 5).run Tryz.prog w = .ok false w := by kernel_rfl
theorem bs_beq (a b : List UInt8) : ((bs a).toList == (bs b).toList) = decide (a = b) := by
  rw [ByteArray.toList_eq, ByteArray.toList_eq]
  show ((a.toArray.toList) == (b.toArray.toList)) = _
  by_cases h : a = b <;> simp [h]
theorem eq_nil {P : Program} {d : Nat} {xs ys : Array Value} (w : World) : (Op.eqFields d xs ys []).run P w = .ok true w := rfl
theorem eq_cons {P : Program} {d : Nat} {xs ys : Array Value} {f : Field} {fs : List Field} {t : TypeId} {o : Nat} {w : World} {va vb : Value} {r k : Bool} (ht : f.type = t) (ho : f.offset = o) (hn : (f.name == "_") = false) (h1 : (part t xs o).run P w = .ok va w) (h2 : (part t ys o).run P w = .ok vb w)
    (h3 : (Op.equalIn d t va vb).run P w = .ok r w) (h4 : (Op.eqFields d xs ys fs).run P w = .ok k w) : (Op.eqFields d xs ys (f :: fs)).run P w = .ok (r && k) w := by
  subst ht; subst ho
  have hn' : f.name ≠ "_" := by simpa using hn
  simp only [Op.eqFields, if_pos hn', Sem.run_bind, h1, h2, h3, Result.andThen_ok]
  cases r with
  | false => rfl
  | true => simpa using h4
theorem part_at {P : Program} {t : TypeId} {xs : Array Value} {o : Nat} {v : Value} {w : World} (hn : (isAgg t).run P w = .ok false w) (h : xs[o]? = some v) : (part t xs o).run P w = .ok v w := by
  simp only [part, Sem.run_bind, hn, Result.andThen_ok, Bool.false_eq_true, if_false, h, Sem.run_pure]
theorem toVal_Ev (e : Ev) : toVal (.agg (Enc.cells e)) = some (.agg #[.int .u8 e.k, .int .u8 e.b]) := rfl
theorem eqFld27 : (Tryz.prog.fieldsOf 27).toList.map (fun f => (f.type, f.offset, f.name == "_")) = [(5, 0, false), (5, 1, false)] := by kernel_rfl
theorem eqIn27 (d : Nat) (a b : Ev) (w : World) : (Op.equalIn (d + 1 + 1) 27 (.agg #[.int .u8 a.k, .int .u8 a.b]) (.agg #[.int .u8 b.k, .int .u8 b.b])).run Tryz.prog w = .ok (decide (a = b)) w := by
  rw [run_equalIn_struct w (d + 1) 27 _ _ (by kernel_rfl) (by kernel_rfl)]
  have hf := eqFld27
  generalize (Tryz.prog.fieldsOf 27).toList = fs at hf
  obtain ⟨f0, fs, rfl⟩ : ∃ f r, fs = f :: r := by cases fs with | nil => simp at hf | cons f r => exact ⟨f, r, rfl⟩
  obtain ⟨f1, fs, rfl⟩ : ∃ f r, fs = f :: r := by cases fs with | nil => simp at hf | cons f r => exact ⟨f, r, rfl⟩
  simp only [List.map_cons, List.cons.injEq, Prod.mk.injEq, List.map_eq_nil_iff] at hf
  obtain ⟨⟨t0, o0, n0⟩, ⟨t1, o1, n1⟩, rfl⟩ := hf
  rw [eq_cons t0 o0 n0 (part_at (nagg5 w) rfl) (part_at (nagg5 w) rfl) (run_equalIn_int w d 5 .u8 .u8 _ _ und5)
    (eq_cons t1 o1 n1 (part_at (nagg5 w) rfl) (part_at (nagg5 w) rfl) (run_equalIn_int w d 5 .u8 .u8 _ _ und5) (eq_nil w))]
  congr 1
  obtain ⟨a1, a2⟩ := a
  obtain ⟨b1, b2⟩ := b
  simp only [Ev.mk.injEq, Bool.and_true]
  by_cases h1 : a1 = b1 <;> by_cases h2 : a2 = b2 <;> simp [h1, h2]
theorem guard27 : Tryz.prog.eqGuardType Tryz.prog.depth 27 = false := by kernel_rfl
theorem rs_eqEv {ρ : Operand → AV} {o : Oper} {x y : Operand} {c} (s t : Ev) (ho : o.op = .binOp .eql 27 x y c) (hx : ρ x = .agg (Enc.cells s)) (hy : ρ y = .agg (Enc.cells t)) : RawRun Tryz.prog ρ o (.raw (.bool (decide (s = t)))) := by
  refine ⟨?_, by rw [ho]; intros; simp, by rw [ho]; intros; simp, .bool (decide (s = t)), fun w => ?_, rfl, rfl⟩
  · rw [ho]; simp [Op.operands, hx, hy, toVal_Ev]
  · have h1 : rawEnv ρ x = .agg #[.int .u8 s.k, .int .u8 s.b] := by rw [rawEnv, hx, toVal_Ev, Option.getD_some]
    have h2 : rawEnv ρ y = .agg #[.int .u8 t.k, .int .u8 t.b] := by rw [rawEnv, hy, toVal_Ev, Option.getD_some]
    have h3 := eqIn27 9998 s t w
    simp [execOp, ho, h1, h2, eqGuard, binOp, Op.equal, Op.maxDepth, program, Sem.run, guard27, h3, Sem.run_bind, Result.andThen]
theorem rs_neqEv {ρ : Operand → AV} {o : Oper} {x y : Operand} {c} (s t : Ev) (ho : o.op = .binOp .neq 27 x y c) (hx : ρ x = .agg (Enc.cells s)) (hy : ρ y = .agg (Enc.cells t)) : RawRun Tryz.prog ρ o (.raw (.bool (decide (s ≠ t)))) := by
  refine ⟨?_, by rw [ho]; intros; simp, by rw [ho]; intros; simp, .bool (decide (s ≠ t)), fun w => ?_, rfl, rfl⟩
  · rw [ho]; simp [Op.operands, hx, hy, toVal_Ev]
  · have h1 : rawEnv ρ x = .agg #[.int .u8 s.k, .int .u8 s.b] := by rw [rawEnv, hx, toVal_Ev, Option.getD_some]
    have h2 : rawEnv ρ y = .agg #[.int .u8 t.k, .int .u8 t.b] := by rw [rawEnv, hy, toVal_Ev, Option.getD_some]
    have h3 := eqIn27 9998 s t w
    simp [execOp, ho, h1, h2, eqGuard, binOp, Op.equal, Op.maxDepth, program, Sem.run, guard27, h3, Sem.run_bind, Result.andThen]
theorem noIterL_ev : ∀ l : List Ev, noIterL (Enc.cellsL l) = true
  | [] => rfl
  | a :: l => by rw [Enc.cons]; exact noIterL_ev l
theorem noIter_e {n : Nat} {xs : List Ev} {st : Room} {l : List AV} (h : noIterL l = true) : noIterL (.list n (Enc.cellsL xs) st :: l) = true := by
  rw [noIterL, noIter, noIterL_ev xs, h]; rfl
def rowE (s : List Ev) : List AV := [.list s.length (Enc.cellsL s) .none]
section
variable {P : Program} {ρ : Operand → AV} {σ : St} {o : Oper}
theorem bs_app (a b : List UInt8) : bs a ++ bs b = bs (a ++ b) := by
  apply ByteArray.ext
  show (bs a ++ bs b).data = _
  rw [ByteArray.data_append]
  simp [bs]
theorem q_streq {t : TypeId} {x y : Operand} {c} {a b : List UInt8} (ho : o.op = .binOp .eql t x y c) (hx : ρ x = .raw (.string (bs a))) (hy : ρ y = .raw (.string (bs b))) : qop P ρ σ o = some (.raw (.bool (a == b))) := by
  have hst : (a == b) = decide (a = b) := by by_cases h : a = b <;> simp [h]
  have h3 : val? P (execOp (rawEnv ρ) o) = some (.value (.bool (a == b))) := by
    rw [hst, ← bs_beq]
    simp [execOp, ho, rawEnv, hx, hy, toVal, eqGuard, binOp, Op.stringOp]
    rfl
  have h1 : o.op.operands.toList.all (fun x => (toVal (ρ x)).isSome) = true := by rw [ho]; simp [Op.operands, hx, hy, toVal]
  have h4 : rawOp P ρ o = some (.raw (.bool (a == b))) := by
    unfold rawOp; rw [if_pos h1, ho, h3]; rfl
  simp only [qop, ho, hx, hy, h4]
theorem q_strne {t : TypeId} {x y : Operand} {c} {a b : List UInt8} (ho : o.op = .binOp .neq t x y c) (hx : ρ x = .raw (.string (bs a))) (hy : ρ y = .raw (.string (bs b))) : qop P ρ σ o = some (.raw (.bool (!(a == b)))) := by
  have hst : (a == b) = decide (a = b) := by by_cases h : a = b <;> simp [h]
  have h3 : val? P (execOp (rawEnv ρ) o) = some (.value (.bool (!(a == b)))) := by
    rw [hst, ← bs_beq]
    simp [execOp, ho, rawEnv, hx, hy, toVal, eqGuard, binOp, Op.stringOp]
    rfl
  have h1 : o.op.operands.toList.all (fun x => (toVal (ρ x)).isSome) = true := by rw [ho]; simp [Op.operands, hx, hy, toVal]
  have h4 : rawOp P ρ o = some (.raw (.bool (!(a == b)))) := by
    unfold rawOp; rw [if_pos h1, ho, h3]; rfl
  simp only [qop, ho, hx, hy, h4]
theorem q_stradd {t : TypeId} {x y : Operand} {c} {a b : List UInt8} (g : a.length + b.length ≤ 9223372036854775807) (ho : o.op = .binOp .add t x y c) (hx : ρ x = .raw (.string (bs a))) (hy : ρ y = .raw (.string (bs b))) : qop P ρ σ o = some (.raw (.string (bs (a ++ b)))) := by
  have hs : ¬ ((((bs a).size + (bs b).size : Nat) : Int) > IntKind.i64.max) := by
    have h1 : (bs a).size = a.length := rfl
    have h2 : (bs b).size = b.length := rfl
    have h3 : IntKind.i64.max = 9223372036854775807 := rfl
    rw [h1, h2, h3]; omega
  have h3 : val? P (execOp (rawEnv ρ) o) = some (.value (.string (bs (a ++ b)))) := by
    rw [← bs_app]
    simp only [execOp, ho, rawEnv, hx, hy, toVal, eqGuard, binOp, Op.stringOp, Option.getD_some]
    simp only [if_neg hs]
    rfl
  have h1 : o.op.operands.toList.all (fun x => (toVal (ρ x)).isSome) = true := by rw [ho]; simp [Op.operands, hx, hy, toVal]
  have h4 : rawOp P ρ o = some (.raw (.string (bs (a ++ b)))) := by
    unfold rawOp; rw [if_pos h1, ho, h3]; rfl
  simp only [qop, ho, hx, hy, h4]
end
end Go.Ab
set_option linter.unusedSimpArgs false
set_option linter.unusedVariables false
set_option maxRecDepth 100000
namespace Go.Ab
open Go Go.RowKit Go.Fwd Go.Proofs
set_option maxHeartbeats 1000000 in
set_option maxRecDepth 100000 in
theorem str_none (b : Nat) (w : World) (h1 : w.cell? ⟨b, 1, none⟩ = some (.slice none 0 0)) :
    Calls Tryz.prog 55 #[.pointer (some ⟨b, 0, none⟩)] w fun e w' => e = .returned (.string ⟨#[]⟩) ∧ w' = w.drew := by
  have c1 : w.drew.cell? ⟨b, 1, none⟩ = some (.slice none 0 0) := h1
  have hSD : (Builtin.unsafeSliceData_ #[28] 131 #[.slice none 0 0]).run Tryz.prog w.drew = .ok (.pointer none) w.drew := Lib.run_unsafeSliceData_nil _ _ _ _ _
  have hUS : (Builtin.unsafeString_ #[131, 3] 9 #[.pointer none, .int .i64 0]).run Tryz.prog w.drew = .ok (.string .empty) w.drew := Lib.run_unsafeString_none _ _ _ _ _
  go_enter Tryz.func55, Tryz.ntmps55
  go_wp2
  go_region
  all_goals (go_wp2; go_ret; exact ⟨rfl, rfl⟩)
def bufA (l : List UInt8) : AV := if l.length = 0 then .raw (.slice none 0 0) else .list l.length (Enc.cellsL l) (.own 0)
def bldC (s : Nat) (u : Bool) (l : List UInt8) : List AV := [bif u then .ptr s 0 else .raw (.pointer none), bufA l]
theorem bufA_cons {l : List UInt8} (h : ¬ l.length = 0) : bufA l = .list l.length (Enc.cellsL l) (.own 0) := by unfold bufA; rw [if_neg h]
theorem byteCells_bs (b : List UInt8) : (byteCells (bs b)).map AV.raw = Enc.cellsL b := by
  simp [byteCells, bs]
  rfl
theorem rd_buf (l : List UInt8) : rd Tryz.prog 28 [bufA l] = some (bufA l) := by
  unfold bufA; split <;> rfl
theorem ok_buf (l : List UInt8) : cellOk (bufA l) = true ∧ cellsOf (bufA l) = [bufA l] := by
  unfold bufA; split <;> exact ⟨rfl, rfl⟩
theorem app_buf {bx : List (TypeId × List AV)} {ρ : Operand → AV} {o : Oper} {x y : Operand} (l b : List UInt8) (g : (l.length + b.length) * 1 ≤ 140737488355328) (ho : o.op = .call ⟨.builtin .append, #[x, y], #[28, 9]⟩) (hx : ρ x = bufA l) (hy : ρ y = .raw (.string (bs b))) :
    AopR Tryz.prog ρ (ownSt bx 5 l.length 1) o (bufA (l ++ b)) (ownSt bx 5 (l ++ b).length 1) := by
  have hmax : 140737488355328 ≤ maxLen := by decide
  have hbs : (bs b).size = b.length := rfl
  have hbc := byteCells_bs b
  by_cases hl : l.length = 0
  · have hl0 := List.length_eq_zero_iff.1 hl
    subst hl0
    refine .inr (.inr (.inl ?_))
    have hn : isNilS (ρ x) = true := by rw [hx]; rfl
    simp only [aopB, ho, hn, if_true]
    rw [hy]
    by_cases hb : b.length = 0
    · have hb0 := List.length_eq_zero_iff.1 hb
      subst hb0
      rfl
    · have h1 : ¬ (bs b).size = 0 := by rw [hbs]; exact hb
      simp only [aAppN, if_neg h1]
      have hc : ([] : List AV).length = 0 * 1 ∧ True ∧ 0 < (bs b).size ∧ True ∧ 0 < 1 ∧ 0 + (bs b).size ≤ maxLen ∧ (0 + (bs b).size) * 1 ≤ 140737488355328 := ⟨rfl, trivial, by rw [hbs]; omega, trivial, by decide, by rw [hbs]; omega, by rw [hbs]; omega⟩
      have hi : ∃ i z, Tryz.prog.info? 5 = some i ∧ i.zero = some z ∧ i.size = 1 ∧ z.cells.size = 1 ∧ i.bytes = 1 := ⟨_, _, rfl, rfl, rfl, rfl, rfl⟩
      obtain ⟨i, z, i1, i2, i3, i4, i5⟩ := hi
      have u1 : Tryz.prog.underlying 28 = some (.slice 5) := by kernel_rfl
      simp only [aAppS, u1, und9, i1, i2, i3, i4, i5]
      rw [if_neg (fun h => h1 h.1), if_pos hc, hbc, bufA_cons (by simpa using hb)]
      simp [ownSt, hb, hbs]
  · by_cases hb : b.length = 0
    · have hb0 := List.length_eq_zero_iff.1 hb
      subst hb0
      refine .inl ?_
      have hq : qop Tryz.prog ρ (ownSt bx 5 l.length 1) o = none := by
        simp only [qop, ho, hx, hy, bufA_cons hl]
        first | done | simp [rawOp, ho, Op.operands, Call.operands, hx, hy, bufA_cons hl, toVal]
      have hi : ∃ i z, Tryz.prog.info? 5 = some i ∧ i.zero = some z ∧ i.size = 1 := ⟨_, _, rfl, rfl, rfl⟩
      obtain ⟨i, z, i1, i2, i3⟩ := hi
      have u1 : Tryz.prog.underlying 28 = some (.slice 5) := by kernel_rfl
      simp only [aop, hq, ho]
      rw [if_neg (by decide), hx, hy, bufA_cons hl]
      simp only [aAppS, u1, und9, i1, i2, i3]
      rw [if_pos ⟨rfl, trivial⟩, List.append_nil, bufA_cons hl]
    · refine .inl ?_
      have hq : qop Tryz.prog ρ (ownSt bx 5 l.length 1) o = none := by
        simp only [qop, ho, hx, hy, bufA_cons hl]
        first | done | simp [rawOp, ho, Op.operands, Call.operands, hx, hy, bufA_cons hl, toVal]
      have hi : ∃ i z, Tryz.prog.info? 5 = some i ∧ i.zero = some z ∧ i.size = 1 ∧ z.cells.size = 1 ∧ i.bytes = 1 := ⟨_, _, rfl, rfl, rfl, rfl, rfl⟩
      obtain ⟨i, z, i1, i2, i3, i4, i5⟩ := hi
      have u1 : Tryz.prog.underlying 28 = some (.slice 5) := by kernel_rfl
      have h1 : ¬ (bs b).size = 0 := by rw [hbs]; exact hb
      have hc : (Enc.cellsL l).length = l.length * 1 ∧ True ∧ 0 < (bs b).size ∧ True ∧ 0 < 1 ∧ l.length + (bs b).size ≤ maxLen ∧ (l.length + (bs b).size) * 1 ≤ 140737488355328 := ⟨Enc.lenL l, trivial, by rw [hbs]; omega, trivial, by decide, by rw [hbs]; omega, by rw [hbs]; omega⟩
      have hlen : (Enc.cellsL l).length = l.length := by rw [hc.1, Nat.mul_one]
      simp only [aop, hq, ho]
      rw [if_neg (by decide), hx, hy, bufA_cons hl]
      simp only [aAppS, u1, und9, i1, i2, i3, i4, i5]
      have hown : (ownSt bx 5 l.length 1).lens[0]? = some (Enc.cellsL l).length ∧ (ownSt bx 5 l.length 1).elems[0]? = some 5 ∧ 0 < l.length := ⟨by simp [ownSt, hl, hlen], by simp [ownSt, hl], by omega⟩
      rw [if_neg (fun h => h1 h.1), if_pos hc, hbc, if_pos hown, bufA_cons (by rw [List.length_append]; omega), Enc.app]
      simp [ownSt, hl, hbs]
section
variable {IT : IterP} {P : Program} {W : Owed} {k0 : Nat}
theorem w_opR {ops : Array Oper} {Q : List AV → St → Prop} {o : Oper} {l : List Oper} {S S' : List AV} {σ σ' : St} {a : AV} (hg : o.guard = none) (hc : acall S o = none) (hy : ayield S o = none) (h : AopR P (aval S) σ o a σ') (hS : aput S o.dst a = S') (k : aops IT P W ops Q l S' σ') : aops IT P W ops Q (o :: l) S σ := by
  simp only [aops, hg, astep, hc, hy]
  exact .inl ⟨a, σ', h, by rw [hS]; exact k⟩
theorem ends_id {P : Program} {n m : Nat} {σ : St} {a : AV} : EndsS P n m σ a a σ := fun X Y v hE _ _ hI hv => ⟨Y, rfl, hE, hI, hv⟩
theorem end_id {P : Program} {fn : Func} {S : List AV} {σ : St} {n m : Nat} {a r : AV} (h : aResults P fn σ S = some a) (hr : a = r) : aendS P fn n m r σ .ret S σ := ⟨a, h, hr ▸ ends_id⟩
end
theorem set_same {α : Type} {l : List α} {s : Nat} {a : α} (h : l[s]? = some a) : l.set s a = l := by
  apply List.ext_getElem?
  intro i
  by_cases e : s = i
  · subst e
    have := (List.getElem?_eq_some_iff.1 h).1
    rw [List.getElem?_set_self this, h]
  · rw [List.getElem?_set_ne e]
theorem cc_snd {bx : List (TypeId × List AV)} {s n : Nat} {u : Bool} {x : AV} (hb : bx[s]? = some (98, [bif u then .ptr s 0 else .raw (.pointer none), x])) : Snd (ITP Tryz.prog) Tryz.prog 80 [.ptr s 0] (ownSt bx 5 n 1) (.tup []) (ownSt (bx.set s (98, [.ptr s 0, x])) 5 n 1) := by
  cases u with
  | false => exact cc_snd1 (σ := ownSt bx 5 n 1) (s := s) (x := x) hb
  | true =>
    have hb' : bx[s]? = some (98, [.ptr s 0, x]) := hb
    rw [set_same hb']
    exact cc_snd2 (σ := ownSt bx 5 n 1) (s := s) (x := x) hb
theorem ent53 : Ent Tryz.prog 53 := enters_of Tryz.func53 (by kernel_rfl) rfl
set_option maxRecDepth 100000 in
set_option maxHeartbeats 4000000 in
theorem bld_write {bx : List (TypeId × List AV)} {s : Nat} {u : Bool} {l b : List UInt8} (g : (l.length + b.length) * 1 ≤ 140737488355328) (hb : bx[s]? = some (98, bldC s u l)) :
    Snd (ITP Tryz.prog) Tryz.prog 53 [.ptr s 0, .raw (.string (bs b))] (ownSt bx 5 l.length 1) (.tup [.raw (.int .i64 b.length), .raw .nilIface]) (ownSt (bx.set s (98, bldC s true (l ++ b))) 5 (l ++ b).length 1) := by
  obtain ⟨d, hd⟩ : ∃ d, Tryz.f53.body = some d := ⟨_, rfl⟩
  refine snd_of mix Tryz.func53 hd ent53 ?_
  cases hd
  have hs : s < bx.length := (List.getElem?_eq_some_iff.1 hb).1
  refine w_start (by dsimp only [abeginS, Tryz.f53, List.length_cons, List.length_nil, Nat.zero_add, Nat.reduceAdd, Nat.reduceSub, List.replicate, List.cons_append, List.nil_append]) rfl ?_
  refine w_seq (w_region ?_)
  refine w_op (a := .raw (.int .i64 0)) rfl rfl rfl rfl (by dsimp only [aput, List.set]) ?_
  refine w_op (a := .raw .nilIface) rfl rfl rfl rfl (by dsimp only [aput, List.set]) ?_
  refine w_seq (w_region ?_)
  refine w_op (a := .ptr s 0) rfl rfl rfl rfl (by dsimp only [aput, List.set]) ?_
  refine w_snd (cc_snd hb) rfl rfl ⟨rfl, rfl⟩ (by dsimp only [aput, List.set]) ?_
  have hb1 : (bx.set s (98, [.ptr s 0, bufA l]))[s]? = some (98, [.ptr s 0, bufA l]) := List.getElem?_set_self hs
  have hfin : (bx.set s (98, [.ptr s 0, bufA l])).set s (98, bldC s true (l ++ b)) = bx.set s (98, bldC s true (l ++ b)) := List.set_set ..
  generalize bx.set s (98, [.ptr s 0, bufA l]) = bx1 at hb1 hfin
  rw [← hfin]
  refine w_seq (w_region ?_)
  refine w_op (a := .ptr s 0) rfl rfl rfl rfl (by dsimp only [aput, List.set]) ?_
  refine w_op (a := .ptr s 0) rfl rfl rfl rfl (by dsimp only [aput, List.set]) ?_
  refine w_op (a := .ptr s 0) rfl rfl rfl rfl (by dsimp only [aput, List.set]) ?_
  refine w_op (a := .ptr s 1) rfl rfl rfl rfl (by dsimp only [aput, List.set]) ?_
  refine w_op rfl rfl rfl (op_load (a := bufA l) (.ptr s 1) rfl rfl (by show (match bx1[s]? with | some bx => rd Tryz.prog 28 (bx.2.drop 1) | none => none) = _; rw [hb1]; exact rd_buf l)) (by dsimp only [aput, List.set]) ?_
  refine w_op (a := .raw (.string (bs b))) rfl rfl rfl rfl (by dsimp only [aput, List.set]) ?_
  refine w_opR rfl rfl rfl (app_buf l b g rfl rfl rfl) (by dsimp only [aput, List.set]) ?_
  refine w_op (a := .ptr s 0) rfl rfl rfl rfl (by dsimp only [aput, List.set]) ?_
  refine w_op (a := .ptr s 1) rfl rfl rfl rfl (by dsimp only [aput, List.set]) ?_
  refine w_opm (σ'' := ownSt (bx1.set s (98, bldC s true (l ++ b))) 5 (l ++ b).length 1) rfl rfl rfl (op_store (n := 1) (v := bufA (l ++ b)) (bx := (98, [.ptr s 0, bufA l])) rfl rfl rfl hb1 rfl ⟨(ok_buf _).1, by rw [(ok_buf _).2]; rfl, Nat.le_refl 2, Nat.one_pos⟩) (by dsimp only [aput, List.set]) (by rw [(ok_buf _).2]; rfl) ?_
  refine w_seq (w_region ?_)
  refine w_op (a := .raw (.string (bs b))) rfl rfl rfl rfl (by dsimp only [aput, List.set]) ?_
  refine w_op (a := .raw (.int .i64 b.length)) rfl rfl rfl (op_q (q_lenS rfl rfl rfl)) (by dsimp only [aput, List.set]) ?_
  refine w_op (a := .raw (.int .i64 b.length)) rfl rfl rfl rfl (by dsimp only [aput, List.set]) ?_
  refine w_op (a := .raw .nilIface) rfl rfl rfl rfl (by dsimp only [aput, List.set]) ?_
  exact end_id rfl rfl
theorem bytesOfA_cells : ∀ l : List UInt8, bytesOfA (Enc.cellsL l) = some l
  | [] => rfl
  | a :: l => by
    show bytesOfA (.raw (.int .u8 ((a.toNat : Nat) : Int)) :: Enc.cellsL l) = _
    have h := a.toNat_lt
    have h1 : (0 : Int) ≤ ((a.toNat : Nat) : Int) ∧ ((a.toNat : Nat) : Int) < 256 := by omega
    rw [bytesOfA, if_pos h1, bytesOfA_cells l]
    simp
theorem bld_string {bx : List (TypeId × List AV)} {s : Nat} {u : Bool} {l : List UInt8} (hb : bx[s]? = some (98, bldC s u l)) : Snd (ITP Tryz.prog) Tryz.prog 55 [.ptr s 0] (ownSt bx 5 l.length 1) (.raw (.string (bs l))) (ownSt bx 5 l.length 1) := by
  by_cases hl : l.length = 0
  · have hl0 := List.length_eq_zero_iff.1 hl
    subst hl0
    refine ⟨ent55, fun X us hI hr => ?_⟩
    obtain ⟨a, l', rfl, ⟨b, hκ, rfl⟩, hl'⟩ := hr
    have hl' : l' = [] := hl'
    subst hl'
    obtain ⟨vs, zs, u1, u2, u3⟩ := hI.box s b 98 _ hκ hb
    obtain ⟨a0, r0, rfl, h0, a1, r1, rfl, hx, h5⟩ := u2
    have h5 : r1 = [] := h5
    subst h5
    have hx : a1 = .slice none 0 0 := hx
    subst hx
    refine (str_none b X.w (by simp [World.cell?, u1])).mono ?_
    rintro e w' ⟨rfl, rfl⟩
    obtain ⟨d1, d2⟩ := inv_drew (itp_mono _) hI
    exact ⟨_, _, rfl, rfl, d1, d2, rfl⟩
  · have hb' : (ownSt bx 5 l.length 1).boxes[s]? = some (98, [bif u then .ptr s 0 else .raw (.pointer none), .list l.length (Enc.cellsL l) (.own 0)]) := by
      rw [← bufA_cons hl]; exact hb
    exact str_snd (s := s) (k := 0) hb' (bytesOfA_cells l) (by simp [ownSt, hl]) (by rw [Enc.lenL]; show l.length * 1 = _; omega) (by omega) (by simp [ownSt, hl])
end Go.Ab

