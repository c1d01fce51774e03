/-
  trace: slices.Clone of entries: a new list, or a box.
-/
import Derived.Test.YtcdmdnadilafhaaDoorZtEn
import Derived.Test.YtcdmdnadilafhaaDoorZdZ
set_option linter.unusedSimpArgs false
set_option linter.unusedVariables false
namespace Go.Ab
open Go Go.RowKit Go.Fwd Go.Proofs
theorem eqFld91 : (Tryd.prog.fieldsOf 91).toList.map (fun f => (f.type, f.offset, f.name == "_")) = [(5, 0, false), (3, 1, false), (3, 2, false), (9, 3, false)] := by kernel_rfl
theorem eqIn91 (d : Nat) (a b : En) (w : World) : (Op.equalIn (d + 1 + 1) 91 (.agg #[.int .u8 a.k, .int .i64 a.fr, .int .i64 a.to, .string (bs a.b)]) (.agg #[.int .u8 b.k, .int .i64 b.fr, .int .i64 b.to, .string (bs b.b)])).run Tryd.prog w = .ok (decide (a = b)) w := by
  rw [run_equalIn_struct w (d + 1) 91 _ _ (by kernel_rfl) (by kernel_rfl)]
  have hf := eqFld91
  generalize (Tryd.prog.fieldsOf 91).toList = fs at hf
  obtain ⟨f0, fs, rfl⟩ : ∃ f r, fs = f :: r := by cases fs with | nil => simp at hf | cons f r => exact ⟨f, r, rfl⟩
  obtain ⟨f1, fs, rfl⟩ : ∃ f r, fs = f :: r := by cases fs with | nil => simp at hf | cons f r => exact ⟨f, r, rfl⟩
  obtain ⟨f2, fs, rfl⟩ : ∃ f r, fs = f :: r := by cases fs with | nil => simp at hf | cons f r => exact ⟨f, r, rfl⟩
  obtain ⟨f3, fs, rfl⟩ : ∃ f r, fs = f :: r := by cases fs with | nil => simp at hf | cons f r => exact ⟨f, r, rfl⟩
  simp only [List.map_cons, List.cons.injEq, Prod.mk.injEq, List.map_eq_nil_iff] at hf
  obtain ⟨⟨t0, o0, n0⟩, ⟨t1, o1, n1⟩, ⟨t2, o2, n2⟩, ⟨t3, o3, n3⟩, rfl⟩ := hf
  rw [eq_cons t0 o0 n0 (part_at (nagg5 w) rfl) (part_at (nagg5 w) rfl) (run_equalIn_int w d 5 .u8 .u8 _ _ und5)
    (eq_cons t1 o1 n1 (part_at (nagg3 w) rfl) (part_at (nagg3 w) rfl) (run_equalIn_int w d 3 .i64 .i64 _ _ und3)
    (eq_cons t2 o2 n2 (part_at (nagg3 w) rfl) (part_at (nagg3 w) rfl) (run_equalIn_int w d 3 .i64 .i64 _ _ und3)
    (eq_cons t3 o3 n3 (part_at (nagg9 w) rfl) (part_at (nagg9 w) rfl) (run_equalIn_string w d 9 _ _ und9) (eq_nil w))))]
  congr 1
  rw [bs_beq]
  obtain ⟨a1, a2, a3, a4⟩ := a
  obtain ⟨b1, b2, b3, b4⟩ := b
  simp only [En.mk.injEq, Bool.and_true]
  by_cases h1 : a1 = b1 <;> by_cases h2 : a2 = b2 <;> by_cases h3 : a3 = b3 <;> by_cases h4 : a4 = b4 <;> simp [h1, h2, h3, h4]
theorem guard91 : Tryd.prog.eqGuardType Tryd.prog.depth 91 = false := by kernel_rfl
theorem rs_eqEn91 {ρ : Operand → AV} {o : Oper} {x y : Operand} {c} (s t : En) (ho : o.op = .binOp .eql 91 x y c) (hx : ρ x = .agg (Enc.cells s)) (hy : ρ y = .agg (Enc.cells t)) : RawRun Tryd.prog ρ o (.raw (.bool (decide (s = t)))) := by
  refine ⟨?_, by rw [ho]; intros; simp, by rw [ho]; intros; simp, .bool (decide (s = t)), fun w => ?_, rfl, rfl⟩
  · rw [ho]; simp [Op.operands, hx, hy, toVal_En]
  · have h1 : rawEnv ρ x = .agg #[.int .u8 s.k, .int .i64 s.fr, .int .i64 s.to, .string (bs s.b)] := by rw [rawEnv, hx, toVal_En, Option.getD_some]
    have h2 : rawEnv ρ y = .agg #[.int .u8 t.k, .int .i64 t.fr, .int .i64 t.to, .string (bs t.b)] := by rw [rawEnv, hy, toVal_En, Option.getD_some]
    have h3 := eqIn91 9998 s t w
    simp [execOp, ho, h1, h2, eqGuard, binOp, Op.equal, Op.maxDepth, program, Sem.run, guard91, h3, Sem.run_bind, Result.andThen]
theorem rs_neqEn91 {ρ : Operand → AV} {o : Oper} {x y : Operand} {c} (s t : En) (ho : o.op = .binOp .neq 91 x y c) (hx : ρ x = .agg (Enc.cells s)) (hy : ρ y = .agg (Enc.cells t)) : RawRun Tryd.prog ρ o (.raw (.bool (decide (s ≠ t)))) := by
  refine ⟨?_, by rw [ho]; intros; simp, by rw [ho]; intros; simp, .bool (decide (s ≠ t)), fun w => ?_, rfl, rfl⟩
  · rw [ho]; simp [Op.operands, hx, hy, toVal_En]
  · have h1 : rawEnv ρ x = .agg #[.int .u8 s.k, .int .i64 s.fr, .int .i64 s.to, .string (bs s.b)] := by rw [rawEnv, hx, toVal_En, Option.getD_some]
    have h2 : rawEnv ρ y = .agg #[.int .u8 t.k, .int .i64 t.fr, .int .i64 t.to, .string (bs t.b)] := by rw [rawEnv, hy, toVal_En, Option.getD_some]
    have h3 := eqIn91 9998 s t w
    simp [execOp, ho, h1, h2, eqGuard, binOp, Op.equal, Op.maxDepth, program, Sem.run, guard91, h3, Sem.run_bind, Result.andThen]
theorem eqFld56 : (Tryd.prog.fieldsOf 56).toList.map (fun f => (f.type, f.offset, f.name == "_")) = [(5, 0, false), (3, 1, false)] := by kernel_rfl
theorem eqIn56 (d : Nat) (a b : Ed) (w : World) : (Op.equalIn (d + 1 + 1) 56 (.agg #[.int .u8 a.k, .int .i64 a.c]) (.agg #[.int .u8 b.k, .int .i64 b.c])).run Tryd.prog w = .ok (decide (a = b)) w := by
  rw [run_equalIn_struct w (d + 1) 56 _ _ (by kernel_rfl) (by kernel_rfl)]
  have hf := eqFld56
  generalize (Tryd.prog.fieldsOf 56).toList = fs at hf
  obtain ⟨f0, fs, rfl⟩ : ∃ f r, fs = f :: r := by cases fs with | nil => simp at hf | cons f r => exact ⟨f, r, rfl⟩
  obtain ⟨f1, fs, rfl⟩ : ∃ f r, fs = f :: r := by cases fs with | nil => simp at hf | cons f r => exact ⟨f, r, rfl⟩
  simp only [List.map_cons, List.cons.injEq, Prod.mk.injEq, List.map_eq_nil_iff] at hf
  obtain ⟨⟨t0, o0, n0⟩, ⟨t1, o1, n1⟩, rfl⟩ := hf
  rw [eq_cons t0 o0 n0 (part_at (nagg5 w) rfl) (part_at (nagg5 w) rfl) (run_equalIn_int w d 5 .u8 .u8 _ _ und5)
    (eq_cons t1 o1 n1 (part_at (nagg3 w) rfl) (part_at (nagg3 w) rfl) (run_equalIn_int w d 3 .i64 .i64 _ _ und3) (eq_nil w))]
  congr 1
  obtain ⟨a1, a2⟩ := a
  obtain ⟨b1, b2⟩ := b
  simp only [Ed.mk.injEq, Bool.and_true]
  by_cases h1 : a1 = b1 <;> by_cases h2 : a2 = b2 <;> simp [h1, h2]
theorem guard56 : Tryd.prog.eqGuardType Tryd.prog.depth 56 = false := by kernel_rfl
theorem rs_neqEd56 {ρ : Operand → AV} {o : Oper} {x y : Operand} {c} (s t : Ed) (ho : o.op = .binOp .neq 56 x y c) (hx : ρ x = .agg (Enc.cells s)) (hy : ρ y = .agg (Enc.cells t)) : RawRun Tryd.prog ρ o (.raw (.bool (decide (s ≠ t)))) := by
  refine ⟨?_, by rw [ho]; intros; simp, by rw [ho]; intros; simp, .bool (decide (s ≠ t)), fun w => ?_, rfl, rfl⟩
  · rw [ho]; simp [Op.operands, hx, hy, toVal_Ed]
  · have h1 : rawEnv ρ x = .agg #[.int .u8 s.k, .int .i64 s.c] := by rw [rawEnv, hx, toVal_Ed, Option.getD_some]
    have h2 : rawEnv ρ y = .agg #[.int .u8 t.k, .int .i64 t.c] := by rw [rawEnv, hy, toVal_Ed, Option.getD_some]
    have h3 := eqIn56 9998 s t w
    simp [execOp, ho, h1, h2, eqGuard, binOp, Op.equal, Op.maxDepth, program, Sem.run, guard56, h3, Sem.run_bind, Result.andThen]
section
variable {P : Program} {ρ : Operand → AV} {σ : St} {o : Oper}
theorem bs_app (a b : List UInt8) : bs a ++ bs b = bs (a ++ b) := by
  apply ByteArray.ext
  show (bs a ++ bs b).data = _
  rw [ByteArray.data_append]
  simp [bs]
theorem q_streq {t : TypeId} {x y : Operand} {c} {a b : List UInt8} (ho : o.op = .binOp .eql t x y c) (hx : ρ x = .raw (.string (bs a))) (hy : ρ y = .raw (.string (bs b))) : qop P ρ σ o = some (.raw (.bool (a == b))) := by
  have hst : (a == b) = decide (a = b) := by by_cases h : a = b <;> simp [h]
  have h3 : val? P (execOp (rawEnv ρ) o) = some (.value (.bool (a == b))) := by
    rw [hst, ← bs_beq]
    simp [execOp, ho, rawEnv, hx, hy, toVal, eqGuard, binOp, Op.stringOp]
    rfl
  have h1 : o.op.operands.toList.all (fun x => (toVal (ρ x)).isSome) = true := by rw [ho]; simp [Op.operands, hx, hy, toVal]
  have h4 : rawOp P ρ o = some (.raw (.bool (a == b))) := by
    unfold rawOp; rw [if_pos h1, ho, h3]; rfl
  simp only [qop, ho, hx, hy, h4]
theorem q_strne {t : TypeId} {x y : Operand} {c} {a b : List UInt8} (ho : o.op = .binOp .neq t x y c) (hx : ρ x = .raw (.string (bs a))) (hy : ρ y = .raw (.string (bs b))) : qop P ρ σ o = some (.raw (.bool (!(a == b)))) := by
  have hst : (a == b) = decide (a = b) := by by_cases h : a = b <;> simp [h]
  have h3 : val? P (execOp (rawEnv ρ) o) = some (.value (.bool (!(a == b)))) := by
    rw [hst, ← bs_beq]
    simp [execOp, ho, rawEnv, hx, hy, toVal, eqGuard, binOp, Op.stringOp]
    rfl
  have h1 : o.op.operands.toList.all (fun x => (toVal (ρ x)).isSome) = true := by rw [ho]; simp [Op.operands, hx, hy, toVal]
  have h4 : rawOp P ρ o = some (.raw (.bool (!(a == b)))) := by
    unfold rawOp; rw [if_pos h1, ho, h3]; rfl
  simp only [qop, ho, hx, hy, h4]
theorem q_stradd {t : TypeId} {x y : Operand} {c} {a b : List UInt8} (g : a.length + b.length ≤ 9223372036854775807) (ho : o.op = .binOp .add t x y c) (hx : ρ x = .raw (.string (bs a))) (hy : ρ y = .raw (.string (bs b))) : qop P ρ σ o = some (.raw (.string (bs (a ++ b)))) := by
  have hs : ¬ ((((bs a).size + (bs b).size : Nat) : Int) > IntKind.i64.max) := by
    have h1 : (bs a).size = a.length := rfl
    have h2 : (bs b).size = b.length := rfl
    have h3 : IntKind.i64.max = 9223372036854775807 := rfl
    rw [h1, h2, h3]; omega
  have h3 : val? P (execOp (rawEnv ρ) o) = some (.value (.string (bs (a ++ b)))) := by
    rw [← bs_app]
    simp only [execOp, ho, rawEnv, hx, hy, toVal, eqGuard, binOp, Op.stringOp, Option.getD_some]
    simp only [if_neg hs]
    rfl
  have h1 : o.op.operands.toList.all (fun x => (toVal (ρ x)).isSome) = true := by rw [ho]; simp [Op.operands, hx, hy, toVal]
  have h4 : rawOp P ρ o = some (.raw (.string (bs (a ++ b)))) := by
    unfold rawOp; rw [if_pos h1, ho, h3]; rfl
  simp only [qop, ho, hx, hy, h4]
end
end Go.Ab
set_option linter.unusedSimpArgs false
set_option linter.unusedVariables false
namespace Go.Ab
open Go Go.RowKit Go.Fwd Go.Proofs
theorem ent19 : Ent Tryd.prog 19 := enters_of Tryd.func19 (by kernel_rfl) rfl
set_option maxRecDepth 100000 in
set_option maxHeartbeats 4000000 in
theorem clone_pure (l : List En) (g : l.length * 40 ≤ 140737488355328) : Pure (ITP Tryd.prog) Tryd.prog 19 [.list l.length (Enc.cellsL l) .none] (.list l.length (Enc.cellsL l) .none) := by
  obtain ⟨d, hd⟩ : ∃ d, Tryd.f19.body = some d := ⟨_, rfl⟩
  refine pure_of mix Tryd.func19 hd ent19 ?_
  cases hd
  refine w_start (by dsimp only [abeginS, Tryd.f19, List.length_cons, List.length_nil, Nat.zero_add, Nat.reduceAdd, Nat.reduceSub, List.replicate, List.cons_append, List.nil_append]) (by dsimp only [St.empty]) ?_
  refine w_seq (w_region ?_)
  refine w_op (a := .list 0 [] .full) rfl rfl rfl rfl (by dsimp only [aput, List.set]) ?_
  refine w_seq ?_
  refine w_seq (w_region ?_)
  refine w_op (a := .list l.length (Enc.cellsL l) .none) rfl rfl rfl rfl (by dsimp only [aput, List.set]) ?_
  refine w_nil l.length false rfl rfl rfl ⟨_, _, _, _, _, rfl, .inl ⟨rfl, rfl⟩, rfl, .inl ⟨_, _, rfl⟩⟩ (by dsimp only [aput, List.set]) (by dsimp only [aput, List.set]) (fun h1 => ?_) ?_
  · obtain rfl := List.length_eq_zero_iff.1 h1
    refine w_true rfl ?_
    refine w_seq (w_region ?_)
    refine w_op (a := .list 0 [] .full) rfl rfl rfl rfl (by dsimp only [aput, List.set]) ?_
    exact end_pure rfl rfl rfl
  · refine w_false rfl ?_
    refine w_seq (w_region ?_)
    by_cases h0 : l = []
    · subst h0
      refine w_op (a := .list 0 [] .full) rfl rfl rfl rfl (by dsimp only [aput, List.set]) ?_
      refine w_op (a := .list 0 [] .none) rfl rfl rfl rfl (by dsimp only [aput, List.set]) ?_
      refine w_op (a := .list 0 [] .full) rfl rfl rfl rfl (by dsimp only [aput, List.set]) ?_
      refine w_op (a := .list 0 [] .full) rfl rfl rfl rfl (by dsimp only [aput, List.set]) ?_
      exact end_pure rfl rfl rfl
    · have hp := List.length_pos_iff.2 h0
      refine w_op (a := .list 0 [] .full) rfl rfl rfl rfl (by dsimp only [aput, List.set]) ?_
      refine w_op (a := .list l.length (Enc.cellsL l) .none) rfl rfl rfl rfl (by dsimp only [aput, List.set]) ?_
      refine w_opB rfl rfl rfl (opB_list rfl rfl rfl rfl rfl rfl rfl rfl rfl (aSrc_list ⟨rfl, Enc.lenL l, by decide⟩) ⟨by decide, rfl, hp⟩ ⟨rfl, by unfold maxLen; omega, by show (0 + l.length) * 40 ≤ _; omega⟩) (by dsimp only [aput, List.set]) rfl ?_
      refine w_op rfl rfl rfl rfl (by dsimp only [aput, List.set, aval, List.getElem?_cons_zero, List.getElem?_cons_succ, Option.getD]) ?_
      refine end_frz 1 rfl ?_
      exact frz_bsl (α := En) (t := 43) (l := l) (Nat.zero_add _).symm rfl
set_option maxRecDepth 100000 in
set_option maxHeartbeats 4000000 in
theorem clone_cons0 (l : List En) (h0 : 0 < l.length) (g : l.length * 40 ≤ 140737488355328) : Snd (ITP Tryd.prog) Tryd.prog 19 [.list l.length (Enc.cellsL l) .none] St.empty (.bsl 0 0 l.length 4 false) ⟨[(43, Enc.cellsL l)], [], [], 0, false⟩ := by
  obtain ⟨d, hd⟩ : ∃ d, Tryd.f19.body = some d := ⟨_, rfl⟩
  refine snd_of mix Tryd.func19 hd ent19 ?_
  cases hd
  refine w_start (by dsimp only [abeginS, Tryd.f19, List.length_cons, List.length_nil, Nat.zero_add, Nat.reduceAdd, Nat.reduceSub, List.replicate, List.cons_append, List.nil_append]) (by dsimp only [St.empty]) ?_
  refine w_seq (w_region ?_)
  refine w_op (a := .list 0 [] .full) rfl rfl rfl rfl (by dsimp only [aput, List.set]) ?_
  refine w_seq ?_
  refine w_seq (w_region ?_)
  refine w_op (a := .list l.length (Enc.cellsL l) .none) rfl rfl rfl rfl (by dsimp only [aput, List.set]) ?_
  refine w_nil l.length false rfl rfl rfl ⟨_, _, _, _, _, rfl, .inl ⟨rfl, rfl⟩, rfl, .inl ⟨_, _, rfl⟩⟩ (by dsimp only [aput, List.set]) (by dsimp only [aput, List.set]) (fun h1 => ?_) ?_
  · exact absurd h1 (by omega)
  · refine w_false rfl ?_
    refine w_seq (w_region ?_)
    refine w_op (a := .list 0 [] .full) rfl rfl rfl rfl (by dsimp only [aput, List.set]) ?_
    refine w_op (a := .list l.length (Enc.cellsL l) .none) rfl rfl rfl rfl (by dsimp only [aput, List.set]) ?_
    refine w_opB rfl rfl rfl (opB_list rfl rfl rfl rfl rfl rfl rfl rfl rfl (aSrc_list ⟨rfl, Enc.lenL l, by decide⟩) ⟨by decide, rfl, h0⟩ ⟨rfl, by unfold maxLen; omega, by show (0 + l.length) * 40 ≤ _; omega⟩) (by dsimp only [aput, List.set]) rfl ?_
    refine w_op rfl rfl rfl rfl (by dsimp only [aput, List.set, aval, List.getElem?_cons_zero, List.getElem?_cons_succ, Option.getD]) ?_
    refine end_keep (n := 0) (m := 0) [] [0] 0 rfl rfl ?_ ?_
    · show AV.bsl 0 0 (0 + l.length) 4 false = _; rw [Nat.zero_add]
    · simp [keepSt, keepBoxes, mapKL_clo _ _ _ (Enc.cloL l), St.empty]
theorem clone_cons (l : List En) (h0 : 0 < l.length) (g : l.length * 40 ≤ 140737488355328) (n : Nat) (σ : St) (hσ : σ.boxes.length = n) : Snd (ITP Tryd.prog) Tryd.prog 19 [.list l.length (Enc.cellsL l) .none] σ (.bsl n 0 l.length 4 false) { σ with boxes := σ.boxes ++ [(43, Enc.cellsL l)] } := by
  subst hσ
  have h := snd_lift (itp_mono _) (clone_cons0 l h0 g) (args := [.list l.length (Enc.cellsL l) .none]) (by rw [stripL, strip, Enc.stripL]; rfl) (by rw [okTrimL, okTrim, okTrimL_clo _ _ (Enc.cloL l)]; rfl) σ
  simpa [mapK, shz, shBoxes, mapKL_clo _ _ _ (Enc.cloL l)] using h
end Go.Ab
