/-
  Events and chunks as typed values; equality of events.
-/
import Derived.Test.YtblibgbakbhlkaaDoorZuBld
import Derived.Test.YtblibgbakbhlkaaDoorZdStr
set_option linter.unusedSimpArgs false
set_option linter.unusedVariables false
namespace Go.Ab
open Go Go.RowKit Go.Fwd
def subRoom (n : Nat) (i j : Int) (st : Room) : Room := if i.toNat = 0 ∧ j.toNat = n then st else if j.toNat = n ∧ st = .full then .full else .none
theorem sub_lenI {α : Type} (l : List α) {i j : Int} (g : 0 ≤ i ∧ i ≤ j ∧ j ≤ (l.length : Int)) : (sub l i j).length = j.toNat - i.toNat := by
  simp only [sub, List.length_take, List.length_drop]; omega
theorem sub_cells {α : Type} [Enc α] (l : List α) {i j : Int} (g : 0 ≤ i ∧ i ≤ j ∧ j ≤ (l.length : Int)) : ((Enc.cellsL l).drop (i.toNat * Enc.sz α)).take ((j.toNat - i.toNat) * Enc.sz α) = Enc.cellsL (sub l i j) := by
  rw [Enc.drop, Enc.take]; rfl
section
variable {P : Program} {ρ : Operand → AV} {σ : St} {o : Oper}
theorem strip_sub {α : Type} [Enc α] (l : List α) (n : Nat) (st : Room) : strip (.list n (Enc.cellsL l) st) = .list n (Enc.cellsL l) .none := by
  rw [strip, Enc.stripL]
theorem q_sub_H {α : Type} [Enc α] {l : List α} {x y : Operand} {t e : TypeId} {st : Room} {j : Int} (g : 0 ≤ 0 ∧ 0 ≤ j ∧ j ≤ (l.length : Int)) (ho : o.op = .slice t x none (some y) none) (hx : ρ x = .list l.length (Enc.cellsL l) st) (hy : ρ y = .raw (.int .i64 j)) (hu : P.underlying t = some (.slice e)) (hs : sizeT P e = some (Enc.sz α)) :
    qop P ρ σ o = some (.list (sub l 0 j).length (Enc.cellsL (sub l 0 j)) (subRoom l.length 0 j st)) := by
  have hg : (0 : Int) ≤ 0 ∧ 0 ≤ j ∧ j ≤ (l.length : Int) := ⟨Int.le_refl 0, g.2⟩
  have h1 : aSlice P t (ρ x) none (some (ρ y)) none = some (.list (sub l 0 j).length (Enc.cellsL (sub l 0 j)) (subRoom l.length 0 j st)) := by
    have hj := g.2
    rw [sub_lenI l hg, ← sub_cells l hg, hx, hy]
    simp [aSlice, hu, hs, aBounds, aBound, Enc.lenL, subRoom, hj]
  simp only [qop, ho, Option.map, h1]
theorem q_conv64 {x : Operand} {s t : TypeId} {k : IntKind} {n : Int} (g : -9223372036854775808 ≤ n ∧ n < 9223372036854775808) (ho : o.op = .convert s t x) (hx : ρ x = .raw (.int k n)) (hs : val? P (Next.value <$> convert s t (.int k n)) = some (.value (.int .i64 (IntKind.i64.wrap n)))) : qop P ρ σ o = some (.raw (.int .i64 n)) := by
  have h := wrap_i64 g.1 g.2
  rw [h] at hs
  simp [qop, rawOp, ho, Op.operands, hx, toVal, execOp, rawEnv, hs, aBytesStr]
  exact ⟨rfl, rfl⟩
theorem u8sOf_cells : ∀ l : List UInt8, u8sOf (Enc.cellsL l) = some l
  | [] => rfl
  | a :: l => by
    show u8sOf (.raw (.int .u8 ((a.toNat : Nat) : Int)) :: Enc.cellsL l) = _
    have h := a.toNat_lt
    simp [u8sOf, u8sOf_cells l]
    omega
theorem q_bstr {l : List UInt8} {x : Operand} {s t e : TypeId} {st : Room} (ho : o.op = .convert s t x) (hx : ρ x = .list l.length (Enc.cellsL l) st) (hs : P.underlying s = some (.slice e) ∧ P.underlying e = some (.int .u8)) (ht : P.underlying t = some .string) : qop P ρ σ o = some (.raw (.string (bs l))) := by
  have h : aBytesStr P s t (ρ x) = some (.raw (.string (bs l))) := by
    rw [hx]
    simp only [aBytesStr, hs.1, hs.2, ht, u8sOf_cells, if_true]
    rfl
  simp only [qop, ho, h]
theorem op_storeO {t : TypeId} {x y : Operand} {s off n : Nat} {cs : List AV} {bx : TypeId × List AV} (ho : o.op = .store t x y) (hx : ρ x = .ptr s off) (hy : ρ y = ownAV n cs) (hb : σ.boxes[s]? = some bx) (hn : sizeT P t = some 1) (hl : off + 1 ≤ bx.2.length) :
    aop P ρ σ o = some (.raw undef, { σ with boxes := σ.boxes.set s (bx.1, bx.2.take off ++ [ownAV n cs] ++ bx.2.drop (off + 1)) }) := by
  have h1 : cellsOf (ownAV n cs) = [ownAV n cs] := by unfold ownAV; split <;> rfl
  have h2 : cellOk (ownAV n cs) = true := by unfold ownAV; split <;> rfl
  rw [op_store (n := 1) ho hx hy hb hn ⟨h2, by rw [h1]; rfl, hl, by decide⟩, h1]
end
section
variable {P : Program} {ρ : Operand → AV} {σ : St} {o : Oper}
theorem q_subL_ {α : Type} [Enc α] {l : List α} {x y : Operand} {t e : TypeId} {st : Room} {i : Int} (g : 0 ≤ i ∧ i ≤ (l.length : Int) ∧ (l.length : Int) ≤ (l.length : Int)) (ho : o.op = .slice t x (some y) none none) (hx : ρ x = .list l.length (Enc.cellsL l) st) (hy : ρ y = .raw (.int .i64 i)) (hu : P.underlying t = some (.slice e)) (hs : sizeT P e = some (Enc.sz α)) :
    qop P ρ σ o = some (.list (sub l i l.length).length (Enc.cellsL (sub l i l.length)) (subRoom l.length i l.length st)) := by
  have h1 : aSlice P t (ρ x) (some (ρ y)) none none = some (.list (sub l i l.length).length (Enc.cellsL (sub l i l.length)) (subRoom l.length i l.length st)) := by
    have hj := g.1
    have hk := g.2.1
    rw [sub_lenI l g, ← sub_cells l g, hx, hy]
    simp [aSlice, hu, hs, aBounds, aBound, Enc.lenL, subRoom, hj, hk]
  simp only [qop, ho, Option.map, h1]
end
end Go.Ab
set_option linter.unusedSimpArgs false
set_option linter.unusedVariables false
namespace Go.Ab
open Go Go.RowKit Go.Fwd Go.Proofs
structure QSet where
  deriving DecidableEq
def cellsQS : List AV := [.raw (.int .u64 17179869184), .raw (.int .u64 0), .raw (.int .u64 0), .raw (.int .u64 0)]
instance : Enc QSet where
  inh := ⟨⟩
  cells _ := cellsQS
  cellsL l := l.flatMap fun _ => cellsQS
  sz := 4
  pos := by decide
  nil := rfl
  cons _ _ := rfl
  len _ := rfl
  clo _ := rfl
def hexD (n : Nat) : UInt8 := if n < 10 then (48 + n).toUInt8 else (87 + n).toUInt8
def byteP (c : UInt8) : List UInt8 :=
  if c = 10 then [92, 110] else if c = 13 then [92, 114] else if c = 9 then [92, 116]
  else if c < 32 ∨ 126 < c then [92, 120, hexD (c.toNat / 16), hexD (c.toNat % 16)]
  else if c = 92 ∨ c = 34 then [92, c] else [c]
def nibP (c : UInt8) : Int :=
  if 48 ≤ c ∧ c ≤ 57 then (c.toNat : Int) - 48 else if 65 ≤ c ∧ c ≤ 70 then (c.toNat : Int) - 55 else if 97 ≤ c ∧ c ≤ 102 then (c.toNat : Int) - 87 else 16
def isMarkP (c : UInt8) : Bool := decide (c = 34)
noncomputable def run1 (f : Nat) (args : List AV) (r : AV) : Bool := match ecallP Tryd.prog libP (ev Tryd.prog libP bldS 40) f args with
  | some a => eqAV a r
  | none => false
theorem run1_ok {f : Nat} {args : List AV} {r : AV} (h : run1 f args r = true) : Pure (ITP Tryd.prog) Tryd.prog f args r := by
  unfold run1 at h
  split at h
  · rename_i a ha
    have := run_pure_call goodT 40 ha
    rw [eqAV_ok _ _ h] at this
    exact this
  · cases h
theorem all256 {p : UInt8 → Prop} {q : Nat → Bool} (h : ((List.range 256).all q) = true) (hp : ∀ n : Nat, n < 256 → q n = true → p n.toUInt8) (c : UInt8) : p c := by
  have hc : c.toNat < 256 := c.toNat_lt
  have := hp c.toNat hc (List.all_eq_true.1 h c.toNat (List.mem_range.2 hc))
  simpa using this
set_option maxRecDepth 100000 in
theorem byte_tab : ((List.range 256).all fun n => run1 53 [.raw (.int .u8 (n : Int)), .agg cellsQS] (.raw (.string (bs (byteP n.toUInt8))))) = true := by kernel_rfl
set_option maxRecDepth 100000 in
theorem nib_tab : ((List.range 256).all fun n => run1 72 [.raw (.int .u8 (n : Int))] (.raw (.int .i64 (nibP n.toUInt8)))) = true := by kernel_rfl
set_option maxRecDepth 100000 in
theorem mark_tab : ((List.range 256).all fun n => run1 65 [.agg cellsQS, .raw (.int .u8 (n : Int))] (.raw (.bool (isMarkP n.toUInt8)))) = true := by kernel_rfl
theorem u8_nat {n : Nat} (h : n < 256) : ((n.toUInt8.toNat : Nat) : Int) = (n : Int) := by simp; omega
theorem byte_pure (c : UInt8) : Pure (ITP Tryd.prog) Tryd.prog 53 [.raw (.int .u8 ((c.toNat : Nat) : Int)), .agg cellsQS] (.raw (.string (bs (byteP c)))) :=
  all256 (p := fun c => Pure (ITP Tryd.prog) Tryd.prog 53 [.raw (.int .u8 ((c.toNat : Nat) : Int)), .agg cellsQS] (.raw (.string (bs (byteP c))))) byte_tab (fun n hn h => by rw [u8_nat hn]; exact run1_ok h) c
theorem nib_pure (c : UInt8) : Pure (ITP Tryd.prog) Tryd.prog 72 [.raw (.int .u8 ((c.toNat : Nat) : Int))] (.raw (.int .i64 (nibP c))) :=
  all256 (p := fun c => Pure (ITP Tryd.prog) Tryd.prog 72 [.raw (.int .u8 ((c.toNat : Nat) : Int))] (.raw (.int .i64 (nibP c)))) nib_tab (fun n hn h => by rw [u8_nat hn]; exact run1_ok h) c
theorem mark_pure (c : UInt8) : Pure (ITP Tryd.prog) Tryd.prog 65 [.agg cellsQS, .raw (.int .u8 ((c.toNat : Nat) : Int))] (.raw (.bool (isMarkP c))) :=
  all256 (p := fun c => Pure (ITP Tryd.prog) Tryd.prog 65 [.agg cellsQS, .raw (.int .u8 ((c.toNat : Nat) : Int))] (.raw (.bool (isMarkP c)))) mark_tab (fun n hn h => by rw [u8_nat hn]; exact run1_ok h) c
theorem of_pure : Pure (ITP Tryd.prog) Tryd.prog 39 [.list 1 [.raw (.int .u8 34)] .none] (.agg cellsQS) := run1_ok (by kernel_rfl)
end Go.Ab
set_option linter.unusedSimpArgs false
set_option linter.unusedVariables false
set_option maxRecDepth 100000
namespace Go.Ab
open Go Go.RowKit Go.Fwd Go.Proofs
theorem ixb_pure (l : List UInt8) (c : UInt8) : Pure (ITP Tryd.prog) Tryd.prog 64 [.raw (.string (bs l)), .raw (.int .u8 ((c.toNat : Nat) : Int))] (.raw (.int .i64 (Lib.indexByte l c))) := by
  have h := ixb79 (bs l) ((c.toNat : Nat) : Int)
  rwa [show ((c.toNat : Nat) : Int).toNat.toUInt8 = c by simp] at h
theorem itoa_pure (n : Int) (h : -9223372036854775808 ≤ n ∧ n < 9223372036854775808) : Pure (ITP Tryd.prog) Tryd.prog 25 [.raw (.int .i64 n)] (.raw (.string (bs (Lib.itoa n)))) := itoa51 n h
theorem cut_pure (l p : List UInt8) (h : l.length < 4294967281) : Pure (ITP Tryd.prog) Tryd.prog 46 [.raw (.string (bs l)), .raw (.string (bs p))] (.tup [.raw (.string (bs (Lib.cut l p).1)), .raw (.string (bs (Lib.cut l p).2.1)), .raw (.bool (Lib.cut l p).2.2)]) := cut37 (bs l) (bs p) h
def atoiP (l : List UInt8) : Int := match Lib.atoiAll l with
  | .ok v => v
  | Go.Lib.NumEnd.syntax => 0
  | .range => Lib.atoiSat l
section
variable {P : Program} {ρ : Operand → AV} {σ : St} {o : Oper}
theorem q_lenS {x : Operand} {t : TypeId} {l : List UInt8} (ho : o.op = .call ⟨.builtin .len, #[x], #[t]⟩) (hx : ρ x = .raw (.string (bs l))) (hu : P.underlying t = some .string) : qop P ρ σ o = some (.raw (.int .i64 (l.length : Int))) := by
  have h2 : aLen P t (.raw (.string (bs l))) = none := rfl
  have h1 : o.op.operands.toList.all (fun x => (toVal (ρ x)).isSome) = true := by rw [ho]; simp [Op.operands, Call.operands, hx, toVal]
  have h3 : val? P (execOp (rawEnv ρ) o) = some (.value (.int .i64 (l.length : Int))) := by
    have hsz : (bs l).size = l.length := rfl
    simp [execOp, ho, resolve, invoke, rawEnv, hx, toVal, builtin, Builtin.len_, underlying, goInt, hsz]
    simp only [program, Bind.bind, Pure.pure, Functor.map, Sem.bind, val?, hu, hsz]
    rfl
  have h4 : rawOp P ρ o = some (.raw (.int .i64 (l.length : Int))) := by
    unfold rawOp; rw [if_pos h1, ho, h3]; rfl
  simp only [qop, ho, hx, h2, h4]
theorem q_bstrO {l : List UInt8} {x : Operand} {s t e : TypeId} (ho : o.op = .convert s t x) (hx : ρ x = ownAV l.length (Enc.cellsL l)) (hs : P.underlying s = some (.slice e) ∧ P.underlying e = some (.int .u8)) (ht : P.underlying t = some .string) : qop P ρ σ o = some (.raw (.string (bs l))) := by
  have h : aBytesStr P s t (ρ x) = some (.raw (.string (bs l))) := by
    rw [hx]
    unfold ownAV
    split
    · rename_i h0
      have := List.length_eq_zero_iff.1 h0
      subst this
      simp only [aBytesStr, hs.1, hs.2, ht]
      rfl
    · simp only [aBytesStr, hs.1, hs.2, ht, u8sOf_cells, if_true]
      rfl
  simp only [qop, ho, h]
end
def u8of (e : Int) : UInt8 := UInt8.ofNat e.toNat
theorem u8c {e : Int} (g : 0 ≤ e ∧ e < 256) : ((u8of e).toNat : Int) = e := by
  unfold u8of
  have h : e.toNat < 256 := by omega
  rw [show (UInt8.ofNat e.toNat).toNat = e.toNat by simp; omega]
  omega
section
variable {IT : IterP} {P : Program} {W : Owed}
end
end Go.Ab
set_option linter.unusedSimpArgs false
set_option linter.unusedVariables false
namespace Go.Ab
open Go Go.RowKit Go.Fwd Go.Proofs
structure Ev where
  k : Int
  b : Int
  deriving DecidableEq
structure Ck where
  k : Int
  l : List UInt8
  deriving DecidableEq
def cellsEv (e : Ev) : List AV := [.raw (.int .u8 e.k), .raw (.int .u8 e.b)]
instance : Enc Ev where
  inh := ⟨0, 0⟩
  cells := cellsEv
  cellsL l := l.flatMap cellsEv
  sz := 2
  pos := by decide
  nil := rfl
  cons _ _ := rfl
  len _ := rfl
  clo _ := rfl
def cellsCk (t : Ck) : List AV := [.raw (.int .u8 t.k), .list t.l.length (Enc.cellsL t.l) .none]
theorem clo_cellsCk (t : Ck) : cloL (cellsCk t) = true := by
  show (_ && (clo (.list _ (Enc.cellsL t.l) .none) && _)) = true
  simp only [clo, Enc.cloL t.l, cloL]
  rfl
instance : Enc Ck where
  inh := ⟨0, []⟩
  cells := cellsCk
  cellsL l := l.flatMap cellsCk
  sz := 2
  pos := by decide
  nil := rfl
  cons _ _ := rfl
  len _ := rfl
  clo := clo_cellsCk
theorem und5 : Tryd.prog.underlying 5 = some (.int .u8) := by kernel_rfl
theorem und9 : Tryd.prog.underlying 9 = some .string := by kernel_rfl
theorem nagg5 (w : World) : (isAgg 5).run Tryd.prog w = .ok false w := by kernel_rfl
theorem bs_beq (a b : List UInt8) : ((bs a).toList == (bs b).toList) = decide (a = b) := by
  rw [ByteArray.toList_eq, ByteArray.toList_eq]
  show ((a.toArray.toList) == (b.toArray.toList)) = _
  by_cases h : a = b <;> simp [h]
theorem eq_nil {P : Program} {d : Nat} {xs ys : Array Value} (w : World) : (Op.eqFields d xs ys []).run P w = .ok true w := rfl
theorem eq_cons {P : Program} {d : Nat} {xs ys : Array Value} {f : Field} {fs : List Field} {t : TypeId} {o : Nat} {w : World} {va vb : Value} {r k : Bool} (ht : f.type = t) (ho : f.offset = o) (hn : (f.name == "_") = false) (h1 : (part t xs o).run P w = .ok va w) (h2 : (part t ys o).run P w = .ok vb w)
    (h3 : (Op.equalIn d t va vb).run P w = .ok r w) (h4 : (Op.eqFields d xs ys fs).run P w = .ok k w) : (Op.eqFields d xs ys (f :: fs)).run P w = .ok (r && k) w := by
  subst ht; subst ho
  have hn' : f.name ≠ "_" := by simpa using hn
  simp only [Op.eqFields, if_pos hn', Sem.run_bind, h1, h2, h3, Result.andThen_ok]
  cases r with
  | false => rfl
  | true => simpa using h4
theorem part_at {P : Program} {t : TypeId} {xs : Array Value} {o : Nat} {v : Value} {w : World} (hn : (isAgg t).run P w = .ok false w) (h : xs[o]? = some v) : (part t xs o).run P w = .ok v w := by
  simp only [part, Sem.run_bind, hn, Result.andThen_ok, Bool.false_eq_true, if_false, h, Sem.run_pure]
theorem toVal_Ev (e : Ev) : toVal (.agg (Enc.cells e)) = some (.agg #[.int .u8 e.k, .int .u8 e.b]) := rfl
theorem eqFld32 : (Tryd.prog.fieldsOf 32).toList.map (fun f => (f.type, f.offset, f.name == "_")) = [(5, 0, false), (5, 1, false)] := by kernel_rfl
theorem eqIn32 (d : Nat) (a b : Ev) (w : World) : (Op.equalIn (d + 1 + 1) 32 (.agg #[.int .u8 a.k, .int .u8 a.b]) (.agg #[.int .u8 b.k, .int .u8 b.b])).run Tryd.prog w = .ok (decide (a = b)) w := by
  rw [run_equalIn_struct w (d + 1) 32 _ _ (by kernel_rfl) (by kernel_rfl)]
  have hf := eqFld32
  generalize (Tryd.prog.fieldsOf 32).toList = fs at hf
  obtain ⟨f0, fs, rfl⟩ : ∃ f r, fs = f :: r := by cases fs with | nil => simp at hf | cons f r => exact ⟨f, r, rfl⟩
  obtain ⟨f1, fs, rfl⟩ : ∃ f r, fs = f :: r := by cases fs with | nil => simp at hf | cons f r => exact ⟨f, r, rfl⟩
  simp only [List.map_cons, List.cons.injEq, Prod.mk.injEq, List.map_eq_nil_iff] at hf
  obtain ⟨⟨t0, o0, n0⟩, ⟨t1, o1, n1⟩, rfl⟩ := hf
  rw [eq_cons t0 o0 n0 (part_at (nagg5 w) rfl) (part_at (nagg5 w) rfl) (run_equalIn_int w d 5 .u8 .u8 _ _ und5)
    (eq_cons t1 o1 n1 (part_at (nagg5 w) rfl) (part_at (nagg5 w) rfl) (run_equalIn_int w d 5 .u8 .u8 _ _ und5) (eq_nil w))]
  congr 1
  obtain ⟨a1, a2⟩ := a
  obtain ⟨b1, b2⟩ := b
  simp only [Ev.mk.injEq, Bool.and_true]
  by_cases h1 : a1 = b1 <;> by_cases h2 : a2 = b2 <;> simp [h1, h2]
theorem guard32 : Tryd.prog.eqGuardType Tryd.prog.depth 32 = false := by kernel_rfl
theorem rs_eqEv {ρ : Operand → AV} {o : Oper} {x y : Operand} {c} (s t : Ev) (ho : o.op = .binOp .eql 32 x y c) (hx : ρ x = .agg (Enc.cells s)) (hy : ρ y = .agg (Enc.cells t)) : RawRun Tryd.prog ρ o (.raw (.bool (decide (s = t)))) := by
  refine ⟨?_, by rw [ho]; intros; simp, by rw [ho]; intros; simp, .bool (decide (s = t)), fun w => ?_, rfl, rfl⟩
  · rw [ho]; simp [Op.operands, hx, hy, toVal_Ev]
  · have h1 : rawEnv ρ x = .agg #[.int .u8 s.k, .int .u8 s.b] := by rw [rawEnv, hx, toVal_Ev, Option.getD_some]
    have h2 : rawEnv ρ y = .agg #[.int .u8 t.k, .int .u8 t.b] := by rw [rawEnv, hy, toVal_Ev, Option.getD_some]
    have h3 := eqIn32 9998 s t w
    simp [execOp, ho, h1, h2, eqGuard, binOp, Op.equal, Op.maxDepth, program, Sem.run, guard32, h3, Sem.run_bind, Result.andThen]
theorem rs_neqEv {ρ : Operand → AV} {o : Oper} {x y : Operand} {c} (s t : Ev) (ho : o.op = .binOp .neq 32 x y c) (hx : ρ x = .agg (Enc.cells s)) (hy : ρ y = .agg (Enc.cells t)) : RawRun Tryd.prog ρ o (.raw (.bool (decide (s ≠ t)))) := by
  refine ⟨?_, by rw [ho]; intros; simp, by rw [ho]; intros; simp, .bool (decide (s ≠ t)), fun w => ?_, rfl, rfl⟩
  · rw [ho]; simp [Op.operands, hx, hy, toVal_Ev]
  · have h1 : rawEnv ρ x = .agg #[.int .u8 s.k, .int .u8 s.b] := by rw [rawEnv, hx, toVal_Ev, Option.getD_some]
    have h2 : rawEnv ρ y = .agg #[.int .u8 t.k, .int .u8 t.b] := by rw [rawEnv, hy, toVal_Ev, Option.getD_some]
    have h3 := eqIn32 9998 s t w
    simp [execOp, ho, h1, h2, eqGuard, binOp, Op.equal, Op.maxDepth, program, Sem.run, guard32, h3, Sem.run_bind, Result.andThen]
theorem noIterL_ev : ∀ l : List Ev, noIterL (Enc.cellsL l) = true
  | [] => rfl
  | a :: l => by rw [Enc.cons]; exact noIterL_ev l
theorem noIter_e {n : Nat} {xs : List Ev} {st : Room} {l : List AV} (h : noIterL l = true) : noIterL (.list n (Enc.cellsL xs) st :: l) = true := by
  rw [noIterL, noIter, noIterL_ev xs, h]; rfl
def rowE (s : List Ev) : List AV := [.list s.length (Enc.cellsL s) .none]
section
variable {P : Program} {ρ : Operand → AV} {σ : St} {o : Oper}
theorem bs_app (a b : List UInt8) : bs a ++ bs b = bs (a ++ b) := by
  apply ByteArray.ext
  show (bs a ++ bs b).data = _
  rw [ByteArray.data_append]
  simp [bs]
theorem q_streq {t : TypeId} {x y : Operand} {c} {a b : List UInt8} (ho : o.op = .binOp .eql t x y c) (hx : ρ x = .raw (.string (bs a))) (hy : ρ y = .raw (.string (bs b))) : qop P ρ σ o = some (.raw (.bool (a == b))) := by
  have hst : (a == b) = decide (a = b) := by by_cases h : a = b <;> simp [h]
  have h3 : val? P (execOp (rawEnv ρ) o) = some (.value (.bool (a == b))) := by
    rw [hst, ← bs_beq]
    simp [execOp, ho, rawEnv, hx, hy, toVal, eqGuard, binOp, Op.stringOp]
    rfl
  have h1 : o.op.operands.toList.all (fun x => (toVal (ρ x)).isSome) = true := by rw [ho]; simp [Op.operands, hx, hy, toVal]
  have h4 : rawOp P ρ o = some (.raw (.bool (a == b))) := by
    unfold rawOp; rw [if_pos h1, ho, h3]; rfl
  simp only [qop, ho, hx, hy, h4]
theorem q_strne {t : TypeId} {x y : Operand} {c} {a b : List UInt8} (ho : o.op = .binOp .neq t x y c) (hx : ρ x = .raw (.string (bs a))) (hy : ρ y = .raw (.string (bs b))) : qop P ρ σ o = some (.raw (.bool (!(a == b)))) := by
  have hst : (a == b) = decide (a = b) := by by_cases h : a = b <;> simp [h]
  have h3 : val? P (execOp (rawEnv ρ) o) = some (.value (.bool (!(a == b)))) := by
    rw [hst, ← bs_beq]
    simp [execOp, ho, rawEnv, hx, hy, toVal, eqGuard, binOp, Op.stringOp]
    rfl
  have h1 : o.op.operands.toList.all (fun x => (toVal (ρ x)).isSome) = true := by rw [ho]; simp [Op.operands, hx, hy, toVal]
  have h4 : rawOp P ρ o = some (.raw (.bool (!(a == b)))) := by
    unfold rawOp; rw [if_pos h1, ho, h3]; rfl
  simp only [qop, ho, hx, hy, h4]
theorem q_stradd {t : TypeId} {x y : Operand} {c} {a b : List UInt8} (g : a.length + b.length ≤ 9223372036854775807) (ho : o.op = .binOp .add t x y c) (hx : ρ x = .raw (.string (bs a))) (hy : ρ y = .raw (.string (bs b))) : qop P ρ σ o = some (.raw (.string (bs (a ++ b)))) := by
  have hs : ¬ ((((bs a).size + (bs b).size : Nat) : Int) > IntKind.i64.max) := by
    have h1 : (bs a).size = a.length := rfl
    have h2 : (bs b).size = b.length := rfl
    have h3 : IntKind.i64.max = 9223372036854775807 := rfl
    rw [h1, h2, h3]; omega
  have h3 : val? P (execOp (rawEnv ρ) o) = some (.value (.string (bs (a ++ b)))) := by
    rw [← bs_app]
    simp only [execOp, ho, rawEnv, hx, hy, toVal, eqGuard, binOp, Op.stringOp, Option.getD_some]
    simp only [if_neg hs]
    rfl
  have h1 : o.op.operands.toList.all (fun x => (toVal (ρ x)).isSome) = true := by rw [ho]; simp [Op.operands, hx, hy, toVal]
  have h4 : rawOp P ρ o = some (.raw (.string (bs (a ++ b)))) := by
    unfold rawOp; rw [if_pos h1, ho, h3]; rfl
  simp only [qop, ho, hx, hy, h4]
end
end Go.Ab

