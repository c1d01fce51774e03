/-
  Contracts of package strings and strconv over lists of bytes; kinds of entries.
-/
import Derived.Test.YtblibgbakbhlkaaDoorZuQs
import Derived.Test.YtblibgbakbhlkaaDoorZuBld
set_option linter.unusedSimpArgs false
set_option linter.unusedVariables false
namespace Go.Ab
open Go Go.RowKit Go.Fwd
section
variable {P : Program} {ρ : Operand → AV} {σ : St} {o : Oper}
theorem bs_get (l : List UInt8) (i : Nat) : (bs l)[i]? = l[i]? := by
  simp only [bs]
  by_cases h : i < l.length
  · rw [List.getElem?_eq_getElem h]
    have h2 : i < (ByteArray.mk l.toArray).size := h
    rw [getElem?_pos (ByteArray.mk l.toArray) i h2]
    rfl
  · rw [List.getElem?_eq_none (by omega)]
    have h2 : ¬ i < (ByteArray.mk l.toArray).size := h
    rw [getElem?_neg (ByteArray.mk l.toArray) i h2]
theorem bs_extract (l : List UInt8) (i j : Nat) : (bs l).extract i j = bs ((l.drop i).take (j - i)) := by
  apply ByteArray.ext
  rw [ByteArray.data_extract]
  simp [bs, List.extract_eq_take_drop]
theorem raw_val {v : Value} (h1 : o.op.operands.toList.all (fun x => (toVal (ρ x)).isSome) = true) (h2 : ∀ cs b, o.op ≠ .select cs b) (h3 : val? P (execOp (rawEnv ρ) o) = some (.value v)) (h4 : okVal v = true) : rawOp P ρ o = some (ofVal v) := by
  unfold rawOp
  rw [if_pos h1]
  split
  · rename_i cs b ho; exact absurd ho (h2 cs b)
  · rw [h3]; simp only [h4, if_true]
theorem q_sidx {t : TypeId} {x i : Operand} {l : List UInt8} {k : IntKind} {n : Int} (g : 0 ≤ n ∧ n < l.length) (ho : o.op = .index t x i) (hx : ρ x = .raw (.string (bs l))) (hi : ρ i = .raw (.int k n)) (hu : P.underlying t = some .string) :
    qop P ρ σ o = some (.raw (.int .u8 (((ix l n).toNat : Nat) : Int))) := by
  have hn : n.toNat < l.length := by omega
  have h3 : val? P (execOp (rawEnv ρ) o) = some (.value (.int .u8 (((ix l n).toNat : Nat) : Int))) := by
    have hg : (bs l)[n.toNat]? = some (ix l n) := by
      rw [bs_get, List.getElem?_eq_getElem hn]; simp [ix, hn]
    simp only [execOp, ho, rawEnv, hx, hi, toVal, Option.getD_some, Instr.index, asIntOf, underlying]
    simp only [program, Bind.bind, Pure.pure, Functor.map, Sem.bind, val?, hu, if_pos g.1, hg]
  have h1 : o.op.operands.toList.all (fun x => (toVal (ρ x)).isSome) = true := by rw [ho]; simp [Op.operands, hx, hi, toVal]
  have h4 := raw_val h1 (by rw [ho]; intros; simp) h3 rfl
  simp only [qop, ho, hx, hi, h4]
  first | rfl | (simp; rfl)
theorem q_sslL_ {t : TypeId} {x y : Operand} {l : List UInt8} {i : Int} (g : 0 ≤ i ∧ i ≤ (l.length : Int) ∧ (l.length : Int) ≤ (l.length : Int)) (ho : o.op = .slice t x (some y) none none) (hx : ρ x = .raw (.string (bs l))) (hy : ρ y = .raw (.int .i64 i)) (hu : P.underlying t = some .string) :
    qop P ρ σ o = some (.raw (.string (bs (sub l i l.length)))) := by
  have hsz : (bs l).size = l.length := rfl
  have c2 : 0 ≤ i ∧ i ≤ ((bs l).size : Int) := by rw [hsz]; omega
  have h3 : val? P (execOp (rawEnv ρ) o) = some (.value (.string (bs (sub l i l.length)))) := by
    have he : sub l i l.length = (l.drop i.toNat).take (l.length - i.toNat) := rfl
    rw [he, ← bs_extract]
    simp only [execOp, ho, rawEnv, hx, hy, toVal, Option.getD_some, Option.map_some, Option.map_none, Instr.sliceAt, Instr.slice, Instr.sliceBounds, Instr.sliceBound, asIntOf, underlying]
    simp [program, Bind.bind, Pure.pure, Functor.map, Sem.bind, val?, hu, if_pos c2]
    try rfl
  have h1 : o.op.operands.toList.all (fun x => (toVal (ρ x)).isSome) = true := by rw [ho]; simp [Op.operands, hx, hy, toVal]
  have h4 := raw_val h1 (by rw [ho]; intros; simp) h3 rfl
  simp only [qop, ho, hx, hy, h4, Option.map_some, Option.map_none, aSlice, hu]
  try rfl
theorem q_ssl_H {t : TypeId} {x z : Operand} {l : List UInt8} {j : Int} (g : 0 ≤ 0 ∧ 0 ≤ j ∧ j ≤ (l.length : Int)) (ho : o.op = .slice t x none (some z) none) (hx : ρ x = .raw (.string (bs l))) (hz : ρ z = .raw (.int .i64 j)) (hu : P.underlying t = some .string) :
    qop P ρ σ o = some (.raw (.string (bs (sub l 0 j)))) := by
  have hsz : (bs l).size = l.length := rfl
  have c1 : 0 ≤ j ∧ j ≤ ((bs l).size : Int) := by rw [hsz]; omega
  have h3 : val? P (execOp (rawEnv ρ) o) = some (.value (.string (bs (sub l 0 j)))) := by
    have he : sub l 0 j = (l.drop 0).take (j.toNat - 0) := rfl
    rw [he, ← bs_extract]
    simp only [execOp, ho, rawEnv, hx, hz, toVal, Option.getD_some, Option.map_some, Option.map_none, Instr.sliceAt, Instr.slice, Instr.sliceBounds, Instr.sliceBound, asIntOf, underlying]
    simp [program, Bind.bind, Pure.pure, Functor.map, Sem.bind, val?, hu, if_pos c1]
    try rfl
  have h1 : o.op.operands.toList.all (fun x => (toVal (ρ x)).isSome) = true := by rw [ho]; simp [Op.operands, hx, hz, toVal]
  have h4 := raw_val h1 (by rw [ho]; intros; simp) h3 rfl
  simp only [qop, ho, hx, hz, h4, Option.map_some, Option.map_none, aSlice, hu]
  try rfl
end
end Go.Ab
set_option linter.unusedSimpArgs false
set_option linter.unusedVariables false
namespace Go.Ab
open Go Go.RowKit Go.Fwd Go.Proofs
structure QSet where
  deriving DecidableEq
def cellsQS : List AV := [.raw (.int .u64 17179869184), .raw (.int .u64 0), .raw (.int .u64 0), .raw (.int .u64 0)]
instance : Enc QSet where
  inh := ⟨⟩
  cells _ := cellsQS
  cellsL l := l.flatMap fun _ => cellsQS
  sz := 4
  pos := by decide
  nil := rfl
  cons _ _ := rfl
  len _ := rfl
  clo _ := rfl
def hexD (n : Nat) : UInt8 := if n < 10 then (48 + n).toUInt8 else (87 + n).toUInt8
def byteP (c : UInt8) : List UInt8 :=
  if c = 10 then [92, 110] else if c = 13 then [92, 114] else if c = 9 then [92, 116]
  else if c < 32 ∨ 126 < c then [92, 120, hexD (c.toNat / 16), hexD (c.toNat % 16)]
  else if c = 92 ∨ c = 34 then [92, c] else [c]
def nibP (c : UInt8) : Int :=
  if 48 ≤ c ∧ c ≤ 57 then (c.toNat : Int) - 48 else if 65 ≤ c ∧ c ≤ 70 then (c.toNat : Int) - 55 else if 97 ≤ c ∧ c ≤ 102 then (c.toNat : Int) - 87 else 16
def isMarkP (c : UInt8) : Bool := decide (c = 34)
noncomputable def run1 (f : Nat) (args : List AV) (r : AV) : Bool := match ecallP Tryd.prog libP (ev Tryd.prog libP bldS 40) f args with
  | some a => eqAV a r
  | none => false
theorem run1_ok {f : Nat} {args : List AV} {r : AV} (h : run1 f args r = true) : Pure (ITP Tryd.prog) Tryd.prog f args r := by
  unfold run1 at h
  split at h
  · rename_i a ha
    have := run_pure_call goodT 40 ha
    rw [eqAV_ok _ _ h] at this
    exact this
  · cases h
theorem all256 {p : UInt8 → Prop} {q : Nat → Bool} (h : ((List.range 256).all q) = true) (hp : ∀ n : Nat, n < 256 → q n = true → p n.toUInt8) (c : UInt8) : p c := by
  have hc : c.toNat < 256 := c.toNat_lt
  have := hp c.toNat hc (List.all_eq_true.1 h c.toNat (List.mem_range.2 hc))
  simpa using this
set_option maxRecDepth 100000 in
theorem byte_tab : ((List.range 256).all fun n => run1 53 [.raw (.int .u8 (n : Int)), .agg cellsQS] (.raw (.string (bs (byteP n.toUInt8))))) = true := by kernel_rfl
set_option maxRecDepth 100000 in
theorem nib_tab : ((List.range 256).all fun n => run1 72 [.raw (.int .u8 (n : Int))] (.raw (.int .i64 (nibP n.toUInt8)))) = true := by kernel_rfl
set_option maxRecDepth 100000 in
theorem mark_tab : ((List.range 256).all fun n => run1 65 [.agg cellsQS, .raw (.int .u8 (n : Int))] (.raw (.bool (isMarkP n.toUInt8)))) = true := by kernel_rfl
theorem u8_nat {n : Nat} (h : n < 256) : ((n.toUInt8.toNat : Nat) : Int) = (n : Int) := by simp; omega
theorem byte_pure (c : UInt8) : Pure (ITP Tryd.prog) Tryd.prog 53 [.raw (.int .u8 ((c.toNat : Nat) : Int)), .agg cellsQS] (.raw (.string (bs (byteP c)))) :=
  all256 (p := fun c => Pure (ITP Tryd.prog) Tryd.prog 53 [.raw (.int .u8 ((c.toNat : Nat) : Int)), .agg cellsQS] (.raw (.string (bs (byteP c))))) byte_tab (fun n hn h => by rw [u8_nat hn]; exact run1_ok h) c
theorem nib_pure (c : UInt8) : Pure (ITP Tryd.prog) Tryd.prog 72 [.raw (.int .u8 ((c.toNat : Nat) : Int))] (.raw (.int .i64 (nibP c))) :=
  all256 (p := fun c => Pure (ITP Tryd.prog) Tryd.prog 72 [.raw (.int .u8 ((c.toNat : Nat) : Int))] (.raw (.int .i64 (nibP c)))) nib_tab (fun n hn h => by rw [u8_nat hn]; exact run1_ok h) c
theorem mark_pure (c : UInt8) : Pure (ITP Tryd.prog) Tryd.prog 65 [.agg cellsQS, .raw (.int .u8 ((c.toNat : Nat) : Int))] (.raw (.bool (isMarkP c))) :=
  all256 (p := fun c => Pure (ITP Tryd.prog) Tryd.prog 65 [.agg cellsQS, .raw (.int .u8 ((c.toNat : Nat) : Int))] (.raw (.bool (isMarkP c)))) mark_tab (fun n hn h => by rw [u8_nat hn]; exact run1_ok h) c
theorem of_pure : Pure (ITP Tryd.prog) Tryd.prog 39 [.list 1 [.raw (.int .u8 34)] .none] (.agg cellsQS) := run1_ok (by kernel_rfl)
end Go.Ab
set_option linter.unusedSimpArgs false
set_option linter.unusedVariables false
set_option maxRecDepth 100000
namespace Go.Ab
open Go Go.RowKit Go.Fwd Go.Proofs
theorem ixb_pure (l : List UInt8) (c : UInt8) : Pure (ITP Tryd.prog) Tryd.prog 64 [.raw (.string (bs l)), .raw (.int .u8 ((c.toNat : Nat) : Int))] (.raw (.int .i64 (Lib.indexByte l c))) := by
  have h := ixb79 (bs l) ((c.toNat : Nat) : Int)
  rwa [show ((c.toNat : Nat) : Int).toNat.toUInt8 = c by simp] at h
theorem itoa_pure (n : Int) (h : -9223372036854775808 ≤ n ∧ n < 9223372036854775808) : Pure (ITP Tryd.prog) Tryd.prog 25 [.raw (.int .i64 n)] (.raw (.string (bs (Lib.itoa n)))) := itoa51 n h
theorem cut_pure (l p : List UInt8) (h : l.length < 4294967281) : Pure (ITP Tryd.prog) Tryd.prog 46 [.raw (.string (bs l)), .raw (.string (bs p))] (.tup [.raw (.string (bs (Lib.cut l p).1)), .raw (.string (bs (Lib.cut l p).2.1)), .raw (.bool (Lib.cut l p).2.2)]) := cut37 (bs l) (bs p) h
def atoiP (l : List UInt8) : Int := match Lib.atoiAll l with
  | .ok v => v
  | Go.Lib.NumEnd.syntax => 0
  | .range => Lib.atoiSat l
section
variable {P : Program} {ρ : Operand → AV} {σ : St} {o : Oper}
theorem q_lenS {x : Operand} {t : TypeId} {l : List UInt8} (ho : o.op = .call ⟨.builtin .len, #[x], #[t]⟩) (hx : ρ x = .raw (.string (bs l))) (hu : P.underlying t = some .string) : qop P ρ σ o = some (.raw (.int .i64 (l.length : Int))) := by
  have h2 : aLen P t (.raw (.string (bs l))) = none := rfl
  have h1 : o.op.operands.toList.all (fun x => (toVal (ρ x)).isSome) = true := by rw [ho]; simp [Op.operands, Call.operands, hx, toVal]
  have h3 : val? P (execOp (rawEnv ρ) o) = some (.value (.int .i64 (l.length : Int))) := by
    have hsz : (bs l).size = l.length := rfl
    simp [execOp, ho, resolve, invoke, rawEnv, hx, toVal, builtin, Builtin.len_, underlying, goInt, hsz]
    simp only [program, Bind.bind, Pure.pure, Functor.map, Sem.bind, val?, hu, hsz]
    rfl
  have h4 : rawOp P ρ o = some (.raw (.int .i64 (l.length : Int))) := by
    unfold rawOp; rw [if_pos h1, ho, h3]; rfl
  simp only [qop, ho, hx, h2, h4]
theorem q_bstrO {l : List UInt8} {x : Operand} {s t e : TypeId} (ho : o.op = .convert s t x) (hx : ρ x = ownAV l.length (Enc.cellsL l)) (hs : P.underlying s = some (.slice e) ∧ P.underlying e = some (.int .u8)) (ht : P.underlying t = some .string) : qop P ρ σ o = some (.raw (.string (bs l))) := by
  have h : aBytesStr P s t (ρ x) = some (.raw (.string (bs l))) := by
    rw [hx]
    unfold ownAV
    split
    · rename_i h0
      have := List.length_eq_zero_iff.1 h0
      subst this
      simp only [aBytesStr, hs.1, hs.2, ht]
      rfl
    · simp only [aBytesStr, hs.1, hs.2, ht, u8sOf_cells, if_true]
      rfl
  simp only [qop, ho, h]
end
def u8of (e : Int) : UInt8 := UInt8.ofNat e.toNat
theorem u8c {e : Int} (g : 0 ≤ e ∧ e < 256) : ((u8of e).toNat : Int) = e := by
  unfold u8of
  have h : e.toNat < 256 := by omega
  rw [show (UInt8.ofNat e.toNat).toNat = e.toNat by simp; omega]
  omega
section
variable {IT : IterP} {P : Program} {W : Owed}
end
end Go.Ab

