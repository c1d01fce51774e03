/-
  Contracts of package strings and strconv over lists of bytes; kinds of entries.
-/
import Derived.Test.YtcdmdnadilafhaaDoorZtW8
import Derived.Test.YtcdmdnadilafhaaDoorZtNm
import Derived.Test.YtcdmdnadilafhaaDoorZtQs
set_option linter.unusedSimpArgs false
set_option linter.unusedVariables false
namespace Go.Ab
open Go Go.RowKit Go.Fwd
section
variable {P : Program} {ρ : Operand → AV} {σ : St} {o : Oper}
theorem bs_get (l : List UInt8) (i : Nat) : (bs l)[i]? = l[i]? := by
  simp only [bs]
  by_cases h : i < l.length
  · rw [List.getElem?_eq_getElem h]
    have h2 : i < (ByteArray.mk l.toArray).size := h
    rw [getElem?_pos (ByteArray.mk l.toArray) i h2]
    rfl
  · rw [List.getElem?_eq_none (by omega)]
    have h2 : ¬ i < (ByteArray.mk l.toArray).size := h
    rw [getElem?_neg (ByteArray.mk l.toArray) i h2]
theorem raw_val {v : Value} (h1 : o.op.operands.toList.all (fun x => (toVal (ρ x)).isSome) = true) (h2 : ∀ cs b, o.op ≠ .select cs b) (h3 : val? P (execOp (rawEnv ρ) o) = some (.value v)) (h4 : okVal v = true) : rawOp P ρ o = some (ofVal v) := by
  unfold rawOp
  rw [if_pos h1]
  split
  · rename_i cs b ho; exact absurd ho (h2 cs b)
  · rw [h3]; simp only [h4, if_true]
theorem q_sidx {t : TypeId} {x i : Operand} {l : List UInt8} {k : IntKind} {n : Int} (g : 0 ≤ n ∧ n < l.length) (ho : o.op = .index t x i) (hx : ρ x = .raw (.string (bs l))) (hi : ρ i = .raw (.int k n)) (hu : P.underlying t = some .string) :
    qop P ρ σ o = some (.raw (.int .u8 (((ix l n).toNat : Nat) : Int))) := by
  have hn : n.toNat < l.length := by omega
  have h3 : val? P (execOp (rawEnv ρ) o) = some (.value (.int .u8 (((ix l n).toNat : Nat) : Int))) := by
    have hg : (bs l)[n.toNat]? = some (ix l n) := by
      rw [bs_get, List.getElem?_eq_getElem hn]; simp [ix, hn]
    simp only [execOp, ho, rawEnv, hx, hi, toVal, Option.getD_some, Instr.index, asIntOf, underlying]
    simp only [program, Bind.bind, Pure.pure, Functor.map, Sem.bind, val?, hu, if_pos g.1, hg]
  have h1 : o.op.operands.toList.all (fun x => (toVal (ρ x)).isSome) = true := by rw [ho]; simp [Op.operands, hx, hi, toVal]
  have h4 := raw_val h1 (by rw [ho]; intros; simp) h3 rfl
  simp only [qop, ho, hx, hi, h4]
  first | rfl | (simp; rfl)
end
end Go.Ab
set_option linter.unusedSimpArgs false
set_option linter.unusedVariables false
namespace Go.Ab
open Go Go.RowKit Go.Fwd Go.Proofs
structure QSet where
  deriving DecidableEq
def cellsQS : List AV := [.raw (.int .u64 17179869184), .raw (.int .u64 0), .raw (.int .u64 0), .raw (.int .u64 0)]
instance : Enc QSet where
  inh := ⟨⟩
  cells _ := cellsQS
  cellsL l := l.flatMap fun _ => cellsQS
  sz := 4
  pos := by decide
  nil := rfl
  cons _ _ := rfl
  len _ := rfl
  clo _ := rfl
def hexD (n : Nat) : UInt8 := if n < 10 then (48 + n).toUInt8 else (87 + n).toUInt8
def byteP (c : UInt8) : List UInt8 :=
  if c = 10 then [92, 110] else if c = 13 then [92, 114] else if c = 9 then [92, 116]
  else if c < 32 ∨ 126 < c then [92, 120, hexD (c.toNat / 16), hexD (c.toNat % 16)]
  else if c = 92 ∨ c = 34 then [92, c] else [c]
noncomputable def run1 (f : Nat) (args : List AV) (r : AV) : Bool := match ecallP Tryd.prog libP (ev Tryd.prog libP bldS 40) f args with
  | some a => eqAV a r
  | none => false
theorem run1_ok {f : Nat} {args : List AV} {r : AV} (h : run1 f args r = true) : Pure (ITP Tryd.prog) Tryd.prog f args r := by
  unfold run1 at h
  split at h
  · rename_i a ha
    have := run_pure_call goodT 40 ha
    rw [eqAV_ok _ _ h] at this
    exact this
  · cases h
theorem all256 {p : UInt8 → Prop} {q : Nat → Bool} (h : ((List.range 256).all q) = true) (hp : ∀ n : Nat, n < 256 → q n = true → p n.toUInt8) (c : UInt8) : p c := by
  have hc : c.toNat < 256 := c.toNat_lt
  have := hp c.toNat hc (List.all_eq_true.1 h c.toNat (List.mem_range.2 hc))
  simpa using this
set_option maxRecDepth 100000 in
theorem byte_tab : ((List.range 256).all fun n => run1 81 [.raw (.int .u8 (n : Int)), .agg cellsQS] (.raw (.string (bs (byteP n.toUInt8))))) = true := by kernel_rfl
theorem u8_nat {n : Nat} (h : n < 256) : ((n.toUInt8.toNat : Nat) : Int) = (n : Int) := by simp; omega
theorem byte_pure (c : UInt8) : Pure (ITP Tryd.prog) Tryd.prog 81 [.raw (.int .u8 ((c.toNat : Nat) : Int)), .agg cellsQS] (.raw (.string (bs (byteP c)))) :=
  all256 (p := fun c => Pure (ITP Tryd.prog) Tryd.prog 81 [.raw (.int .u8 ((c.toNat : Nat) : Int)), .agg cellsQS] (.raw (.string (bs (byteP c))))) byte_tab (fun n hn h => by rw [u8_nat hn]; exact run1_ok h) c
theorem of_pure : Pure (ITP Tryd.prog) Tryd.prog 65 [.list 1 [.raw (.int .u8 34)] .none] (.agg cellsQS) := run1_ok (by kernel_rfl)
end Go.Ab
set_option linter.unusedSimpArgs false
set_option linter.unusedVariables false
set_option maxRecDepth 100000
namespace Go.Ab
open Go Go.RowKit Go.Fwd Go.Proofs
theorem itoa_pure (n : Int) (h : -9223372036854775808 ≤ n ∧ n < 9223372036854775808) : Pure (ITP Tryd.prog) Tryd.prog 51 [.raw (.int .i64 n)] (.raw (.string (bs (Lib.itoa n)))) := itoa51 n h
section
variable {P : Program} {ρ : Operand → AV} {σ : St} {o : Oper}
end
structure Kd where
  w : List UInt8
  f : Nat
def cellsKd (e : Kd) : List AV := [.raw (.string (bs e.w)), .clos e.f []]
instance : Enc Kd where
  inh := ⟨[], 0⟩
  cells := cellsKd
  cellsL l := l.flatMap cellsKd
  sz := 2
  pos := by decide
  nil := rfl
  cons _ _ := rfl
  len _ := rfl
  clo _ := rfl
def kindAt (k : Int) : Kd := if k = 1 then ⟨[115, 101, 110, 100], 58⟩ else if k = 2 then ⟨[116, 97, 107, 101], 57⟩ else ⟨[108, 111, 115, 101], 57⟩
def kindsA : AV := .agg ([.raw (.string (bs [])), .raw .nilFunc] ++ cellsKd (kindAt 1) ++ cellsKd (kindAt 2) ++ cellsKd (kindAt 3))
theorem kinds_pure : Pure (ITP Tryd.prog) Tryd.prog 50 [] kindsA := run1_ok (by kernel_rfl)
theorem q_kidx {ρ : Operand → AV} {σ : St} {o : Oper} {x i : Operand} {k : Int} (g : 1 ≤ k ∧ k ≤ 3) (ho : o.op = .index 94 x i) (hx : ρ x = kindsA) (hi : ρ i = .raw (.int .u8 k)) : qop Tryd.prog ρ σ o = some (.agg (Enc.cells (kindAt k))) := by
  have h : k = 1 ∨ k = 2 ∨ k = 3 := by omega
  rcases h with rfl | rfl | rfl <;> (simp only [qop, ho, hx, hi]; rfl)
theorem kind_f1 {k : Int} (h : (k == 1) = true) : (kindAt k).f = 58 := by rw [beq_iff_eq] at h; subst h; rfl
theorem kind_f2 {k : Int} (h : (k == 1) = false) : (kindAt k).f = 57 := by
  have h1 : ¬ k = 1 := by simpa using h
  unfold kindAt; rw [if_neg h1]; split <;> rfl
section
variable {IT : IterP} {P : Program} {W : Owed}
end
end Go.Ab

