/-
  Contracts of package strings and strconv over lists of bytes; kinds of entries.
-/
import Derived.Test.YtcdmdnadilafhaaGreatDoorZyBld
import Derived.Test.YtcdmdnadilafhaaGreatDoorZyBd
import Derived.Test.YtcdmdnadilafhaaGreatDoorZyEn2
set_option linter.unusedSimpArgs false
set_option linter.unusedVariables false
namespace Go.Ab
open Go Go.RowKit Go.Fwd Go.Proofs
structure QSet where
  deriving DecidableEq
def cellsQS : List AV := [.raw (.int .u64 17179869184), .raw (.int .u64 0), .raw (.int .u64 0), .raw (.int .u64 0)]
instance : Enc QSet where
  inh := ⟨⟩
  cells _ := cellsQS
  cellsL l := l.flatMap fun _ => cellsQS
  sz := 4
  pos := by decide
  nil := rfl
  cons _ _ := rfl
  len _ := rfl
  clo _ := rfl
def hexD (n : Nat) : UInt8 := if n < 10 then (48 + n).toUInt8 else (87 + n).toUInt8
def byteP (c : UInt8) : List UInt8 :=
  if c = 10 then [92, 110] else if c = 13 then [92, 114] else if c = 9 then [92, 116]
  else if c < 32 ∨ 126 < c then [92, 120, hexD (c.toNat / 16), hexD (c.toNat % 16)]
  else if c = 92 ∨ c = 34 then [92, c] else [c]
def nibP (c : UInt8) : Int :=
  if 48 ≤ c ∧ c ≤ 57 then (c.toNat : Int) - 48 else if 65 ≤ c ∧ c ≤ 70 then (c.toNat : Int) - 55 else if 97 ≤ c ∧ c ≤ 102 then (c.toNat : Int) - 87 else 16
def isMarkP (c : UInt8) : Bool := decide (c = 34)
noncomputable def run1 (f : Nat) (args : List AV) (r : AV) : Bool := match ecallP Tryz.prog libP (ev Tryz.prog libP bldS 40) f args with
  | some a => eqAV a r
  | none => false
theorem run1_ok {f : Nat} {args : List AV} {r : AV} (h : run1 f args r = true) : Pure (ITP Tryz.prog) Tryz.prog f args r := by
  unfold run1 at h
  split at h
  · rename_i a ha
    have := run_pure_call goodT 40 ha
    rw [eqAV_ok _ _ h] at this
    exact this
  · cases h
theorem all256 {p : UInt8 → Prop} {q : Nat → Bool} (h : ((List.range 256).all q) = true) (hp : ∀ n : Nat, n < 256 → q n = true → p n.toUInt8) (c : UInt8) : p c := by
  have hc : c.toNat < 256 := c.toNat_lt
  have := hp c.toNat hc (List.all_eq_true.1 h c.toNat (List.mem_range.2 hc))
  simpa using this
set_option maxRecDepth 100000 in
theorem byte_tab : ((List.range 256).all fun n => run1 106 [.raw (.int .u8 (n : Int)), .agg cellsQS] (.raw (.string (bs (byteP n.toUInt8))))) = true := by kernel_rfl
set_option maxRecDepth 100000 in
theorem nib_tab : ((List.range 256).all fun n => run1 95 [.raw (.int .u8 (n : Int))] (.raw (.int .i64 (nibP n.toUInt8)))) = true := by kernel_rfl
set_option maxRecDepth 100000 in
theorem mark_tab : ((List.range 256).all fun n => run1 93 [.agg cellsQS, .raw (.int .u8 (n : Int))] (.raw (.bool (isMarkP n.toUInt8)))) = true := by kernel_rfl
theorem u8_nat {n : Nat} (h : n < 256) : ((n.toUInt8.toNat : Nat) : Int) = (n : Int) := by simp; omega
theorem byte_pure (c : UInt8) : Pure (ITP Tryz.prog) Tryz.prog 106 [.raw (.int .u8 ((c.toNat : Nat) : Int)), .agg cellsQS] (.raw (.string (bs (byteP c)))) :=
  all256 (p := fun c => Pure (ITP Tryz.prog) Tryz.prog 106 [.raw (.int .u8 ((c.toNat : Nat) : Int)), .agg cellsQS] (.raw (.string (bs (byteP c))))) byte_tab (fun n hn h => by rw [u8_nat hn]; exact run1_ok h) c
theorem nib_pure (c : UInt8) : Pure (ITP Tryz.prog) Tryz.prog 95 [.raw (.int .u8 ((c.toNat : Nat) : Int))] (.raw (.int .i64 (nibP c))) :=
  all256 (p := fun c => Pure (ITP Tryz.prog) Tryz.prog 95 [.raw (.int .u8 ((c.toNat : Nat) : Int))] (.raw (.int .i64 (nibP c)))) nib_tab (fun n hn h => by rw [u8_nat hn]; exact run1_ok h) c
theorem mark_pure (c : UInt8) : Pure (ITP Tryz.prog) Tryz.prog 93 [.agg cellsQS, .raw (.int .u8 ((c.toNat : Nat) : Int))] (.raw (.bool (isMarkP c))) :=
  all256 (p := fun c => Pure (ITP Tryz.prog) Tryz.prog 93 [.agg cellsQS, .raw (.int .u8 ((c.toNat : Nat) : Int))] (.raw (.bool (isMarkP c)))) mark_tab (fun n hn h => by rw [u8_nat hn]; exact run1_ok h) c
theorem of_pure : Pure (ITP Tryz.prog) Tryz.prog 76 [.list 1 [.raw (.int .u8 34)] .none] (.agg cellsQS) := run1_ok (by kernel_rfl)
end Go.Ab
set_option linter.unusedSimpArgs false
set_option linter.unusedVariables false
namespace Go.Ab
open Go Go.RowKit Go.Fwd
section
variable {P : Program} {ρ : Operand → AV} {σ : St} {o : Oper}
theorem q_conv64 {x : Operand} {s t : TypeId} {k : IntKind} {n : Int} (g : -9223372036854775808 ≤ n ∧ n < 9223372036854775808) (ho : o.op = .convert s t x) (hx : ρ x = .raw (.int k n)) (hs : val? P (Next.value <$> convert s t (.int k n)) = some (.value (.int .i64 (IntKind.i64.wrap n)))) : qop P ρ σ o = some (.raw (.int .i64 n)) := by
  have h := wrap_i64 g.1 g.2
  rw [h] at hs
  simp [qop, rawOp, ho, Op.operands, hx, toVal, execOp, rawEnv, hs, aBytesStr]
  exact ⟨rfl, rfl⟩
theorem u8sOf_cells : ∀ l : List UInt8, u8sOf (Enc.cellsL l) = some l
  | [] => rfl
  | a :: l => by
    show u8sOf (.raw (.int .u8 ((a.toNat : Nat) : Int)) :: Enc.cellsL l) = _
    have h := a.toNat_lt
    simp [u8sOf, u8sOf_cells l]
    omega
theorem q_bstr {l : List UInt8} {x : Operand} {s t e : TypeId} {st : Room} (ho : o.op = .convert s t x) (hx : ρ x = .list l.length (Enc.cellsL l) st) (hs : P.underlying s = some (.slice e) ∧ P.underlying e = some (.int .u8)) (ht : P.underlying t = some .string) : qop P ρ σ o = some (.raw (.string (bs l))) := by
  have h : aBytesStr P s t (ρ x) = some (.raw (.string (bs l))) := by
    rw [hx]
    simp only [aBytesStr, hs.1, hs.2, ht, u8sOf_cells, if_true]
    rfl
  simp only [qop, ho, h]
theorem op_storeO {t : TypeId} {x y : Operand} {s off n : Nat} {cs : List AV} {bx : TypeId × List AV} (ho : o.op = .store t x y) (hx : ρ x = .ptr s off) (hy : ρ y = ownAV n cs) (hb : σ.boxes[s]? = some bx) (hn : sizeT P t = some 1) (hl : off + 1 ≤ bx.2.length) :
    aop P ρ σ o = some (.raw undef, { σ with boxes := σ.boxes.set s (bx.1, bx.2.take off ++ [ownAV n cs] ++ bx.2.drop (off + 1)) }) := by
  have h1 : cellsOf (ownAV n cs) = [ownAV n cs] := by unfold ownAV; split <;> rfl
  have h2 : cellOk (ownAV n cs) = true := by unfold ownAV; split <;> rfl
  rw [op_store (n := 1) ho hx hy hb hn ⟨h2, by rw [h1]; rfl, hl, by decide⟩, h1]
def trcR (t : Trc) (st : Room) : AV := .agg [.list t.l.length (Enc.cellsL t.l) st, .raw (.int .u8 t.e.k), .raw (.int .i64 t.e.c)]
theorem strip_trcR (t : Trc) (st : Room) : strip (trcR t st) = .agg (Enc.cells t) := by
  simp only [trcR, strip, stripL, Enc.stripL]; rfl
end
end Go.Ab
set_option linter.unusedSimpArgs false
set_option linter.unusedVariables false
set_option maxRecDepth 100000
namespace Go.Ab
open Go Go.RowKit Go.Fwd Go.Proofs
theorem ixb_pure (l : List UInt8) (c : UInt8) : Pure (ITP Tryz.prog) Tryz.prog 94 [.raw (.string (bs l)), .raw (.int .u8 ((c.toNat : Nat) : Int))] (.raw (.int .i64 (Lib.indexByte l c))) := by
  have h := ixb79 (bs l) ((c.toNat : Nat) : Int)
  rwa [show ((c.toNat : Nat) : Int).toNat.toUInt8 = c by simp] at h
theorem itoa_pure (n : Int) (h : -9223372036854775808 ≤ n ∧ n < 9223372036854775808) : Pure (ITP Tryz.prog) Tryz.prog 68 [.raw (.int .i64 n)] (.raw (.string (bs (Lib.itoa n)))) := itoa51 n h
theorem cut_pure (l p : List UInt8) (h : l.length < 4294967281) : Pure (ITP Tryz.prog) Tryz.prog 26 [.raw (.string (bs l)), .raw (.string (bs p))] (.tup [.raw (.string (bs (Lib.cut l p).1)), .raw (.string (bs (Lib.cut l p).2.1)), .raw (.bool (Lib.cut l p).2.2)]) := cut37 (bs l) (bs p) h
def atoiP (l : List UInt8) : Int := match Lib.atoiAll l with
  | .ok v => v
  | Go.Lib.NumEnd.syntax => 0
  | .range => Lib.atoiSat l
theorem pure_top {P : Program} {IT : IterP} {f : FuncId} {args : List AV} {a : AV} {v : Value} (h : Pure IT P f args (.tup [a, .raw v])) : Pure IT P f args (.tup [a, .top]) := by
  refine ⟨h.1, fun X us hI hr => (h.2 X us hI hr).mono ?_⟩
  rintro e w' ⟨u, Y, h1, h2, h3, h4, h5⟩
  refine ⟨u, Y, h1, h2, h3, h4, ?_⟩
  obtain ⟨vs, rfl, x, r, rfl, h6, y, r2, rfl, h7, h8⟩ := h5
  exact ⟨_, rfl, x, _, rfl, h6, y, _, rfl, trivial, h8⟩
theorem atoi_pure (l : List UInt8) (h : l.length ≤ 281474976710656) : Pure (ITP Tryz.prog) Tryz.prog 55 [.raw (.string (bs l))] (.tup [.raw (.int .i64 (atoiP l)), .top]) := by
  unfold atoiP
  split
  · rename_i v hv; exact pure_top (atoi_ok (bs l) v (by show l.length ≤ _; omega) hv)
  · rename_i hv; exact atoi_syn (bs l) h hv
  · rename_i hv; exact atoi_rng (bs l) h hv
section
variable {P : Program} {ρ : Operand → AV} {σ : St} {o : Oper}
theorem q_bstrO {l : List UInt8} {x : Operand} {s t e : TypeId} (ho : o.op = .convert s t x) (hx : ρ x = ownAV l.length (Enc.cellsL l)) (hs : P.underlying s = some (.slice e) ∧ P.underlying e = some (.int .u8)) (ht : P.underlying t = some .string) : qop P ρ σ o = some (.raw (.string (bs l))) := by
  have h : aBytesStr P s t (ρ x) = some (.raw (.string (bs l))) := by
    rw [hx]
    unfold ownAV
    split
    · rename_i h0
      have := List.length_eq_zero_iff.1 h0
      subst this
      simp only [aBytesStr, hs.1, hs.2, ht]
      rfl
    · simp only [aBytesStr, hs.1, hs.2, ht, u8sOf_cells, if_true]
      rfl
  simp only [qop, ho, h]
end
structure Kd where
  w : List UInt8
  f : Nat
def cellsKd (e : Kd) : List AV := [.raw (.string (bs e.w)), .clos e.f []]
instance : Enc Kd where
  inh := ⟨[], 0⟩
  cells := cellsKd
  cellsL l := l.flatMap cellsKd
  sz := 2
  pos := by decide
  nil := rfl
  cons _ _ := rfl
  len _ := rfl
  clo _ := rfl
def kindAt (k : Int) : Kd := if k = 1 then ⟨[115, 101, 110, 100], 73⟩ else if k = 2 then ⟨[116, 97, 107, 101], 72⟩ else ⟨[108, 111, 115, 101], 72⟩
def kindsA : AV := .agg ([.raw (.string (bs [])), .raw .nilFunc] ++ cellsKd (kindAt 1) ++ cellsKd (kindAt 2) ++ cellsKd (kindAt 3))
theorem kinds_pure : Pure (ITP Tryz.prog) Tryz.prog 56 [] kindsA := run1_ok (by kernel_rfl)
theorem q_kidx {ρ : Operand → AV} {σ : St} {o : Oper} {x i : Operand} {k : Int} (g : 1 ≤ k ∧ k ≤ 3) (ho : o.op = .index 99 x i) (hx : ρ x = kindsA) (hi : ρ i = .raw (.int .u8 k)) : qop Tryz.prog ρ σ o = some (.agg (Enc.cells (kindAt k))) := by
  have h : k = 1 ∨ k = 2 ∨ k = 3 := by omega
  rcases h with rfl | rfl | rfl <;> (simp only [qop, ho, hx, hi]; rfl)
theorem kind_f1 {k : Int} (h : (k == 1) = true) : (kindAt k).f = 73 := by rw [beq_iff_eq] at h; subst h; rfl
theorem kind_f2 {k : Int} (h : (k == 1) = false) : (kindAt k).f = 72 := by
  have h1 : ¬ k = 1 := by simpa using h
  unfold kindAt; rw [if_neg h1]; split <;> rfl
def u8of (e : Int) : UInt8 := UInt8.ofNat e.toNat
theorem u8c {e : Int} (g : 0 ≤ e ∧ e < 256) : ((u8of e).toNat : Int) = e := by
  unfold u8of
  have h : e.toNat < 256 := by omega
  rw [show (UInt8.ofNat e.toNat).toNat = e.toNat by simp; omega]
  omega
section
variable {IT : IterP} {P : Program} {W : Owed}
theorem w_metH {ops ops0 : Array Oper} {Q : List AV → St → Prop} {o : Oper} {l : List Oper} {S : List AV} {σ : St} {kb : Nat} {b : Bool} (hops : ops = ops0) (hg : o.guard = some (kb, b)) (hk : aguard ops0 S kb = some (some b)) (k : aops IT P W ops Q ({ o with guard := none } :: l) S σ) : aops IT P W ops Q (o :: l) S σ :=
  w_met hg (by rw [hops]; exact hk) k
end
end Go.Ab

