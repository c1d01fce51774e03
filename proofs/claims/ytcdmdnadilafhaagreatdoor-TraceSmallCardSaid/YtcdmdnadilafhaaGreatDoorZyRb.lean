/-
  reparteeref02: what is said of one byte (the marks are always the quotation mark alone).
-/
import Derived.Test.YtcdmdnadilafhaaGreatDoorZdStr
import Derived.Test.YtcdmdnadilafhaaGreatDoorZyQc
import Derived.Test.YtcdmdnadilafhaaGreatDoorZyWb
set_option linter.unusedSimpArgs false
set_option linter.unusedVariables false
namespace Go.Ab
open Go Go.RowKit Go.Fwd
theorem zjr (b : List UInt8) : (byteCells (bs b)).map AV.raw = Enc.cellsL b := by
 simp [byteCells, bs]
 rfl
theorem zt9 {P : Program} {t tx e : TypeId} {i : TypeInfo} {z : Value} {bx : List (TypeId × List AV)} {a b : List UInt8} (hb : (a.length + b.length) * 1 ≤ 140737488355328) (hu : P.underlying t = some (.slice e)) (htx : P.underlying tx = some .string) (hi : P.info? e = some i) (hz : i.zero = some z) (hsz : i.size = 1) (hzs : z.cells.size = 1) (hby : i.bytes = 1) :
 zjc P (z7 bx e a.length 1) t tx (zc3 a.length (Enc.cellsL a)) (.raw (.string (bs b))) = some (zc3 (a ++ b).length (Enc.cellsL (a ++ b)), z7 bx e (a ++ b).length 1) := by
 have hmax : 140737488355328 ≤ maxLen := by decide
 have hbs : (bs b).size = b.length := rfl
 have hbc := zjr b
 have hca : (Enc.cellsL a).length = a.length := by rw [Enc.lenL]; exact Nat.mul_one _
 by_cases hb0 : b.length = 0
 ·have := List.length_eq_zero_iff.1 hb0
  subst this
  rw [List.append_nil]
  unfold zc3
  split <;> simp only [zjc, hu, htx, hi, hz, hsz, hbs, List.length_nil, true_and, if_true]
 ·have h1 : ¬ ((bs b).size = 0 ∧ i.size = 1) := fun h => hb0 (by rw [← hbs]; exact h.1)
  have hne : ¬ (a ++ b).length = 0 := by rw [List.length_append]; omega
  have hR : zc3 (a ++ b).length (Enc.cellsL (a ++ b)) = .list (a ++ b).length (Enc.cellsL (a ++ b)) (.own 0) := by unfold zc3; rw [if_neg hne]
  rw [hR]
  by_cases ha : a.length = 0
  ·have := List.length_eq_zero_iff.1 ha
   subst this
   have hc : ([] : List AV).length = 0 * i.size ∧ i.size = 1 ∧ 0 < (bs b).size ∧ z.cells.size = i.size ∧ 0 < i.size ∧ 0 + (bs b).size ≤ maxLen ∧ (0 + (bs b).size) * i.bytes ≤ 140737488355328 := by
    rw [hsz, hby, hbs]; exact ⟨rfl, rfl, by omega, hzs, by decide, by omega, by omega⟩
   have hA : zc3 ([] : List UInt8).length (Enc.cellsL ([] : List UInt8)) = .list 0 [] .full := rfl
   rw [hA]
   simp only [zjc, hu, htx, hi, hz, if_neg h1, if_pos hc, hbc]
   simp [z7, hb0, hbs, hsz]
  ·have hA : zc3 a.length (Enc.cellsL a) = .list a.length (Enc.cellsL a) (.own 0) := by unfold zc3; rw [if_neg ha]
   have hc : (Enc.cellsL a).length = a.length * i.size ∧ i.size = 1 ∧ 0 < (bs b).size ∧ z.cells.size = i.size ∧ 0 < i.size ∧ a.length + (bs b).size ≤ maxLen ∧ (a.length + (bs b).size) * i.bytes ≤ 140737488355328 := by
    rw [hsz, hby, hbs]; exact ⟨by omega, rfl, by omega, hzs, by decide, by omega, by omega⟩
   have ho : (z7 bx e a.length 1).lens[0]? = some (Enc.cellsL a).length ∧ (z7 bx e a.length 1).elems[0]? = some e ∧ 0 < a.length := by
    simp [z7, ha, hca]; omega
   rw [hA]
   simp only [zjc, hu, htx, hi, hz, if_neg h1, if_pos hc, if_pos ho, hbc]
   simp [z7, ha, hbs, hsz, Enc.app, hb0]
theorem zwr {P : Program} {ρ : Operand → AV} {σ σ' : St} {o : Oper} {c : Call} {x y : Operand} {t t' : TypeId} {a : AV} (ho : o.op = .call c) (hc : c.callee = .builtin .append) (ha : c.args.toList = [x, y]) (ht : c.argTypes.toList = [t, t']) (hne : ¬ t = t') (h : zjc P σ t t' (ρ x) (ρ y) = some (a, σ')) : aop P ρ σ o = some (a, σ') := by
 simp [aop, qop, ho, hc, ha, ht, hne, h]
theorem zuz {P : Program} {ρ : Operand → AV} {σ : St} {o : Oper} {s t e : TypeId} {x : Operand} {l : List UInt8} (ho : o.op = .convert s t x) (hx : ρ x = .raw (.string (bs l))) (hs : P.underlying s = some .string) (ht : P.underlying t = some (.slice e)) (he : P.underlying e = some (.int .u8)) :
 zob P ρ σ o = some (.list l.length (Enc.cellsL l) .none, σ) := by
 have h := zjr l
 simp only [zob, ho, hx, zko, zwn, hs, ht, he, h]
 rfl
theorem zla {α : Type} [Enc α] {P : Program} {t e : TypeId} {i : TypeInfo} {z : Value} {st : Room} {bx : List (TypeId × List AV)} {a b : List α} {by' : Nat} (hb : (a.length + b.length) * by' ≤ 140737488355328) (h0 : 0 < b.length) (hu : P.underlying t = some (.slice e)) (hi : P.info? e = some i) (hz : i.zero = some z) (hsz : i.size = Enc.sz α) (hzs : z.cells.size = Enc.sz α) (hby : i.bytes = by' ∧ 0 < by') :
 zd5 P ⟨bx, [], [], 0, false⟩ t (.list a.length (Enc.cellsL a) .full) (.list b.length (Enc.cellsL b) st) = some (zc3 (a ++ b).length (Enc.cellsL (a ++ b)), z7 bx e (a ++ b).length (Enc.sz α)) := by
 have hm : a.length + b.length ≤ maxLen := by
  have h1 : a.length + b.length ≤ (a.length + b.length) * by' := Nat.le_mul_of_pos_right _ hby.2
  have h2 : 140737488355328 ≤ maxLen := by decide
  omega
 have h1 : ¬ (b.length = 0 ∧ Enc.cellsL b = []) := fun h => by omega
 have hne : ¬ (a ++ b).length = 0 := by rw [List.length_append]; omega
 have hc : (Enc.cellsL a).length = a.length * i.size ∧ (Enc.cellsL b).length = b.length * i.size ∧ 0 < b.length ∧ z.cells.size = i.size ∧ 0 < i.size ∧ a.length + b.length ≤ maxLen ∧ (a.length + b.length) * i.bytes ≤ 140737488355328 := by
  rw [hsz, hby.1]; exact ⟨Enc.lenL a, Enc.lenL b, h0, hzs, Enc.pos, hm, hb⟩
 simp only [zd5, hu, hi, hz, if_neg h1, if_pos hc]
 have hne2 : ¬ a.length + b.length = 0 := by omega
 simp only [zc3, z7, Enc.app, List.length_append, hsz, List.length_nil, List.nil_append, if_neg hne2]
end Go.Ab
set_option linter.unusedSimpArgs false
set_option linter.unusedVariables false
namespace Go.Ab
open Go Go.RowKit Go.Fwd Go.Proofs
set_option maxRecDepth 100000
structure RSet where
 z : Bool
 deriving DecidableEq
def zj8 : List AV := List.replicate 34 (.raw (.int .i64 0)) ++ .raw (.int .i64 1) :: List.replicate 221 (.raw (.int .i64 0))
def zx7 (s : RSet) : List AV := bif s.z then List.replicate 256 (.raw (.int .i64 0)) else zj8
instance : Enc RSet where
 inh := ⟨true⟩
 cells := zx7
 cellsL l := l.flatMap zx7
 sz := 256
 pos := by decide
 nil := rfl
 cons _ _ := rfl
 len a := by cases a with | mk z => cases z <;> rfl
 clo a := by cases a with | mk z => cases z <;> rfl
def hexU (n : Nat) : UInt8 := if n < 10 then (48 + n).toUInt8 else (55 + n).toUInt8
def ze5 (c : UInt8) : List (List UInt8) :=
 (if 32 ≤ c ∧ c ≤ 126 ∧ c ≠ 92 ∧ c ≠ 34 then [[c]] else []) ++ (if c = 34 ∨ c = 92 then [[92, c]] else []) ++ (if c = 10 then [[92, 110]] else []) ++ (if c = 13 then [[92, 114]] else []) ++ (if c = 9 then [[92, 116]] else []) ++
 [[92, 120, zl2 (c.toNat / 16), zl2 (c.toNat % 16)], [92, 120, hexU (c.toNat / 16), zl2 (c.toNat % 16)], [92, 120, zl2 (c.toNat / 16), hexU (c.toNat % 16)], [92, 120, hexU (c.toNat / 16), hexU (c.toNat % 16)]]
def formsA (c : UInt8) : AV := .list (ze5 c).length ((ze5 c).map fun l => .raw (.string (bs l))) .none
set_option maxRecDepth 100000 in
theorem zuk : Pure (ITP Tryz.prog) Tryz.prog 77 [.list 1 [.raw (.int .u8 34)] .none] (.agg zj8) := zkr (by kernel_rfl)
section
variable {ρ : Operand → AV} {σ : St} {o : Oper}
set_option maxRecDepth 100000 in
theorem sizeRS : zc7 Tryz.prog 128 = some 256 := by kernel_rfl
theorem undRS : ∃ e, Tryz.prog.underlying 128 = some (.array 256 e) := ⟨3, by kernel_rfl⟩
theorem rd_arr {P : Program} {t : TypeId} {cs : List AV} {n k : Nat} {e : TypeId} (hu : P.underlying t = some (.array k e)) (hs : zc7 P t = some n) (hl : cs.length = n) : rd P t cs = some (.agg cs) := by
 unfold zc7 at hs
 cases hi : P.info? t with
 | none => simp [hi] at hs
 | some i =>
  simp only [hi, Option.map_some, Option.some.injEq] at hs
  subst hs
  simp only [rd, hu, hi, hl, Nat.le_refl, if_true, List.take_of_length_le]
def rdA (a : RSet) (i : Int) : Int := bif a.z then 0 else bif i == 34 then 1 else 0
theorem sizeI3 : zc7 Tryz.prog 3 = some 1 := by kernel_rfl
theorem undI3 : Tryz.prog.underlying 3 = some (.int .i64) := by kernel_rfl
theorem rd_int {P : Program} {t : TypeId} {k : IntKind} {cs : List AV} {n : Nat} (hu : P.underlying t = some (.int k)) (hs : zc7 P t = some n) : rd P t cs = cs.head? := by
 unfold zc7 at hs
 cases hi : P.info? t with
 | none => simp [hi] at hs
 | some i => simp [rd, hu, hi]
theorem zvx (a : RSet) (i : Nat) (h : i < 256) : (zx7 a)[i]? = some (.raw (.int .i64 (rdA a i))) := by
 obtain ⟨z⟩ := a
 cases z with
 | true =>
  show (List.replicate 256 (AV.raw (.int .i64 0)))[i]? = _
  rw [List.getElem?_replicate, if_pos h]; rfl
 | false =>
  show zj8[i]? = some (.raw (.int .i64 (bif ((i : Int) == 34) then 1 else 0)))
  unfold zj8
  rcases Nat.lt_trichotomy i 34 with h1 | h1 | h1
  ·rw [List.getElem?_append_left (by simpa using h1), List.getElem?_replicate, if_pos h1]
   have : ((i : Int) == 34) = false := beq_eq_false_iff_ne.2 (by omega)
   rw [this]; rfl
  ·subst h1; rfl
  ·rw [List.getElem?_append_right (by simp; omega), List.length_replicate]
   obtain ⟨j, hj⟩ : ∃ j, i - 34 = j + 1 := ⟨i - 35, by omega⟩
   rw [hj, List.getElem?_cons_succ, List.getElem?_replicate, if_pos (by omega)]
   have : ((i : Int) == 34) = false := beq_eq_false_iff_ne.2 (by omega)
   rw [this]; rfl
theorem q_loadA {x : Operand} {b : Nat} {tt : TypeId} {i : Int} (a : RSet) (h : 0 ≤ i ∧ i < 256) (ho : o.op = .load 3 x) (hx : ρ x = .ptr b (0 + i.toNat * 1)) (hb : σ.boxes[b]? = some (tt, Enc.cells a)) : qop Tryz.prog ρ σ o = some (.raw (.int .i64 (rdA a i))) := by
 have key : ((Enc.cells a).drop (i.toNat)).head? = some (.raw (.int .i64 (rdA a i))) := by
  rw [List.head?_drop]
  have := zvx a i.toNat (by omega)
  rw [show ((i.toNat : Nat) : Int) = i by omega] at this
  exact this
 simp only [qop, ho, zti, hx, hb, Nat.zero_add, Nat.mul_one, rd_int undI3 sizeI3, key]
theorem zf4 {t : TypeId} {x : Operand} {b : Nat} {tt : TypeId} (a : RSet) (ht : t = 128) (ho : o.op = .load t x) (hx : ρ x = .ptr b 0) (hb : σ.boxes[b]? = some (tt, Enc.cells a)) : qop Tryz.prog ρ σ o = some (.agg (Enc.cells a)) := by
 subst ht
 obtain ⟨e, he⟩ := undRS
 have key : rd Tryz.prog 128 ((Enc.cells a).drop 0) = some (.agg (Enc.cells a)) := by
  rw [List.drop_zero]
  exact rd_arr he sizeRS (Enc.len a)
 simp only [qop, ho, zti, hx, hb, key]
set_option maxRecDepth 100000 in
theorem zzz : znx Tryz.prog St.empty 128 = some (.ptr 0 0, { St.empty with boxes := [(128, Enc.cells (RSet.mk true))] }) := by kernel_rfl
theorem zyf {t : TypeId} (ht : t = 128) (ho : o.op = .alloc t) : aop Tryz.prog ρ σ o = some (.ptr σ.boxes.length 0, { σ with boxes := σ.boxes ++ [(t, Enc.cells (RSet.mk true))] }) := by
 subst ht
 have h : znx Tryz.prog σ 128 = some (.ptr σ.boxes.length 0, { σ with boxes := σ.boxes ++ [(128, Enc.cells (RSet.mk true))] }) := by
  have h0 := zzz
  unfold znx at h0 ⊢
  cases hi : Tryz.prog.info? 128 with
  | none => simp [hi] at h0
  | some i =>
   simp only [hi] at h0 ⊢
   cases hz : i.zero with
   | none => simp [hz] at h0
   | some z =>
    simp only [hz] at h0 ⊢
    split at h0
    ·rename_i hk
     rw [if_pos hk]
     unfold aBox at h0 ⊢
     split at h0
     ·rename_i hk2
      rw [if_pos hk2]
      simp only [St.empty, Option.some.injEq, Prod.mk.injEq, St.mk.injEq, List.nil_append, List.cons.injEq, and_true, true_and, List.length_nil] at h0
      simp only [h0]
     ·cases h0
    ·cases h0
 simp only [aop, qop, ho, h]
end
end Go.Ab
