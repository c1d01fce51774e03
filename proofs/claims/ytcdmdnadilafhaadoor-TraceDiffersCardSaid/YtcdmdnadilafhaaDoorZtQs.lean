/-
  Slices of lists.
-/
import Derived.Test.YtcdmdnadilafhaaDoorZtEn
import Derived.Test.YtcdmdnadilafhaaDoorZdZ
set_option linter.unusedSimpArgs false
set_option linter.unusedVariables false
namespace Go.Ab
open Go Go.RowKit Go.Fwd
def subRoom (n : Nat) (i j : Int) (st : Room) : Room := if i.toNat = 0 ∧ j.toNat = n then st else if j.toNat = n ∧ st = .full then .full else .none
theorem sub_lenI {α : Type} (l : List α) {i j : Int} (g : 0 ≤ i ∧ i ≤ j ∧ j ≤ (l.length : Int)) : (sub l i j).length = j.toNat - i.toNat := by
  simp only [sub, List.length_take, List.length_drop]; omega
theorem sub_cells {α : Type} [Enc α] (l : List α) {i j : Int} (g : 0 ≤ i ∧ i ≤ j ∧ j ≤ (l.length : Int)) : ((Enc.cellsL l).drop (i.toNat * Enc.sz α)).take ((j.toNat - i.toNat) * Enc.sz α) = Enc.cellsL (sub l i j) := by
  rw [Enc.drop, Enc.take]; rfl
section
variable {P : Program} {ρ : Operand → AV} {σ : St} {o : Oper}
theorem strip_sub {α : Type} [Enc α] (l : List α) (n : Nat) (st : Room) : strip (.list n (Enc.cellsL l) st) = .list n (Enc.cellsL l) .none := by
  rw [strip, Enc.stripL]
theorem q_sub_H {α : Type} [Enc α] {l : List α} {x y : Operand} {t e : TypeId} {st : Room} {j : Int} (g : 0 ≤ 0 ∧ 0 ≤ j ∧ j ≤ (l.length : Int)) (ho : o.op = .slice t x none (some y) none) (hx : ρ x = .list l.length (Enc.cellsL l) st) (hy : ρ y = .raw (.int .i64 j)) (hu : P.underlying t = some (.slice e)) (hs : sizeT P e = some (Enc.sz α)) :
    qop P ρ σ o = some (.list (sub l 0 j).length (Enc.cellsL (sub l 0 j)) (subRoom l.length 0 j st)) := by
  have hg : (0 : Int) ≤ 0 ∧ 0 ≤ j ∧ j ≤ (l.length : Int) := ⟨Int.le_refl 0, g.2⟩
  have h1 : aSlice P t (ρ x) none (some (ρ y)) none = some (.list (sub l 0 j).length (Enc.cellsL (sub l 0 j)) (subRoom l.length 0 j st)) := by
    have hj := g.2
    rw [sub_lenI l hg, ← sub_cells l hg, hx, hy]
    simp [aSlice, hu, hs, aBounds, aBound, Enc.lenL, subRoom, hj]
  simp only [qop, ho, Option.map, h1]
theorem q_conv64 {x : Operand} {s t : TypeId} {k : IntKind} {n : Int} (g : -9223372036854775808 ≤ n ∧ n < 9223372036854775808) (ho : o.op = .convert s t x) (hx : ρ x = .raw (.int k n)) (hs : val? P (Next.value <$> convert s t (.int k n)) = some (.value (.int .i64 (IntKind.i64.wrap n)))) : qop P ρ σ o = some (.raw (.int .i64 n)) := by
  have h := wrap_i64 g.1 g.2
  rw [h] at hs
  simp [qop, rawOp, ho, Op.operands, hx, toVal, execOp, rawEnv, hs, aBytesStr]
  exact ⟨rfl, rfl⟩
theorem u8sOf_cells : ∀ l : List UInt8, u8sOf (Enc.cellsL l) = some l
  | [] => rfl
  | a :: l => by
    show u8sOf (.raw (.int .u8 ((a.toNat : Nat) : Int)) :: Enc.cellsL l) = _
    have h := a.toNat_lt
    simp [u8sOf, u8sOf_cells l]
    omega
theorem q_bstr {l : List UInt8} {x : Operand} {s t e : TypeId} {st : Room} (ho : o.op = .convert s t x) (hx : ρ x = .list l.length (Enc.cellsL l) st) (hs : P.underlying s = some (.slice e) ∧ P.underlying e = some (.int .u8)) (ht : P.underlying t = some .string) : qop P ρ σ o = some (.raw (.string (bs l))) := by
  have h : aBytesStr P s t (ρ x) = some (.raw (.string (bs l))) := by
    rw [hx]
    simp only [aBytesStr, hs.1, hs.2, ht, u8sOf_cells, if_true]
    rfl
  simp only [qop, ho, h]
theorem op_storeO {t : TypeId} {x y : Operand} {s off n : Nat} {cs : List AV} {bx : TypeId × List AV} (ho : o.op = .store t x y) (hx : ρ x = .ptr s off) (hy : ρ y = ownAV n cs) (hb : σ.boxes[s]? = some bx) (hn : sizeT P t = some 1) (hl : off + 1 ≤ bx.2.length) :
    aop P ρ σ o = some (.raw undef, { σ with boxes := σ.boxes.set s (bx.1, bx.2.take off ++ [ownAV n cs] ++ bx.2.drop (off + 1)) }) := by
  have h1 : cellsOf (ownAV n cs) = [ownAV n cs] := by unfold ownAV; split <;> rfl
  have h2 : cellOk (ownAV n cs) = true := by unfold ownAV; split <;> rfl
  rw [op_store (n := 1) ho hx hy hb hn ⟨h2, by rw [h1]; rfl, hl, by decide⟩, h1]
theorem q_rem64 {x y : Operand} {t : TypeId} {c} {m n : Int} (g : (0 ≤ m ∧ m < 9223372036854775808) ∧ 0 < n) (ho : o.op = .binOp .rem t x y c) (hx : ρ x = .raw (.int .i64 m)) (hy : ρ y = .raw (.int .i64 n)) : qop P ρ σ o = some (.raw (.int .i64 (Int.tmod m n))) := by
  obtain ⟨⟨h1, h2⟩, h3⟩ := g
  have h0 : ¬ n = 0 := by omega
  have hb : 0 ≤ Int.tmod m n ∧ Int.tmod m n ≤ m := by
    rw [Int.tmod_eq_emod_of_nonneg h1]
    exact ⟨Int.emod_nonneg _ h0, by
      have := Int.emod_emod_of_dvd m (Int.dvd_refl n)
      have h4 := Int.mul_ediv_add_emod m n
      have h5 : 0 ≤ n * (m / n) := Int.mul_nonneg (by omega) (Int.ediv_nonneg h1 (by omega))
      omega⟩
  have h := wrap_i64 (x := Int.tmod m n) (by omega) (by omega)
  simp [qop, rawOp, ho, Op.operands, hx, hy, toVal, execOp, rawEnv, eqGuard, binOp, Op.intDiv, h0, h]
  try rfl
def trcR (t : Trc) (st : Room) : AV := .agg [.list t.l.length (Enc.cellsL t.l) st, .raw (.int .u8 t.e.k), .raw (.int .i64 t.e.c)]
theorem strip_trcR (t : Trc) (st : Room) : strip (trcR t st) = .agg (Enc.cells t) := by
  simp only [trcR, strip, stripL, Enc.stripL]; rfl
end
end Go.Ab
