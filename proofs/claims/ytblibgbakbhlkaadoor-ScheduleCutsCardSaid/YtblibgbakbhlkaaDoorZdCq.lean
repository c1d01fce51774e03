/-
  Slices of boxed slices, copy, make of elements of several cells: as lists.
-/
import Derived.Test.YtblibgbakbhlkaaDoorZdStr
set_option linter.unusedSimpArgs false
set_option linter.unusedVariables false
namespace Go.Ab
open Go Go.RowKit Go.Fwd
def cpy {α : Type} (l : List α) (o : Nat) (r : List α) : List α := l.take o ++ r ++ l.drop (o + r.length)
section
variable {P : Program} {ρ : Operand → AV} {σ : St} {o : Oper} {α : Type} [Enc α]
theorem q_bslL {t e : TypeId} {x i : Operand} {s n : Nat} {f : Bool} {k : IntKind} {j : Int} (g : 0 ≤ j ∧ j < n) (ho : o.op = .slice t x (some i) none none) (hx : ρ x = .bsl s 0 n (Enc.sz α) f) (hi : ρ i = .raw (.int k j)) (hu : P.underlying t = some (.slice e)) (hs : sizeT P e = some (Enc.sz α)) :
    qop P ρ σ o = some (.bsl s (j.toNat * Enc.sz α) (n - j.toNat) (Enc.sz α) f) := by
  have h4 : aBounds n (some (.raw (.int k j))) none none = some (j.toNat, n, false) := by
    have c : 0 ≤ j ∧ j ≤ (n : Int) := by omega
    simp only [aBounds, aBound, if_pos c]
  have hlt : j.toNat < n := by omega
  simp only [qop, ho, hx, hi, Option.map_some, Option.map_none, aSlice, hu, hs, h4, if_true, if_pos hlt, Nat.zero_add]
  simp
theorem q_bslH {t e : TypeId} {x i : Operand} {s n : Nat} {f : Bool} {k : IntKind} {j : Int} (g : 0 < j ∧ j ≤ n) (ho : o.op = .slice t x none (some i) none) (hx : ρ x = .bsl s 0 n (Enc.sz α) f) (hi : ρ i = .raw (.int k j)) (hu : P.underlying t = some (.slice e)) (hs : sizeT P e = some (Enc.sz α)) :
    qop P ρ σ o = some (.bsl s 0 j.toNat (Enc.sz α) (f && (j.toNat == n))) := by
  have h4 : aBounds n none (some (.raw (.int k j))) none = some (0, j.toNat, false) := by
    have c : 0 ≤ j ∧ j ≤ (n : Int) := by omega
    simp only [aBounds, aBound, if_pos c]
  have hlt : 0 < j.toNat := by omega
  simp only [qop, ho, hx, hi, Option.map_some, Option.map_none, aSlice, hu, hs, h4, if_true, if_pos hlt, Nat.zero_add, Nat.zero_mul, Nat.sub_zero]
  simp
theorem cp_list {r : List α} {st : Room} : aCpSrc σ (Enc.sz α) (.list r.length (Enc.cellsL r) st) = some (r.length, Enc.cellsL r) := by
  simp only [aCpSrc, Enc.lenL, Enc.pos, and_self, if_true]
theorem cp_box {l : List α} {s o2 n2 : Nat} {f : Bool} {t0 : TypeId} (hb : σ.boxes[s]? = some (t0, Enc.cellsL l)) (h : o2 + n2 ≤ l.length) : aCpSrc σ (Enc.sz α) (.bsl s (o2 * Enc.sz α) n2 (Enc.sz α) f) = some (n2, Enc.cellsL ((l.drop o2).take n2)) := by
  unfold aCpSrc
  simp only [hb]
  rw [if_pos ⟨trivial, by rw [Enc.lenL, ← Nat.add_mul]; exact Nat.mul_le_mul_right _ h⟩, Enc.drop, Enc.take]
theorem cp_box0 {l : List α} {s n2 : Nat} {f : Bool} {t0 : TypeId} (hb : σ.boxes[s]? = some (t0, Enc.cellsL l)) (h : n2 ≤ l.length) : aCpSrc σ (Enc.sz α) (.bsl s 0 n2 (Enc.sz α) f) = some (n2, Enc.cellsL (l.take n2)) := by
  have := cp_box (α := α) (o2 := 0) (f := f) hb (by omega : 0 + n2 ≤ l.length)
  rw [Nat.zero_mul, List.drop_zero] at this
  exact this
theorem opB_copy0 {c : Call} {x y : Operand} {t t' e : TypeId} {i : TypeInfo} {s n m o1 off : Nat} {f : Bool} {l r : List α} {t0 : TypeId} (g : o1 + n ≤ l.length ∧ 0 < l.length) (hoff : off = o1 * Enc.sz α) (ho : o.op = .call c) (hc : c.callee = .builtin .copy) (ha : c.args.toList = [x, y]) (ht : c.argTypes.toList = [t, t'])
    (hx : ρ x = .bsl s off n (Enc.sz α) f) (hb : σ.boxes[s]? = some (t0, Enc.cellsL l)) (hu : P.underlying t = some (.slice e)) (hi : P.info? e = some i) (hsz : i.size = Enc.sz α) (hsrc : aCpSrc σ (Enc.sz α) (ρ y) = some (m, Enc.cellsL r)) (hr : r.length = m) :
    aopB P ρ σ o = some (.raw (.int .i64 ((Nat.min m n : Nat) : Int)), { σ with boxes := σ.boxes.set s (t0, Enc.cellsL (cpy l o1 (r.take (Nat.min m n)))) }) := by
  subst hoff
  have hk : Nat.min m n ≤ m := Nat.min_le_left _ _
  have hk2 : Nat.min m n ≤ n := Nat.min_le_right _ _
  have hne : (Enc.cellsL l).isEmpty = false := by
    have h1 := Enc.lenL l
    have h2 := Enc.pos (α := α)
    have h3 : 0 < l.length * Enc.sz α := Nat.mul_pos g.2 h2
    cases hcl : Enc.cellsL l with
    | nil => rw [hcl] at h1; simp at h1; omega
    | cons a b => rfl
  have hfit : o1 * Enc.sz α + Nat.min m n * Enc.sz α ≤ (Enc.cellsL l).length := by
    rw [Enc.lenL, ← Nat.add_mul]
    exact Nat.mul_le_mul_right _ (by omega)
  have hlen : (r.take (Nat.min m n)).length = Nat.min m n := by rw [List.length_take]; omega
  simp only [aopB, ho, hc, ha, ht, aCopy, hu, hx, hi, hb, hsz, hsrc, true_and]
  rw [if_pos ⟨hne, hfit⟩, cpy, hlen, Enc.app, Enc.app, Enc.take, Enc.take, ← Nat.add_mul, Enc.drop]
theorem opB_makeM {t e : TypeId} {x y : Operand} {i : TypeInfo} {z : Value} {k k' : IntKind} {j : Int} {by' : Nat} (zero : α) (g : 0 ≤ j ∧ (by' : Int) * j ≤ 281474976710656) (ho : o.op = .makeSlice t x y) (hx : ρ x = .raw (.int k j)) (hy : ρ y = .raw (.int k' j)) (hu : P.underlying t = some (.slice e)) (hi : P.info? e = some i) (hz : i.zero = some z)
    (hsz : i.size = Enc.sz α) (h1 : (decide (1 < i.size) && z.cells.toList.all (·.oneCell') && decide (z.cells.size = i.size)) = true) (hzero : z.cells.toList.map ofCell = Enc.cells zero) (hby : i.bytes = by' ∧ 0 < by') :
    aopB P ρ σ o = some (.bsl σ.boxes.length 0 j.toNat (Enc.sz α) true, { σ with boxes := σ.boxes ++ [(e, Enc.cellsL (List.replicate j.toNat zero))] }) := by
  simp only [Bool.and_eq_true, decide_eq_true_eq] at h1
  obtain ⟨⟨h1, h2⟩, h3⟩ := h1
  obtain ⟨rfl, hp⟩ := hby
  have hj : j ≤ 9223372036854775807 := by
    have h5 : j ≤ (i.bytes : Int) * j := by
      have h6 : (1 : Int) * j ≤ (i.bytes : Int) * j := Int.mul_le_mul_of_nonneg_right (by omega) g.1
      omega
    omega
  have hflat : ∀ n : Nat, ((List.replicate n z.cells.toList).flatten).map ofCell = Enc.cellsL (List.replicate n zero) := by
    intro n
    induction n with
    | zero => simp [Enc.nil]
    | succ n ih => rw [List.replicate_succ, List.flatten_cons, List.map_append, ih, hzero, List.replicate_succ, Enc.cons]
  simp only [aopB, ho, aMake, aMakeM, hx, hy, hu, hi, hz]
  rw [if_neg (fun h => by omega)]
  simp only
  rw [if_pos ⟨trivial, g.1, hj, g.2, h2, h3⟩, hflat, hsz]
end
theorem w_regAny {IT : IterP} {P : Program} {W : Owed} {k0 : Nat} {id : Nat} {ops : Array Oper} {Q : AQ} {S : List AV} {σ : St} (S1 : List AV) (σ1 : St) (h : aany IT P W ops (fun S σ => S = S1 ∧ σ = σ1) ops.size (Array.replicate ops.size false) S σ) (hrest : Q .normal S1 σ1) : awp IT P W k0 (.region id ops true) Q S σ :=
  .inr (.inr (.inl (aany_mono (fun S σ hw => by obtain ⟨rfl, rfl⟩ := hw; exact hrest) _ _ _ _ h)))
end Go.Ab

