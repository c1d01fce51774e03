/-
  Made: operations on its pile.
-/
import Derived.Test.YtaocggpaiafeeaaZrxMp
set_option linter.unusedSimpArgs false
set_option linter.unusedVariables false
namespace Go.Ab
open Go Go.RowKit Go.Fwd Go.Proofs

def smc (x : Sm) : List AV := [.raw (.int .u8 x.1), .raw (.int .u8 x.2.1), .raw (.int .u8 x.2.2)]
def smcL : List Sm → List AV
  | [] => []
  | x :: l => smc x ++ smcL l
theorem smcL_length : ∀ l, (smcL l).length = l.length * 3
  | [] => by simp [smcL]
  | x :: l => by rw [smcL, List.length_append, smcL_length l, List.length_cons, smc]; simp; omega
theorem smcL_drop : ∀ (l : List Sm) (i : Nat), (smcL l).drop (i * 3) = smcL (l.drop i)
  | l, 0 => by simp
  | [], i + 1 => by simp [smcL]
  | t :: l, i + 1 => by
    rw [smcL, List.drop_succ_cons, ← smcL_drop l i, List.drop_append]
    have : (i + 1) * 3 - (smc t).length = i * 3 := by simp [smc]; omega
    rw [this, List.drop_of_length_le (by simp [smc]; omega), List.nil_append]
theorem smcL_take : ∀ (l : List Sm) (i : Nat), (smcL l).take (i * 3) = smcL (l.take i)
  | l, 0 => by simp [smcL]
  | [], i + 1 => by simp [smcL]
  | t :: l, i + 1 => by
    rw [smcL, List.take_succ_cons, smcL, ← smcL_take l i, List.take_append]
    have : (i + 1) * 3 - (smc t).length = i * 3 := by simp [smc]; omega
    rw [this, List.take_of_length_le (by simp [smc]; omega)]
theorem clo_smcL : ∀ l, cloL (smcL l) = true
  | [] => by simp [smcL, cloL]
  | x :: l => by rw [smcL, cloL_append, clo_smcL l]; simp [smc, cloL, clo]
theorem smcL_ne {l : List Sm} (h : 0 < l.length) : smcL l ≠ [] := fun e => by
  have := smcL_length l
  rw [e] at this; simp at this; omega
theorem smcL_get (l : List Sm) (i : Nat) (hi : i < l.length) : rd Try.prog 53 ((smcL l).drop (i * 3)) = some (.agg (smc l[i])) := by
  rw [smcL_drop, List.drop_eq_getElem_cons hi, smcL]
  rw [rd_agg (P := Try.prog) (t := 53) (cs := smc l[i] ++ smcL (l.drop (i + 1))) rfl rfl (by rw [List.length_append]; show 3 ≤ _; simp [smc])]
  exact congrArg (fun z => some (AV.agg z)) (by show List.take 3 _ = _; rw [List.take_append_of_le_length (by simp [smc])]; simp [smc])

/-- The pile, a slice into a box. -/
def pileAV (n : Nat) : AV := if n = 0 then .list 0 [] .full else .bsl 1 0 n 8 false
def sl2 (n : Nat) : AV := if n = 2 then .list 0 [] .full else .bsl 1 0 (n - 2) 8 true
theorem pileAV_pos {n : Nat} (h : 0 < n) : pileAV n = .bsl 1 0 n 8 false := if_neg (by omega)
theorem cellsL_takei : ∀ (l : List Tr) (i : Nat), (cellsL l).take (i * 8) = cellsL (l.take i)
  | l, 0 => by simp [cellsL]
  | [], i + 1 => by simp [cellsL]
  | t :: l, i + 1 => by
    rw [cellsL, List.take_succ_cons, cellsL, ← cellsL_takei l i, List.take_append, cells_length]
    have : (i + 1) * 8 - 8 = i * 8 := by omega
    rw [this, List.take_of_length_le (by rw [cells_length]; omega)]
theorem cellsL_set (l : List Tr) (i : Nat) (hi : i < l.length) (y : Tr) : (cellsL l).take (i * 8) ++ cells y ++ (cellsL l).drop (i * 8 + 8) = cellsL (l.set i y) := by
  rw [List.set_eq_take_append_cons_drop, if_pos hi, cellsL_append, cellsL, cellsL_takei, ← cellsL_drop, List.append_assoc]
  congr 3; omega
section
variable {ρ : Operand → AV} {σ : St} {o : Oper} {c : Call} {x y : Operand}
theorem opB_pile {n m : Nat} {cs ds : List AV} (ho : o.op = .call c) (hc : c.callee = .builtin .append) (ha : c.args.toList = [x, y]) (ht : c.argTypes.toList = [27, 27]) (hx : ρ x = pileAV n) (hb : σ.boxes[1]? = some (29, cs)) (hcs : cs.length = n * 8)
    (hs : aSrc Try.prog σ 8 27 27 (ρ y) = some (m, ds)) (hm : 0 < m) (hmax : n + m ≤ 10000) : aopB Try.prog ρ σ o = some (.bsl σ.boxes.length 0 (n + m) 8 false, { σ with boxes := σ.boxes.set 1 (29, []) ++ [(29, cs ++ ds)] }) := by
  have hl : 1 < σ.boxes.length := (List.getElem?_eq_some_iff.1 hb).1
  unfold pileAV at hx
  split at hx
  · rename_i h0
    subst h0
    have hc0 : cs = [] := List.length_eq_zero_iff.1 (by omega)
    subst hc0
    have h := opB_list (P := Try.prog) (σ := σ) (e := 29) (sz := 8) ho hc ha ht hx rfl rfl rfl rfl hs ⟨by decide, rfl, hm⟩ ⟨rfl, by unfold maxLen; omega, by show _ * 80 ≤ _; omega⟩
    rw [h]
    have : σ.boxes.set 1 (29, []) = σ.boxes := by
      apply List.ext_getElem?
      intro j
      by_cases e : 1 = j
      · subst e; rw [List.getElem?_set_self hl, hb]
      · rw [List.getElem?_set_ne e]
    rw [this]
  · rename_i h0
    exact opB_box (P := Try.prog) (σ := σ) (e := 29) (sz := 8) ho hc ha ht hx hb rfl rfl rfl rfl hs ⟨by decide, rfl, hm⟩ ⟨by unfold maxLen; omega, by show _ * 80 ≤ _; omega, hcs.symm, by omega⟩
theorem opB_sl2 {n m : Nat} {cs ds : List AV} (ho : o.op = .call c) (hc : c.callee = .builtin .append) (ha : c.args.toList = [x, y]) (ht : c.argTypes.toList = [27, 27]) (hx : ρ x = sl2 n) (hb : σ.boxes[1]? = some (29, cs)) (hcs : cs.length = n * 8) (hn : 2 ≤ n)
    (hs : aSrc Try.prog σ 8 27 27 (ρ y) = some (m, ds)) (hm : 0 < m) (hmax : n + m ≤ 10000) : aopB Try.prog ρ σ o = some (.bsl σ.boxes.length 0 (n - 2 + m) 8 false, { σ with boxes := σ.boxes ++ [(29, cs.take ((n - 2) * 8) ++ ds)] }) := by
  unfold sl2 at hx
  split at hx
  · rename_i h0
    subst h0
    have h := opB_list (P := Try.prog) (σ := σ) (e := 29) (sz := 8) ho hc ha ht hx rfl rfl rfl rfl hs ⟨by decide, rfl, hm⟩ ⟨rfl, by unfold maxLen; omega, by show _ * 80 ≤ _; omega⟩
    rw [h]; simp
  · rename_i h0
    have hu : Try.prog.underlying 27 = some (.slice 29) := rfl
    obtain ⟨i, hi, hi8, hib⟩ : ∃ i, Try.prog.info? 29 = some i ∧ i.size = 8 ∧ i.bytes = 80 := ⟨_, rfl, rfl, rfl⟩
    obtain ⟨z, hz, hzs⟩ : ∃ z, i.zero = some z ∧ z.cells.size = 8 := by
      have : Try.prog.info? 29 = some i := hi
      cases hi
      exact ⟨_, rfl, rfl⟩
    simp only [aopB, ho, hc, ha, ht, aAppB, hu, hi, hz, hi8, hs, hx, hb, hzs]
    rw [if_pos ⟨by decide, trivial, hm⟩]
    rw [if_pos ⟨trivial, by unfold maxLen; omega, by rw [hib]; omega, by omega⟩]
    simp
theorem q_slice2 {n : Nat} {h1 h2 : Operand} (ho : o.op = .slice 27 x none (some h1) (some h2)) (hn : 2 ≤ n) (hx : ρ x = .bsl 1 0 n 8 false) (e1 : ρ h1 = .raw (.int .i64 ((n - 2 : Nat) : Int))) (e2 : ρ h2 = .raw (.int .i64 ((n - 2 : Nat) : Int))) : qop Try.prog ρ σ o = some (sl2 n) := by
  have hu : Try.prog.underlying 27 = some (.slice 29) := rfl
  have hs : sizeT Try.prog 29 = some 8 := rfl
  have hb : aBounds n none (some (.raw (.int .i64 ((n - 2 : Nat) : Int)))) (some (.raw (.int .i64 ((n - 2 : Nat) : Int)))) = some (0, n - 2, true) := by
    simp only [aBounds, aBound]
    rw [if_pos ⟨by omega, by omega⟩]
    simp only [Int.toNat_natCast]
    rw [if_pos ⟨by omega, by omega⟩]
    simp
  simp only [qop, ho, hx, Option.map_none, Option.map_some, e1, e2, aSlice, hu, hs, hb]
  unfold sl2
  by_cases h : n = 2
  · subst h; simp
  · rw [if_pos trivial, if_pos (by omega), if_neg h]; simp
theorem q_sliceTo {e : TypeId} {t : TypeId} {n N sz : Nat} {cs : List AV} {h1 : Operand} (ho : o.op = .slice t x none (some h1) none) (hx : ρ x = .list n cs .none) (e1 : ρ h1 = .raw (.int .i64 (N : Int))) (hu : Try.prog.underlying t = some (.slice e)) (hs : sizeT Try.prog e = some sz) (hN : N ≤ n) (hc : cs.length = n * sz) : qop Try.prog ρ σ o = some (.list N (cs.take (N * sz)) .none) := by
  have hb : aBounds n none (some (.raw (.int .i64 (N : Int)))) none = some (0, N, false) := by
    simp only [aBounds, aBound]
    rw [if_pos ⟨by omega, by omega⟩]
    simp
  simp only [qop, ho, hx, Option.map_none, Option.map_some, e1, aSlice, hu, hs, hb]
  rw [if_pos hc]
  simp
theorem q_sliceFrom1 {n : Nat} (ho : o.op = .slice 27 x (some (.const (.int .i64 1))) none none) (hn : 1 ≤ n) (hx : ρ x = .bsl 1 0 n 8 false) (e1 : ρ (.const (.int .i64 1)) = .raw (.int .i64 1)) : qop Try.prog ρ σ o = some (if n = 1 then .list 0 [] .none else .bsl 1 8 (n - 1) 8 false) := by
  have hu : Try.prog.underlying 27 = some (.slice 29) := rfl
  have hs : sizeT Try.prog 29 = some 8 := rfl
  have hb : aBounds n (some (.raw (.int .i64 1))) none none = some (1, n, false) := by
    simp only [aBounds, aBound]
    rw [if_pos ⟨by omega, by omega⟩]
    rfl
  simp only [qop, ho, hx, Option.map_none, Option.map_some, e1, aSlice, hu, hs, hb]
  by_cases h : n = 1
  · subst h; simp
  · rw [if_pos trivial, if_pos (by omega), if_neg h]; simp
theorem q_max3 {z : Operand} {k k' k'' : IntKind} {m n r : Int} (ho : o.op = .call c) (hc : c.callee = .builtin .max) (ha : c.args = #[x, y, z]) (hx : ρ x = .raw (.int k m)) (hy : ρ y = .raw (.int k' n)) (hz : ρ z = .raw (.int k'' r)) : qop Try.prog ρ σ o = some (.raw (.int k (max (max m n) r))) := by
  have e : (if n > m then n else m) = max m n := by split <;> omega
  have e2 : (if r > max m n then r else max m n) = max (max m n) r := by split <;> omega
  simp [qop, rawOp, ho, hc, ha, Op.operands, Call.operands, hx, hy, hz, toVal, execOp, rawEnv, resolve, invoke, builtin, Builtin.max_, Builtin.max2, val?, okVal, ofVal, ofCell, e, e2]
  simp [Pure.pure, Bind.bind, Sem.bind, val?, okVal, ofVal, ofCell, e, e2]
theorem q_conv {a : Nat} (ho : o.op = .convert 5 3 x) (hx : ρ x = .raw (.int .u8 (a : Nat))) (h : a < 256) : qop Try.prog ρ σ o = some (.raw (.int .i64 (a : Nat))) := by
  have hw : IntKind.i64.wrap (a : Int) = a := wrap_i64 (by omega) (by omega)
  have h5 : Try.prog.underlying 5 = some (.int .u8) := rfl
  have h3 : Try.prog.underlying 3 = some (.int .i64) := rfl
  simp [qop, rawOp, ho, Op.operands, hx, toVal, execOp, rawEnv, convert, underlying, program, val?, Bind.bind, Pure.pure, Sem.bind, Conv.intToInt, h5, h3, hw, okVal, ofVal, ofCell, Functor.map]
end
end Go.Ab
