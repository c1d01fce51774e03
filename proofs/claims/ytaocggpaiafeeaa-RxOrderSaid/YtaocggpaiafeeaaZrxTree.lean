/-
  Trees of rx, in abstract words.
-/
import Derived.Test.YtaocggpaiafeeaaZabAbQ
set_option linter.unusedSimpArgs false
set_option linter.unusedVariables false
namespace Go.Ab
open Go Go.RowKit Go.Fwd

abbrev BS := BitVec 256
def W64 (S : BS) (i : Nat) : BitVec 64 := S.extractLsb' (64 * i) 64
def wd (S : BS) (i : Nat) : Int := ((W64 S i).toNat : Int)
inductive Tr where
  | mk (k : Nat) (s : BS) (mn mx : Int) (l : List Tr)
def Tr.k : Tr → Nat | .mk k _ _ _ _ => k
def Tr.s : Tr → BS | .mk _ s _ _ _ => s
def Tr.mn : Tr → Int | .mk _ _ m _ _ => m
def Tr.mx : Tr → Int | .mk _ _ _ m _ => m
def Tr.l : Tr → List Tr | .mk _ _ _ _ l => l
theorem Tr.eta (t : Tr) : t = .mk t.k t.s t.mn t.mx t.l := by cases t; rfl
theorem Tr.sizeOf_l {t x : Tr} (h : x ∈ t.l) : SizeOf.sizeOf x < SizeOf.sizeOf t := by
  cases t with
  | mk k s mn mx l => simp only [Tr.l] at h; have := List.sizeOf_lt_of_mem h; simp; omega
mutual
/-- The cells of a node. -/
def cells : Tr → List AV
  | .mk k s mn mx l => [.raw (.int .u8 k), .raw (.int .u64 (wd s 0)), .raw (.int .u64 (wd s 1)), .raw (.int .u64 (wd s 2)), .raw (.int .u64 (wd s 3)), .raw (.int .i64 mn), .raw (.int .i64 mx), .list l.length (cellsL l) .none]
def cellsL : List Tr → List AV
  | [] => []
  | t :: l => cells t ++ cellsL l
end
def enc (t : Tr) : AV := .agg (cells t)
theorem cells_length (t : Tr) : (cells t).length = 8 := by cases t; simp [cells]
theorem cells_eq (t : Tr) : cells t = [.raw (.int .u8 t.k), .raw (.int .u64 (wd t.s 0)), .raw (.int .u64 (wd t.s 1)), .raw (.int .u64 (wd t.s 2)), .raw (.int .u64 (wd t.s 3)), .raw (.int .i64 t.mn), .raw (.int .i64 t.mx), .list t.l.length (cellsL t.l) .none] := by cases t; simp [cells, Tr.k, Tr.s, Tr.mn, Tr.mx, Tr.l]
theorem cellsL_length : ∀ l, (cellsL l).length = l.length * 8
  | [] => by simp [cellsL]
  | t :: l => by rw [cellsL, List.length_append, cells_length, cellsL_length l, List.length_cons]; omega
theorem cellsL_drop : ∀ (l : List Tr) (i : Nat), (cellsL l).drop (i * 8) = cellsL (l.drop i)
  | l, 0 => by simp
  | [], i + 1 => by simp [cellsL]
  | t :: l, i + 1 => by
    rw [cellsL, List.drop_succ_cons, ← cellsL_drop l i, List.drop_append, cells_length]
    have : (i + 1) * 8 - 8 = i * 8 := by omega
    rw [this, List.drop_of_length_le (by rw [cells_length]; omega), List.nil_append]
theorem cellsL_at {l : List Tr} {i : Nat} (hi : i < l.length) : ((cellsL l).drop (i * 8)).take 8 = cells l[i] := by
  rw [cellsL_drop, List.drop_eq_getElem_cons hi, cellsL, List.take_append_of_le_length (by rw [cells_length]; exact Nat.le_refl _)]
  rw [← cells_length l[i], List.take_length]
theorem cellsL_at_len {l : List Tr} {i : Nat} (hi : i < l.length) : 8 ≤ ((cellsL l).drop (i * 8)).length := by
  rw [List.length_drop, cellsL_length]; omega
theorem cellsL_ne {l : List Tr} (h : l ≠ []) : cellsL l ≠ [] := by
  intro e
  have := cellsL_length l
  rw [e] at this
  simp at this
  exact h (List.length_eq_zero_iff.1 (by omega))
mutual
theorem okTrim_cells (n : Nat) : ∀ t, okTrimL n (cells t) = true
  | .mk k s mn mx l => by simp [cells, okTrimL, okTrim, okTrim_cellsL n l]
theorem okTrim_cellsL (n : Nat) : ∀ l, okTrimL n (cellsL l) = true
  | [] => by simp [cellsL, okTrimL]
  | t :: l => by
    rw [cellsL, okTrimL_all, List.all_append, ← okTrimL_all, ← okTrimL_all, okTrim_cells n t, okTrim_cellsL n l]; rfl
end
mutual
theorem noIter_cells : ∀ t, noIterL (cells t) = true
  | .mk k s mn mx l => by simp [cells, noIterL, noIter, noIter_cellsL l]
theorem noIter_cellsL : ∀ l, noIterL (cellsL l) = true
  | [] => by simp [cellsL, noIterL]
  | t :: l => by
    have h : ∀ l m : List AV, noIterL (l ++ m) = (noIterL l && noIterL m) := fun l m => by
      induction l with
      | nil => simp [noIterL]
      | cons a l ih => rw [List.cons_append, noIterL, noIterL, ih, Bool.and_assoc]
    rw [cellsL, h, noIter_cells t, noIter_cellsL l]; rfl
end
mutual
theorem strip_cells : ∀ t, stripL (cells t) = cells t
  | .mk k s mn mx l => by simp [cells, stripL, strip, strip_cellsL l]
theorem strip_cellsL : ∀ l, stripL (cellsL l) = cellsL l
  | [] => by simp [cellsL, stripL]
  | t :: l => by
    rw [cellsL, stripL_map, List.map_append, ← stripL_map, ← stripL_map, strip_cells t, strip_cellsL l]
end
mutual
theorem mapPtr_cells (g : FZ) : ∀ t, mapPtrL g (cells t) = cells t
  | .mk k s mn mx l => by simp [cells, mapPtrL, mapPtr, mapPtr_cellsL g l]
theorem mapPtr_cellsL (g : FZ) : ∀ l, mapPtrL g (cellsL l) = cellsL l
  | [] => by simp [cellsL, mapPtrL]
  | t :: l => by
    have h : ∀ l m : List AV, mapPtrL g (l ++ m) = mapPtrL g l ++ mapPtrL g m := fun l m => by
      induction l with
      | nil => simp [mapPtrL]
      | cons a l ih => rw [List.cons_append, mapPtrL, mapPtrL, ih, List.cons_append]
    rw [cellsL, h, mapPtr_cells g t, mapPtr_cellsL g l]
end
mutual
theorem clo_cells : ∀ t, cloL (cells t) = true
  | .mk k s mn mx l => by simp [cells, cloL, clo, clo_cellsL l]
theorem clo_cellsL : ∀ l, cloL (cellsL l) = true
  | [] => by simp [cellsL, cloL]
  | t :: l => by rw [cellsL, cloL_append, clo_cells t, clo_cellsL l]; rfl
end
theorem clo_enc (t : Tr) : clo (enc t) = true := by rw [enc, clo]; exact clo_cells t
theorem okTrim_enc (n : Nat) (t : Tr) : okTrim n (enc t) = true := by rw [enc, okTrim]; exact okTrim_cells n t
theorem strip_enc (t : Tr) : strip (enc t) = enc t := by rw [enc, strip, strip_cells]
theorem noIter_enc (t : Tr) : noIter (enc t) = true := by rw [enc, noIter]; exact noIter_cells t

mutual
/-- All nodes, each before those of its Subs. -/
def pre : Tr → List Tr
  | .mk k s mn mx l => .mk k s mn mx l :: preL l
def preL : List Tr → List Tr
  | [] => []
  | t :: l => pre t ++ preL l
end
theorem pre_eq (t : Tr) : pre t = t :: preL t.l := by cases t; simp [pre, Tr.l]
def rowsT (l : List Tr) : List (List AV) := l.map fun t => [enc t]
end Go.Ab
