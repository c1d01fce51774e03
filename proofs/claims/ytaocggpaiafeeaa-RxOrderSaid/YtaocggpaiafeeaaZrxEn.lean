/-
  Trees, sets, small steps as typed values; the contracts of rx in this form.
-/
import Derived.Test.YtaocggpaiafeeaaZabSh
import Derived.Test.YtaocggpaiafeeaaZrxAw
import Derived.Test.YtaocggpaiafeeaaZrxPj
set_option linter.unusedSimpArgs false
set_option linter.unusedVariables false
namespace Go.Ab
open Go Go.RowKit Go.Fwd Go.Proofs

def cellsP (t : Tr) : List AV := [.raw (.int .u8 t.k), .raw (.int .u64 (wd t.s 0)), .raw (.int .u64 (wd t.s 1)), .raw (.int .u64 (wd t.s 2)), .raw (.int .u64 (wd t.s 3)), .raw (.int .i64 t.mn), .raw (.int .i64 t.mx), .list t.l.length (cellsL t.l) .none]
theorem cellsP_eq (t : Tr) : cells t = cellsP t := cells_eq t
instance : Enc Tr where
  inh := noneT
  cells := cellsP
  cellsL := cellsL
  sz := 8
  pos := by decide
  nil := by simp [cellsL]
  cons a l := by rw [cellsL, cellsP_eq]
  len _ := rfl
  clo t := by rw [← cellsP_eq]; exact clo_cells t
theorem enc_eq (t : Tr) : enc t = .agg (Enc.cells t) := by rw [enc, cellsP_eq]; rfl
theorem cells_kind {E : Int} (g : 0 ≤ E) (s : BS) (mn mx : Int) (l : List Tr) : AV.agg (Enc.cells (Tr.mk (Int.toNat E) s mn mx l)) = .agg [.raw (.int .u8 E), .raw (.int .u64 (wd s 0)), .raw (.int .u64 (wd s 1)), .raw (.int .u64 (wd s 2)), .raw (.int .u64 (wd s 3)), .raw (.int .i64 mn), .raw (.int .i64 mx), .list l.length (cellsL l) .none] := by
  show AV.agg (cellsP _) = _
  simp only [cellsP, Tr.k, Tr.s, Tr.mn, Tr.mx, Tr.l, Int.toNat_of_nonneg g]
def nodeR (t : Tr) (st : Room) : AV := .agg [.raw (.int .u8 t.k), .raw (.int .u64 (wd t.s 0)), .raw (.int .u64 (wd t.s 1)), .raw (.int .u64 (wd t.s 2)), .raw (.int .u64 (wd t.s 3)), .raw (.int .i64 t.mn), .raw (.int .i64 t.mx), .list t.l.length (cellsL t.l) st]
theorem strip_nodeR (t : Tr) (st : Room) : strip (nodeR t st) = .agg (Enc.cells t) := by
  simp only [nodeR, strip, stripL, strip_cellsL]; rfl
def cellsB (s : BS) : List AV := [.raw (.int .u64 (wd s 0)), .raw (.int .u64 (wd s 1)), .raw (.int .u64 (wd s 2)), .raw (.int .u64 (wd s 3))]
instance : Enc BS where
  inh := 0#256
  cells := cellsB
  cellsL l := l.flatMap cellsB
  sz := 4
  pos := by decide
  nil := rfl
  cons _ _ := rfl
  len _ := rfl
  clo _ := rfl
theorem set4_eq (s : BS) : set4 s = .agg (Enc.cells s) := rfl
instance : Enc Sm where
  inh := (0, 0, 0)
  cells := smc
  cellsL := smcL
  sz := 3
  pos := by decide
  nil := by simp [smcL]
  cons _ _ := by simp [smcL]
  len _ := rfl
  clo _ := rfl
/-- A regex. -/
structure Rgx where
  b : Bool
  e : Bool
  t : Tr
def cellsR (r : Rgx) : List AV := .raw (.bool r.b) :: .raw (.bool r.e) :: cellsP r.t
instance : Enc Rgx where
  inh := ⟨false, false, noneT⟩
  cells := cellsR
  cellsL l := l.flatMap cellsR
  sz := 10
  pos := by decide
  nil := rfl
  cons _ _ := rfl
  len _ := rfl
  clo r := by have := Enc.clo r.t; exact this
section
theorem k_made (l : List Sm) (h : l.length < 2 ^ 63) : Pure (ITP Try.prog) Try.prog 9 [.list l.length (Enc.cellsL l) .none] (.agg (Enc.cells (madeT l))) := by rw [← enc_eq]; exact made_pure l h
theorem k_seq (l : List Tr) (h : (preL l).length ≤ 2 ^ 40) : Pure (ITP Try.prog) Try.prog 10 [.list l.length (Enc.cellsL l) .none] (.agg (Enc.cells (seqT l))) := by rw [← enc_eq]; exact seq_pure l h .none
theorem k_or (l : List Tr) (h : (preL l).length ≤ 2 ^ 40) : Pure (ITP Try.prog) Try.prog 11 [.list l.length (Enc.cellsL l) .none] (.agg (Enc.cells (orT l))) := by rw [← enc_eq]; exact or_pure l h .none
theorem k_clean (t : Tr) (h : (pre t).length < 2 ^ 61) : Pure (ITP Try.prog) Try.prog 12 [.agg (Enc.cells t)] (.raw (.bool (cleanT t))) := by rw [← enc_eq]; exact clean_at t (by omega)
theorem k_check (r : Rgx) (h : (pre r.t).length < 2 ^ 61) : Pure (ITP Try.prog) Try.prog 13 [.agg (Enc.cells r)] (.raw (.int .i64 (checkE r.t))) := by
  have := check_at r.t h r.b r.e
  rw [cellsP_eq] at this; exact this
theorem k_same (a b : Tr) (h : (pre a).length < 2 ^ 61 ∧ (pre b).length < 2 ^ 61) : Pure (ITP Try.prog) Try.prog 14 [.agg (Enc.cells a), .agg (Enc.cells b)] (.raw (.bool (sameB a b))) := by rw [← enc_eq, ← enc_eq]; exact sameB_at a b (by omega) (by omega)
theorem k_posn (t : Tr) (h : (pre t).length < 2 ^ 61) : Pure (ITP Try.prog) Try.prog 15 [.agg (Enc.cells t)] (.raw (.int .i64 (positionsT t))) := by rw [← enc_eq]; exact posn_at t (by omega)
theorem k_size (t : Tr) (h : (pre t).length < 2 ^ 61) : Pure (ITP Try.prog) Try.prog 16 [.agg (Enc.cells t)] (.raw (.int .i64 (sizeT' t))) := by rw [← enc_eq]; exact size_at t (by omega)
theorem k_groups (t : Tr) (h : (pre t).length < 2 ^ 61) : Pure (ITP Try.prog) Try.prog 17 [.agg (Enc.cells t)] (.raw (.int .i64 (groupsT t))) := by rw [← enc_eq]; exact groups_at t (by omega)
theorem k_times (t : Tr) (lo hi : Int) (h : (pre t).length < 2 ^ 61) : Pure (ITP Try.prog) Try.prog 19 [.agg (Enc.cells t), .raw (.int .i64 lo), .raw (.int .i64 hi)] (.agg (Enc.cells (timesT t lo hi))) := by rw [← enc_eq, ← enc_eq]; exact times_at t h lo hi
theorem k_cat (l : List Tr) : Pure (ITP Try.prog) Try.prog 21 [.list l.length (Enc.cellsL l) .none] (.agg (Enc.cells (Tr.mk 3 0#256 0 0 l))) := by rw [← enc_eq]; exact cat_pure l
theorem k_alt (l : List Tr) : Pure (ITP Try.prog) Try.prog 22 [.list l.length (Enc.cellsL l) .none] (.agg (Enc.cells (Tr.mk 4 0#256 0 0 l))) := by rw [← enc_eq]; exact alt_pure l
theorem k_rep (t : Tr) (lo hi : Int) : Pure (ITP Try.prog) Try.prog 23 [.agg (Enc.cells t), .raw (.int .i64 lo), .raw (.int .i64 hi)] (.agg (Enc.cells (Tr.mk 5 0#256 lo hi [t]))) := by rw [← enc_eq, ← enc_eq]; exact rep_at t lo hi
theorem k_group (t : Tr) : Pure (ITP Try.prog) Try.prog 24 [.agg (Enc.cells t)] (.agg (Enc.cells (Tr.mk 6 0#256 0 0 [t]))) := by rw [← enc_eq, ← enc_eq]; exact group_at t
theorem k_capture (t : Tr) (h : (pre t).length < 2 ^ 61) : Pure (ITP Try.prog) Try.prog 25 [.agg (Enc.cells t)] (.agg (Enc.cells (captureT t))) := by rw [← enc_eq, ← enc_eq]; exact capture_at t h
theorem k_of (s : BS) : Pure (ITP Try.prog) Try.prog 26 [.agg (Enc.cells s)] (.agg (Enc.cells (ofT s))) := by rw [← enc_eq]; exact of_pure s
theorem k_copy (t : Tr) (h : (pre t).length < 2 ^ 61) : Pure (ITP Try.prog) Try.prog 28 [.agg (Enc.cells t)] (.agg (Enc.cells (copyT t))) := by
  rw [← enc_eq, ← enc_eq]
  cases t; exact copy_mk _ _ _ _ _ (by omega)
theorem k_light (t : Tr) (h : (pre t).length < 2 ^ 61) : Pure (ITP Try.prog) Try.prog 35 [.agg (Enc.cells t)] (.raw (.bool (lightT t))) := by rw [← enc_eq]; exact light_at t (by omega)
def rowT (t : Tr) : List AV := [.agg (Enc.cells t)]
theorem k_nodes (t : Tr) (h : (pre t).length < 2 ^ 61) : Pure (ITP Try.prog) Try.prog 36 [.agg (Enc.cells t)] (.iter (List.map rowT (pre t))) := by
  have := nodes_at t (by omega)
  rw [← enc_eq]
  rw [rowsT, show (fun t => [enc t]) = rowT from funext fun t => by rw [enc_eq]; rfl] at this
  exact this
theorem k_awake : Pure (ITP Try.prog) Try.prog 8 [] (.raw (.bool true)) := awake_pure
end
end Go.Ab
