/-
  awake: a closed run with the contracts of rx as a table.
-/
import Derived.Test.YtaocggpaiafeeaaZrxMd
set_option linter.unusedSimpArgs false
set_option linter.unusedVariables false
namespace Go.Ab
open Go Go.RowKit Go.Fwd Go.Proofs

theorem sameB_at (a b : Tr) (ha : (pre a).length < 2 ^ 62) (hb : (pre b).length < 2 ^ 62) : Pure (ITP Try.prog) Try.prog 14 [enc a, enc b] (.raw (.bool (sameB a b))) := by
  cases a; cases b; exact sameB_mk _ _ _ _ _ _ _ _ _ _ ha hb
theorem times_at (a : Tr) (h : (pre a).length < 2 ^ 61) (lo hi : Int) : Pure (ITP Try.prog) Try.prog 19 [enc a, .raw (.int .i64 lo), .raw (.int .i64 hi)] (enc (timesT a lo hi)) := by
  cases a; exact times_mk _ _ _ _ _ h lo hi
theorem check_at (a : Tr) (h : (pre a).length < 2 ^ 61) (b e : Bool) : Pure (ITP Try.prog) Try.prog 13 [.agg (.raw (.bool b) :: .raw (.bool e) :: cells a)] (.raw (.int .i64 (checkE a))) := by
  cases a; exact check_mk _ _ _ _ _ h b e
theorem capture_at (a : Tr) (h : (pre a).length < 2 ^ 61) : Pure (ITP Try.prog) Try.prog 25 [enc a] (enc (captureT a)) := by
  cases a; exact capture_mk _ _ _ _ _ h
theorem rep_at (a : Tr) (lo hi : Int) : Pure (ITP Try.prog) Try.prog 23 [enc a, .raw (.int .i64 lo), .raw (.int .i64 hi)] (enc (.mk 5 0#256 lo hi [a])) := by
  cases a; exact rep_mk _ _ _ _ _ lo hi
theorem group_at (a : Tr) : Pure (ITP Try.prog) Try.prog 24 [enc a] (enc (.mk 6 0#256 0 0 [a])) := by
  cases a; exact group_mk _ _ _ _ _

/-! ### contracts as a table -/
def eqV : Value → Value → Bool
  | .int k a, .int k' b => decide (k = k') && decide (a = b)
  | .bool a, .bool b => a == b
  | .string a, .string b => decide (a.data = b.data)
  | _, _ => false
theorem eqV_ok {a b : Value} (h : eqV a b = true) : a = b := by
  unfold eqV at h
  split at h
  · simp only [Bool.and_eq_true, decide_eq_true_eq] at h; rw [h.1, h.2]
  · simp only [beq_iff_eq] at h; rw [h]
  · rename_i a b; simp only [decide_eq_true_eq] at h; cases a; cases b; simp only at h; rw [h]
  · cases h
mutual
def eqAV : AV → AV → Bool
  | .raw a, .raw b => eqV a b
  | .agg a, .agg b => eqAVL a b
  | .list n a .none, .list m b .none => decide (n = m) && eqAVL a b
  | _, _ => false
def eqAVL : List AV → List AV → Bool
  | [], [] => true
  | a :: l, b :: m => eqAV a b && eqAVL l m
  | _, _ => false
end
mutual
theorem eqAV_ok : ∀ a b, eqAV a b = true → a = b
  | .raw a, b, h => by
    cases b <;> simp only [eqAV] at h <;> first | (cases h; done) | rw [eqV_ok h]
  | .agg a, b, h => by
    cases b <;> simp only [eqAV] at h <;> first | (cases h; done) | rw [eqAVL_ok _ _ h]
  | .list n a st, b, h => by
    cases b with
    | list m c st' => cases st <;> cases st' <;> simp only [eqAV] at h <;> first | (cases h; done) | skip
                      rw [Bool.and_eq_true, decide_eq_true_eq] at h
                      rw [h.1, eqAVL_ok _ _ h.2]
    | _ => cases st <;> simp only [eqAV] at h <;> cases h
  | .tup _, _, h => by simp only [eqAV] at h; cases h
  | .ptr _ _, _, h => by simp only [eqAV] at h; cases h
  | .bsl _ _ _ _ _, _, h => by simp only [eqAV] at h; cases h
  | .iptr _, _, h => by simp only [eqAV] at h; cases h
  | .clos _ _, _, h => by simp only [eqAV] at h; cases h
  | .iter _, _, h => by simp only [eqAV] at h; cases h
  | .yld _, _, h => by simp only [eqAV] at h; cases h
  | .top, _, h => by simp only [eqAV] at h; cases h
  | .bad, _, h => by simp only [eqAV] at h; cases h
theorem eqAVL_ok : ∀ a b, eqAVL a b = true → a = b
  | [], [], _ => rfl
  | a :: l, b :: m, h => by
    simp only [eqAVL, Bool.and_eq_true] at h
    rw [eqAV_ok a b h.1, eqAVL_ok l m h.2]
  | [], _ :: _, h => by simp only [eqAVL] at h; cases h
  | _ :: _, [], h => by simp only [eqAVL] at h; cases h
end
structure Ct where
  f : Nat
  args : List AV
  r : AV
def tbl (T : List Ct) : CallP := fun f args => match T.find? (fun c => c.f == f && eqAVL c.args args) with
  | some c => some c.r
  | none => none
def CtOk (c : Ct) : Prop := Pure (ITP Try.prog) Try.prog c.f c.args c.r
theorem good_tbl {T : List Ct} (h : ∀ c ∈ T, CtOk c) : Good Try.prog (tbl T) := ⟨mix, ents, fun f args r e => by
  unfold tbl at e
  split at e
  · rename_i c hc
    cases e
    have h1 := List.find?_some hc
    simp only [Bool.and_eq_true, beq_iff_eq] at h1
    have h2 := h c (List.mem_of_find?_eq_some hc)
    rw [CtOk, h1.1, eqAVL_ok _ _ h1.2] at h2
    exact h2
  · cases e⟩
def aT := clsT [97]
def bT := clsT [98]
def cT := clsT [99]
def xT : Tr := .mk 4 0#256 0 0 [aT, .mk 3 0#256 0 0 [bT, .mk 5 0#256 0 (-1) [cT]]]
def yT : Tr := .mk 5 0#256 4 4 [.mk 6 0#256 0 0 [.mk 5 0#256 2 3 [aT]]]
theorem aw0 : CtOk ⟨20, [.raw (.string {data := #[97]})], enc (aT)⟩ := class_97
theorem aw1 : CtOk ⟨20, [.raw (.string {data := #[98]})], enc (bT)⟩ := class_98
theorem aw2 : CtOk ⟨20, [.raw (.string {data := #[99]})], enc (cT)⟩ := class_99
theorem aw3 : CtOk ⟨20, [.raw (.string {data := #[]})], enc (clsT [])⟩ := class_empty
theorem aw4 : CtOk ⟨16, [enc (xT)], .raw (.int .i64 6)⟩ := by
  have h := size_at (xT) (by decide +kernel)
  rw [show sizeT' (xT) = 6 from by kernel_rfl] at h
  exact h
theorem aw5 : CtOk ⟨15, [enc (xT)], .raw (.int .i64 3)⟩ := by
  have h := posn_at (xT) (by decide +kernel)
  rw [show positionsT (xT) = 3 from by kernel_rfl] at h
  exact h
theorem aw6 : CtOk ⟨17, [enc (xT)], .raw (.int .i64 0)⟩ := by
  have h := groups_at (xT) (by decide +kernel)
  rw [show groupsT (xT) = 0 from by kernel_rfl] at h
  exact h
theorem aw7 : CtOk ⟨12, [enc (xT)], .raw (.bool true)⟩ := by
  have h := clean_at (xT) (by decide +kernel)
  rw [show cleanT (xT) = true from by kernel_rfl] at h
  exact h
theorem aw8 : CtOk ⟨16, [enc (yT)], .raw (.int .i64 4)⟩ := by
  have h := size_at (yT) (by decide +kernel)
  rw [show sizeT' (yT) = 4 from by kernel_rfl] at h
  exact h
theorem aw9 : CtOk ⟨15, [enc (yT)], .raw (.int .i64 12)⟩ := by
  have h := posn_at (yT) (by decide +kernel)
  rw [show positionsT (yT) = 12 from by kernel_rfl] at h
  exact h
theorem aw10 : CtOk ⟨17, [enc (yT)], .raw (.int .i64 1)⟩ := by
  have h := groups_at (yT) (by decide +kernel)
  rw [show groupsT (yT) = 1 from by kernel_rfl] at h
  exact h
theorem aw11 : CtOk ⟨12, [enc (yT)], .raw (.bool true)⟩ := by
  have h := clean_at (yT) (by decide +kernel)
  rw [show cleanT (yT) = true from by kernel_rfl] at h
  exact h
theorem aw12 : CtOk ⟨13, [.agg (.raw (.bool false) :: .raw (.bool false) :: cells (yT))], .raw (.int .i64 0)⟩ := by
  have h := check_at (yT) (by decide +kernel) false false
  rw [show checkE (yT) = 0 from by kernel_rfl] at h
  exact h
theorem aw13 : CtOk ⟨10, [.list 2 (cellsL [bT, cT]) .none], enc (.mk 3 0#256 0 0 [bT, cT])⟩ := by
  have h := seq_pure [bT, cT] (by decide +kernel) .none
  rw [show seqT [bT, cT] = .mk 3 0#256 0 0 [bT, cT] from by kernel_rfl] at h
  exact h
theorem aw14 : CtOk ⟨10, [.list 2 (cellsL [aT, .mk 3 0#256 0 0 [bT, cT]]) .none], enc (.mk 3 0#256 0 0 [aT, bT, cT])⟩ := by
  have h := seq_pure [aT, .mk 3 0#256 0 0 [bT, cT]] (by decide +kernel) .none
  rw [show seqT [aT, .mk 3 0#256 0 0 [bT, cT]] = .mk 3 0#256 0 0 [aT, bT, cT] from by kernel_rfl] at h
  exact h
theorem aw15 : CtOk ⟨10, [.list 3 (cellsL [aT, bT, cT]) .none], enc (.mk 3 0#256 0 0 [aT, bT, cT])⟩ := by
  have h := seq_pure [aT, bT, cT] (by decide +kernel) .none
  rw [show seqT [aT, bT, cT] = .mk 3 0#256 0 0 [aT, bT, cT] from by kernel_rfl] at h
  exact h
theorem aw16 : CtOk ⟨14, [enc (.mk 3 0#256 0 0 [aT, bT, cT]), enc (.mk 3 0#256 0 0 [aT, bT, cT])], .raw (.bool true)⟩ := by
  have h := sameB_at (.mk 3 0#256 0 0 [aT, bT, cT]) (.mk 3 0#256 0 0 [aT, bT, cT]) (by decide +kernel) (by decide +kernel)
  rw [show sameB (.mk 3 0#256 0 0 [aT, bT, cT]) (.mk 3 0#256 0 0 [aT, bT, cT]) = true from by kernel_rfl] at h
  exact h
theorem aw17 : CtOk ⟨11, [.list 2 (cellsL [noneT, aT]) .none], enc (aT)⟩ := by
  have h := or_pure [noneT, aT] (by decide +kernel) .none
  rw [show orT [noneT, aT] = aT from by kernel_rfl] at h
  exact h
theorem aw18 : CtOk ⟨14, [enc (aT), enc (aT)], .raw (.bool true)⟩ := by
  have h := sameB_at (aT) (aT) (by decide +kernel) (by decide +kernel)
  rw [show sameB (aT) (aT) = true from by kernel_rfl] at h
  exact h
theorem aw19 : CtOk ⟨19, [enc (aT), .raw (.int .i64 1), .raw (.int .i64 1)], enc (aT)⟩ := by
  have h := times_at (aT) (by decide +kernel) (1) (1)
  rw [show timesT (aT) (1) (1) = aT from by kernel_rfl] at h
  exact h
theorem aw20 : CtOk ⟨19, [enc (noneT), .raw (.int .i64 0), .raw (.int .i64 (-1))], enc (emptyT)⟩ := by
  have h := times_at (noneT) (by decide +kernel) (0) (-1)
  rw [show timesT (noneT) (0) (-1) = emptyT from by kernel_rfl] at h
  exact h
theorem aw21 : CtOk ⟨14, [enc (emptyT), enc (emptyT)], .raw (.bool true)⟩ := by
  have h := sameB_at (emptyT) (emptyT) (by decide +kernel) (by decide +kernel)
  rw [show sameB (emptyT) (emptyT) = true from by kernel_rfl] at h
  exact h
theorem aw22 : CtOk ⟨12, [enc (.mk 3 0#256 0 0 [aT])], .raw (.bool false)⟩ := by
  have h := clean_at (.mk 3 0#256 0 0 [aT]) (by decide +kernel)
  rw [show cleanT (.mk 3 0#256 0 0 [aT]) = false from by kernel_rfl] at h
  exact h
theorem aw23 : CtOk ⟨12, [enc (.mk 4 0#256 0 0 [aT, .mk 4 0#256 0 0 [bT, cT]])], .raw (.bool false)⟩ := by
  have h := clean_at (.mk 4 0#256 0 0 [aT, .mk 4 0#256 0 0 [bT, cT]]) (by decide +kernel)
  rw [show cleanT (.mk 4 0#256 0 0 [aT, .mk 4 0#256 0 0 [bT, cT]]) = false from by kernel_rfl] at h
  exact h
theorem aw24 : CtOk ⟨12, [enc (.mk 5 0#256 1 1 [aT])], .raw (.bool false)⟩ := by
  have h := clean_at (.mk 5 0#256 1 1 [aT]) (by decide +kernel)
  rw [show cleanT (.mk 5 0#256 1 1 [aT]) = false from by kernel_rfl] at h
  exact h
theorem aw25 : CtOk ⟨12, [enc (.mk 5 0#256 3 2 [aT])], .raw (.bool false)⟩ := by
  have h := clean_at (.mk 5 0#256 3 2 [aT]) (by decide +kernel)
  rw [show cleanT (.mk 5 0#256 3 2 [aT]) = false from by kernel_rfl] at h
  exact h
theorem aw26 : CtOk ⟨12, [enc (clsT [])], .raw (.bool false)⟩ := by
  have h := clean_at (clsT []) (by decide +kernel)
  rw [show cleanT (clsT []) = false from by kernel_rfl] at h
  exact h
theorem aw27 : CtOk ⟨12, [enc (.mk 2 (bsOf [97]) 1 0 [])], .raw (.bool false)⟩ := by
  have h := clean_at (.mk 2 (bsOf [97]) 1 0 []) (by decide +kernel)
  rw [show cleanT (.mk 2 (bsOf [97]) 1 0 []) = false from by kernel_rfl] at h
  exact h
def awTbl : List Ct := [⟨20, [.raw (.string {data := #[97]})], enc (aT)⟩,
  ⟨20, [.raw (.string {data := #[98]})], enc (bT)⟩,
  ⟨20, [.raw (.string {data := #[99]})], enc (cT)⟩,
  ⟨20, [.raw (.string {data := #[]})], enc (clsT [])⟩,
  ⟨16, [enc (xT)], .raw (.int .i64 6)⟩,
  ⟨15, [enc (xT)], .raw (.int .i64 3)⟩,
  ⟨17, [enc (xT)], .raw (.int .i64 0)⟩,
  ⟨12, [enc (xT)], .raw (.bool true)⟩,
  ⟨16, [enc (yT)], .raw (.int .i64 4)⟩,
  ⟨15, [enc (yT)], .raw (.int .i64 12)⟩,
  ⟨17, [enc (yT)], .raw (.int .i64 1)⟩,
  ⟨12, [enc (yT)], .raw (.bool true)⟩,
  ⟨13, [.agg (.raw (.bool false) :: .raw (.bool false) :: cells (yT))], .raw (.int .i64 0)⟩,
  ⟨10, [.list 2 (cellsL [bT, cT]) .none], enc (.mk 3 0#256 0 0 [bT, cT])⟩,
  ⟨10, [.list 2 (cellsL [aT, .mk 3 0#256 0 0 [bT, cT]]) .none], enc (.mk 3 0#256 0 0 [aT, bT, cT])⟩,
  ⟨10, [.list 3 (cellsL [aT, bT, cT]) .none], enc (.mk 3 0#256 0 0 [aT, bT, cT])⟩,
  ⟨14, [enc (.mk 3 0#256 0 0 [aT, bT, cT]), enc (.mk 3 0#256 0 0 [aT, bT, cT])], .raw (.bool true)⟩,
  ⟨11, [.list 2 (cellsL [noneT, aT]) .none], enc (aT)⟩,
  ⟨14, [enc (aT), enc (aT)], .raw (.bool true)⟩,
  ⟨19, [enc (aT), .raw (.int .i64 1), .raw (.int .i64 1)], enc (aT)⟩,
  ⟨19, [enc (noneT), .raw (.int .i64 0), .raw (.int .i64 (-1))], enc (emptyT)⟩,
  ⟨14, [enc (emptyT), enc (emptyT)], .raw (.bool true)⟩,
  ⟨12, [enc (.mk 3 0#256 0 0 [aT])], .raw (.bool false)⟩,
  ⟨12, [enc (.mk 4 0#256 0 0 [aT, .mk 4 0#256 0 0 [bT, cT]])], .raw (.bool false)⟩,
  ⟨12, [enc (.mk 5 0#256 1 1 [aT])], .raw (.bool false)⟩,
  ⟨12, [enc (.mk 5 0#256 3 2 [aT])], .raw (.bool false)⟩,
  ⟨12, [enc (clsT [])], .raw (.bool false)⟩,
  ⟨12, [enc (.mk 2 (bsOf [97]) 1 0 [])], .raw (.bool false)⟩]
theorem awTbl_ok : ∀ c ∈ awTbl, CtOk c := by
  unfold awTbl
  simp only [List.forall_mem_cons, List.not_mem_nil, false_implies, implies_true, and_true]
  exact ⟨aw0, aw1, aw2, aw3, aw4, aw5, aw6, aw7, aw8, aw9, aw10, aw11, aw12, aw13, aw14, aw15, aw16, aw17, aw18, aw19, aw20, aw21, aw22, aw23, aw24, aw25, aw26, aw27⟩
theorem awake_pure : Pure (ITP Try.prog) Try.prog 8 [] (.raw (.bool true)) := run_pure_call (good_tbl awTbl_ok) 300 (by kernel_rfl)
end Go.Ab
