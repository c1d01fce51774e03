/-
  trace: TraceGoes.
-/
import Derived.Test.YtcdmdnadilafhaaDoorZtBld
import Derived.Test.YtcdmdnadilafhaaDoorZtW2
set_option linter.unusedSimpArgs false
set_option linter.unusedVariables false
namespace Go.Ab
open Go Go.RowKit Go.Fwd Go.Proofs

structure Ct where
  f : Nat
  args : List AV
  r : AV
/-- A table of contracts, and the library's. -/
def tblT (T : List Ct) : CallP := fun f args => match T.find? (fun c => c.f == f && eqAVL c.args args) with
  | some c => some c.r
  | none => libP f args
def CtOk (c : Ct) : Prop := Pure (ITP Tryd.prog) Tryd.prog c.f c.args c.r
theorem good_tblT {T : List Ct} (h : ∀ c ∈ T, CtOk c) : Good Tryd.prog (tblT T) bldS := ⟨mix, ents, fun f args r e => by
  unfold tblT at e
  split at e
  · rename_i c hc
    cases e
    have h1 := List.find?_some hc
    simp only [Bool.and_eq_true, beq_iff_eq] at h1
    have h2 := h c (List.mem_of_find?_eq_some hc)
    rw [CtOk, h1.1, eqAVL_ok _ _ h1.2] at h2
    exact h2
  · exact libP_ok f args r e, bldS_ok⟩
def sV (l : List Nat) : AV := .raw (.string ⟨(l.map fun b => UInt8.ofNat b).toArray⟩)
def iV (n : Int) : AV := .raw (.int .i64 n)
def uV (n : Int) : AV := .raw (.int .u8 n)
def bV (b : Bool) : AV := .raw (.bool b)
def enV (k : Int) (a b : Int) (s : List Nat) : List AV := [uV k, iV a, iV b, sV s]
def trV (n : Nat) (cs : List AV) (k c : Int) : AV := .agg [.list n cs .none, uV k, iV c]
def exC : List AV := enV 1 0 0 [104, 105] ++ enV 2 0 3 [] ++ enV 3 3 5 [] ++ enV 2 5 5 []
def exT : AV := trV 4 exC 2 7
def fiT (k c : Int) : AV := trV 2 (enV 1 0 0 [104, 105] ++ enV 2 0 3 []) k c
def noT : AV := trV 0 [] 0 0
theorem aw0 : CtOk ⟨38, [(sV [115, 101, 110, 100, 32, 34, 104, 105, 34])], (.tup [.agg [uV 0, iV 0], bV false])⟩ := run_pure_call goodT 300 (by kernel_rfl)
theorem aw1 : CtOk ⟨39, [(sV [115, 101, 110, 100, 32, 34, 104, 105, 34])], (.tup [(.agg (enV 1 0 0 [104, 105])), bV true])⟩ := run_pure_call goodT 300 (by kernel_rfl)
theorem aw2 : CtOk ⟨38, [(sV [116, 97, 107, 101, 32, 48, 32, 51])], (.tup [.agg [uV 0, iV 0], bV false])⟩ := run_pure_call goodT 300 (by kernel_rfl)
theorem aw3 : CtOk ⟨39, [(sV [116, 97, 107, 101, 32, 48, 32, 51])], (.tup [(.agg (enV 2 0 3 [])), bV true])⟩ := run_pure_call goodT 300 (by kernel_rfl)
theorem aw4 : CtOk ⟨38, [(sV [108, 111, 115, 101, 32, 51, 32, 53])], (.tup [.agg [uV 0, iV 0], bV false])⟩ := run_pure_call goodT 300 (by kernel_rfl)
theorem aw5 : CtOk ⟨39, [(sV [108, 111, 115, 101, 32, 51, 32, 53])], (.tup [(.agg (enV 3 3 5 [])), bV true])⟩ := run_pure_call goodT 300 (by kernel_rfl)
theorem aw6 : CtOk ⟨38, [(sV [116, 97, 107, 101, 32, 53, 32, 53])], (.tup [.agg [uV 0, iV 0], bV false])⟩ := run_pure_call goodT 300 (by kernel_rfl)
theorem aw7 : CtOk ⟨39, [(sV [116, 97, 107, 101, 32, 53, 32, 53])], (.tup [(.agg (enV 2 5 5 [])), bV true])⟩ := run_pure_call goodT 300 (by kernel_rfl)
theorem aw8 : CtOk ⟨38, [(sV [101, 120, 105, 116, 32, 55])], (.tup [.agg [uV 2, iV 7], bV true])⟩ := run_pure_call goodT 300 (by kernel_rfl)
theorem aw9 : CtOk ⟨38, [(sV [116, 97, 107, 101, 32, 49, 32, 50])], (.tup [.agg [uV 0, iV 0], bV false])⟩ := run_pure_call goodT 300 (by kernel_rfl)
theorem aw10 : CtOk ⟨39, [(sV [116, 97, 107, 101, 32, 49, 32, 50])], (.tup [(.agg (enV 2 1 2 [])), bV true])⟩ := run_pure_call goodT 300 (by kernel_rfl)
theorem aw11 : CtOk ⟨38, [(sV [108, 111, 115, 101, 32, 48, 32, 48])], (.tup [.agg [uV 0, iV 0], bV false])⟩ := run_pure_call goodT 300 (by kernel_rfl)
theorem aw12 : CtOk ⟨39, [(sV [108, 111, 115, 101, 32, 48, 32, 48])], (.tup [(.agg (enV 3 0 0 [])), bV true])⟩ := run_pure_call goodT 300 (by kernel_rfl)
theorem aw13 : CtOk ⟨38, [(sV [114, 117, 110, 110, 105, 110, 103])], (.tup [.agg [uV 1, iV 0], bV true])⟩ := run_pure_call goodT 300 (by kernel_rfl)
def lnTbl : List Ct := [
  ⟨38, [(sV [115, 101, 110, 100, 32, 34, 104, 105, 34])], (.tup [.agg [uV 0, iV 0], bV false])⟩,
  ⟨39, [(sV [115, 101, 110, 100, 32, 34, 104, 105, 34])], (.tup [(.agg (enV 1 0 0 [104, 105])), bV true])⟩,
  ⟨38, [(sV [116, 97, 107, 101, 32, 48, 32, 51])], (.tup [.agg [uV 0, iV 0], bV false])⟩,
  ⟨39, [(sV [116, 97, 107, 101, 32, 48, 32, 51])], (.tup [(.agg (enV 2 0 3 [])), bV true])⟩,
  ⟨38, [(sV [108, 111, 115, 101, 32, 51, 32, 53])], (.tup [.agg [uV 0, iV 0], bV false])⟩,
  ⟨39, [(sV [108, 111, 115, 101, 32, 51, 32, 53])], (.tup [(.agg (enV 3 3 5 [])), bV true])⟩,
  ⟨38, [(sV [116, 97, 107, 101, 32, 53, 32, 53])], (.tup [.agg [uV 0, iV 0], bV false])⟩,
  ⟨39, [(sV [116, 97, 107, 101, 32, 53, 32, 53])], (.tup [(.agg (enV 2 5 5 [])), bV true])⟩,
  ⟨38, [(sV [101, 120, 105, 116, 32, 55])], (.tup [.agg [uV 2, iV 7], bV true])⟩,
  ⟨38, [(sV [116, 97, 107, 101, 32, 49, 32, 50])], (.tup [.agg [uV 0, iV 0], bV false])⟩,
  ⟨39, [(sV [116, 97, 107, 101, 32, 49, 32, 50])], (.tup [(.agg (enV 2 1 2 [])), bV true])⟩,
  ⟨38, [(sV [108, 111, 115, 101, 32, 48, 32, 48])], (.tup [.agg [uV 0, iV 0], bV false])⟩,
  ⟨39, [(sV [108, 111, 115, 101, 32, 48, 32, 48])], (.tup [(.agg (enV 3 0 0 [])), bV true])⟩,
  ⟨38, [(sV [114, 117, 110, 110, 105, 110, 103])], (.tup [.agg [uV 1, iV 0], bV true])⟩]
theorem lnTbl_ok : ∀ c ∈ lnTbl, CtOk c := by
  unfold lnTbl
  simp only [List.forall_mem_cons, List.not_mem_nil, false_implies, implies_true, and_true]
  exact ⟨aw0, aw1, aw2, aw3, aw4, aw5, aw6, aw7, aw8, aw9, aw10, aw11, aw12, aw13⟩
theorem aw14 : CtOk ⟨16, [(sV [115, 101, 110, 100, 32, 34, 104, 105, 34, 10, 116, 97, 107, 101, 32, 48, 32, 51, 10, 108, 111, 115, 101, 32, 51, 32, 53, 10, 116, 97, 107, 101, 32, 53, 32, 53, 10, 101, 120, 105, 116, 32, 55, 10])], (.tup [exT, iV 0, iV 0])⟩ := run_pure_call (good_tblT lnTbl_ok) 300 (by kernel_rfl)
theorem aw15 : CtOk ⟨16, [(sV [116, 97, 107, 101, 32, 49, 32, 50, 10])], (.tup [noT, iV 1, iV 332])⟩ := run_pure_call (good_tblT lnTbl_ok) 300 (by kernel_rfl)
theorem aw16 : CtOk ⟨16, [(sV [108, 111, 115, 101, 32, 48, 32, 48, 10])], (.tup [noT, iV 1, iV 332])⟩ := run_pure_call (good_tblT lnTbl_ok) 300 (by kernel_rfl)
theorem aw17 : CtOk ⟨16, [(sV [114, 117, 110, 110, 105, 110, 103, 10, 114, 117, 110, 110, 105, 110, 103, 10])], (.tup [noT, iV 2, iV 332])⟩ := run_pure_call (good_tblT lnTbl_ok) 300 (by kernel_rfl)
theorem aw18 : CtOk ⟨16, [(sV [])], (.tup [noT, iV 1, iV 332])⟩ := run_pure_call (good_tblT lnTbl_ok) 300 (by kernel_rfl)
theorem aw19 : CtOk ⟨32, [], exT⟩ := run_pure_call goodT 300 (by kernel_rfl)
theorem aw20 : CtOk ⟨15, [exT], (.tup [(sV [115, 101, 110, 100, 32, 34, 104, 105, 34, 10, 116, 97, 107, 101, 32, 48, 32, 51, 10, 108, 111, 115, 101, 32, 51, 32, 53, 10, 116, 97, 107, 101, 32, 53, 32, 53, 10, 101, 120, 105, 116, 32, 55, 10]), iV 0])⟩ := run_pure_call goodT 300 (by kernel_rfl)
theorem aw21 : CtOk ⟨26, [fiT 1 0, exT], (.tup [iV 2, bV true])⟩ := run_pure_call goodT 300 (by kernel_rfl)
theorem aw22 : CtOk ⟨17, [exT, exT], (bV true)⟩ := run_pure_call goodT 300 (by kernel_rfl)
theorem aw23 : CtOk ⟨24, [exT], (sV [104, 105])⟩ := run_pure_call goodT 300 (by kernel_rfl)
theorem aw24 : CtOk ⟨22, [exT], (iV 3)⟩ := run_pure_call goodT 300 (by kernel_rfl)
theorem aw25 : CtOk ⟨23, [exT], (iV 2)⟩ := run_pure_call goodT 300 (by kernel_rfl)
theorem aw26 : CtOk ⟨20, [exT], (iV 5)⟩ := run_pure_call goodT 300 (by kernel_rfl)
theorem aw27 : CtOk ⟨18, [fiT 1 0, exT], (bV true)⟩ := run_pure_call goodT 300 (by kernel_rfl)
theorem aw28 : CtOk ⟨18, [fiT 2 7, exT], (bV false)⟩ := run_pure_call goodT 300 (by kernel_rfl)
def awTbl : List Ct := [
  ⟨16, [(sV [115, 101, 110, 100, 32, 34, 104, 105, 34, 10, 116, 97, 107, 101, 32, 48, 32, 51, 10, 108, 111, 115, 101, 32, 51, 32, 53, 10, 116, 97, 107, 101, 32, 53, 32, 53, 10, 101, 120, 105, 116, 32, 55, 10])], (.tup [exT, iV 0, iV 0])⟩,
  ⟨16, [(sV [116, 97, 107, 101, 32, 49, 32, 50, 10])], (.tup [noT, iV 1, iV 332])⟩,
  ⟨16, [(sV [108, 111, 115, 101, 32, 48, 32, 48, 10])], (.tup [noT, iV 1, iV 332])⟩,
  ⟨16, [(sV [114, 117, 110, 110, 105, 110, 103, 10, 114, 117, 110, 110, 105, 110, 103, 10])], (.tup [noT, iV 2, iV 332])⟩,
  ⟨16, [(sV [])], (.tup [noT, iV 1, iV 332])⟩,
  ⟨32, [], exT⟩,
  ⟨15, [exT], (.tup [(sV [115, 101, 110, 100, 32, 34, 104, 105, 34, 10, 116, 97, 107, 101, 32, 48, 32, 51, 10, 108, 111, 115, 101, 32, 51, 32, 53, 10, 116, 97, 107, 101, 32, 53, 32, 53, 10, 101, 120, 105, 116, 32, 55, 10]), iV 0])⟩,
  ⟨26, [fiT 1 0, exT], (.tup [iV 2, bV true])⟩,
  ⟨17, [exT, exT], (bV true)⟩,
  ⟨24, [exT], (sV [104, 105])⟩,
  ⟨22, [exT], (iV 3)⟩,
  ⟨23, [exT], (iV 2)⟩,
  ⟨20, [exT], (iV 5)⟩,
  ⟨18, [fiT 1 0, exT], (bV true)⟩,
  ⟨18, [fiT 2 7, exT], (bV false)⟩]
theorem awTbl_ok : ∀ c ∈ awTbl, CtOk c := by
  unfold awTbl
  simp only [List.forall_mem_cons, List.not_mem_nil, false_implies, implies_true, and_true]
  exact ⟨aw14, aw15, aw16, aw17, aw18, aw19, aw20, aw21, aw22, aw23, aw24, aw25, aw26, aw27, aw28⟩
theorem awake_pure : Pure (ITP Tryd.prog) Tryd.prog 13 [] (.raw (.bool true)) := run_pure_call (good_tblT awTbl_ok) 300 (by kernel_rfl)
end Go.Ab
set_option linter.unusedSimpArgs false
set_option linter.unusedVariables false
namespace Go.Ab
open Go Go.RowKit Go.Fwd Go.Proofs
end Go.Ab

