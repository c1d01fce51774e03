/-
  trace: Check, Taken, Lost, At, Sent: plain.
-/
import Derived.Test.YtcdmdnadilafhaaGreatDoorZyBld
import Derived.Test.YtcdmdnadilafhaaGreatDoorZyEn2
import Derived.Test.YtcdmdnadilafhaaGreatDoorZdQo
import Derived.Test.YtcdmdnadilafhaaGreatDoorZyQc
import Derived.Test.YtcdmdnadilafhaaGreatDoorZyW7
import Derived.Test.YtcdmdnadilafhaaGreatDoorZyBd
set_option linter.unusedSimpArgs false
set_option linter.unusedVariables false
namespace Go.Ab
open Go Go.RowKit Go.Fwd Go.Proofs
structure Ct where
  f : Nat
  args : List AV
  r : AV
def tblT (T : List Ct) : CallP := fun f args => match T.find? (fun c => c.f == f && eqAVL c.args args) with
  | some c => some c.r
  | none => libP f args
def CtOk (c : Ct) : Prop := Pure (ITP Tryz.prog) Tryz.prog c.f c.args c.r
theorem good_tblT {T : List Ct} (h : ∀ c ∈ T, CtOk c) : Good Tryz.prog (tblT T) bldS := ⟨mix, ents, fun f args r e => by
  unfold tblT at e
  split at e
  · rename_i c hc
    cases e
    have h1 := List.find?_some hc
    simp only [Bool.and_eq_true, beq_iff_eq] at h1
    have h2 := h c (List.mem_of_find?_eq_some hc)
    rw [CtOk, h1.1, eqAVL_ok _ _ h1.2] at h2
    exact h2
  · exact libP_ok f args r e, bldS_ok⟩
def sV (l : List Nat) : AV := .raw (.string ⟨(l.map fun b => UInt8.ofNat b).toArray⟩)
def iV (n : Int) : AV := .raw (.int .i64 n)
def uV (n : Int) : AV := .raw (.int .u8 n)
def bV (b : Bool) : AV := .raw (.bool b)
def enV (k : Int) (a b : Int) (s : List Nat) : List AV := [uV k, iV a, iV b, sV s]
def trV (n : Nat) (cs : List AV) (k c : Int) : AV := .agg [.list n cs .none, uV k, iV c]
def exC : List AV := enV 1 0 0 [104, 105] ++ enV 2 0 3 [] ++ enV 3 3 5 [] ++ enV 2 5 5 []
def exT : AV := trV 4 exC 2 7
def fiT (k c : Int) : AV := trV 2 (enV 1 0 0 [104, 105] ++ enV 2 0 3 []) k c
def noT : AV := trV 0 [] 0 0
theorem aw0 : CtOk ⟨27, [(sV [115, 101, 110, 100, 32, 34, 104, 105, 34])], (.tup [.agg [uV 0, iV 0], bV false])⟩ := run_pure_call goodT 300 (by kernel_rfl)
theorem aw1 : CtOk ⟨28, [(sV [115, 101, 110, 100, 32, 34, 104, 105, 34])], (.tup [(.agg (enV 1 0 0 [104, 105])), bV true])⟩ := run_pure_call goodT 300 (by kernel_rfl)
theorem aw2 : CtOk ⟨27, [(sV [116, 97, 107, 101, 32, 48, 32, 51])], (.tup [.agg [uV 0, iV 0], bV false])⟩ := run_pure_call goodT 300 (by kernel_rfl)
theorem aw3 : CtOk ⟨28, [(sV [116, 97, 107, 101, 32, 48, 32, 51])], (.tup [(.agg (enV 2 0 3 [])), bV true])⟩ := run_pure_call goodT 300 (by kernel_rfl)
theorem aw4 : CtOk ⟨27, [(sV [108, 111, 115, 101, 32, 51, 32, 53])], (.tup [.agg [uV 0, iV 0], bV false])⟩ := run_pure_call goodT 300 (by kernel_rfl)
theorem aw5 : CtOk ⟨28, [(sV [108, 111, 115, 101, 32, 51, 32, 53])], (.tup [(.agg (enV 3 3 5 [])), bV true])⟩ := run_pure_call goodT 300 (by kernel_rfl)
theorem aw6 : CtOk ⟨27, [(sV [116, 97, 107, 101, 32, 53, 32, 53])], (.tup [.agg [uV 0, iV 0], bV false])⟩ := run_pure_call goodT 300 (by kernel_rfl)
theorem aw7 : CtOk ⟨28, [(sV [116, 97, 107, 101, 32, 53, 32, 53])], (.tup [(.agg (enV 2 5 5 [])), bV true])⟩ := run_pure_call goodT 300 (by kernel_rfl)
theorem aw8 : CtOk ⟨27, [(sV [101, 120, 105, 116, 32, 55])], (.tup [.agg [uV 2, iV 7], bV true])⟩ := run_pure_call goodT 300 (by kernel_rfl)
theorem aw9 : CtOk ⟨27, [(sV [116, 97, 107, 101, 32, 49, 32, 50])], (.tup [.agg [uV 0, iV 0], bV false])⟩ := run_pure_call goodT 300 (by kernel_rfl)
theorem aw10 : CtOk ⟨28, [(sV [116, 97, 107, 101, 32, 49, 32, 50])], (.tup [(.agg (enV 2 1 2 [])), bV true])⟩ := run_pure_call goodT 300 (by kernel_rfl)
theorem aw11 : CtOk ⟨27, [(sV [108, 111, 115, 101, 32, 48, 32, 48])], (.tup [.agg [uV 0, iV 0], bV false])⟩ := run_pure_call goodT 300 (by kernel_rfl)
theorem aw12 : CtOk ⟨28, [(sV [108, 111, 115, 101, 32, 48, 32, 48])], (.tup [(.agg (enV 3 0 0 [])), bV true])⟩ := run_pure_call goodT 300 (by kernel_rfl)
theorem aw13 : CtOk ⟨27, [(sV [114, 117, 110, 110, 105, 110, 103])], (.tup [.agg [uV 1, iV 0], bV true])⟩ := run_pure_call goodT 300 (by kernel_rfl)
def lnTbl : List Ct := [
  ⟨27, [(sV [115, 101, 110, 100, 32, 34, 104, 105, 34])], (.tup [.agg [uV 0, iV 0], bV false])⟩,
  ⟨28, [(sV [115, 101, 110, 100, 32, 34, 104, 105, 34])], (.tup [(.agg (enV 1 0 0 [104, 105])), bV true])⟩,
  ⟨27, [(sV [116, 97, 107, 101, 32, 48, 32, 51])], (.tup [.agg [uV 0, iV 0], bV false])⟩,
  ⟨28, [(sV [116, 97, 107, 101, 32, 48, 32, 51])], (.tup [(.agg (enV 2 0 3 [])), bV true])⟩,
  ⟨27, [(sV [108, 111, 115, 101, 32, 51, 32, 53])], (.tup [.agg [uV 0, iV 0], bV false])⟩,
  ⟨28, [(sV [108, 111, 115, 101, 32, 51, 32, 53])], (.tup [(.agg (enV 3 3 5 [])), bV true])⟩,
  ⟨27, [(sV [116, 97, 107, 101, 32, 53, 32, 53])], (.tup [.agg [uV 0, iV 0], bV false])⟩,
  ⟨28, [(sV [116, 97, 107, 101, 32, 53, 32, 53])], (.tup [(.agg (enV 2 5 5 [])), bV true])⟩,
  ⟨27, [(sV [101, 120, 105, 116, 32, 55])], (.tup [.agg [uV 2, iV 7], bV true])⟩,
  ⟨27, [(sV [116, 97, 107, 101, 32, 49, 32, 50])], (.tup [.agg [uV 0, iV 0], bV false])⟩,
  ⟨28, [(sV [116, 97, 107, 101, 32, 49, 32, 50])], (.tup [(.agg (enV 2 1 2 [])), bV true])⟩,
  ⟨27, [(sV [108, 111, 115, 101, 32, 48, 32, 48])], (.tup [.agg [uV 0, iV 0], bV false])⟩,
  ⟨28, [(sV [108, 111, 115, 101, 32, 48, 32, 48])], (.tup [(.agg (enV 3 0 0 [])), bV true])⟩,
  ⟨27, [(sV [114, 117, 110, 110, 105, 110, 103])], (.tup [.agg [uV 1, iV 0], bV true])⟩]
theorem lnTbl_ok : ∀ c ∈ lnTbl, CtOk c := by
  unfold lnTbl
  simp only [List.forall_mem_cons, List.not_mem_nil, false_implies, implies_true, and_true]
  exact ⟨aw0, aw1, aw2, aw3, aw4, aw5, aw6, aw7, aw8, aw9, aw10, aw11, aw12, aw13⟩
theorem aw14 : CtOk ⟨7, [(sV [115, 101, 110, 100, 32, 34, 104, 105, 34, 10, 116, 97, 107, 101, 32, 48, 32, 51, 10, 108, 111, 115, 101, 32, 51, 32, 53, 10, 116, 97, 107, 101, 32, 53, 32, 53, 10, 101, 120, 105, 116, 32, 55, 10])], (.tup [exT, iV 0, iV 0])⟩ := run_pure_call (good_tblT lnTbl_ok) 300 (by kernel_rfl)
theorem aw15 : CtOk ⟨7, [(sV [116, 97, 107, 101, 32, 49, 32, 50, 10])], (.tup [noT, iV 1, iV 332])⟩ := run_pure_call (good_tblT lnTbl_ok) 300 (by kernel_rfl)
theorem aw16 : CtOk ⟨7, [(sV [108, 111, 115, 101, 32, 48, 32, 48, 10])], (.tup [noT, iV 1, iV 332])⟩ := run_pure_call (good_tblT lnTbl_ok) 300 (by kernel_rfl)
theorem aw17 : CtOk ⟨7, [(sV [114, 117, 110, 110, 105, 110, 103, 10, 114, 117, 110, 110, 105, 110, 103, 10])], (.tup [noT, iV 2, iV 332])⟩ := run_pure_call (good_tblT lnTbl_ok) 300 (by kernel_rfl)
theorem aw18 : CtOk ⟨7, [(sV [])], (.tup [noT, iV 1, iV 332])⟩ := run_pure_call (good_tblT lnTbl_ok) 300 (by kernel_rfl)
theorem aw19 : CtOk ⟨18, [], exT⟩ := run_pure_call goodT 300 (by kernel_rfl)
theorem aw20 : CtOk ⟨19, [exT], (.tup [(sV [115, 101, 110, 100, 32, 34, 104, 105, 34, 10, 116, 97, 107, 101, 32, 48, 32, 51, 10, 108, 111, 115, 101, 32, 51, 32, 53, 10, 116, 97, 107, 101, 32, 53, 32, 53, 10, 101, 120, 105, 116, 32, 55, 10]), iV 0])⟩ := run_pure_call goodT 300 (by kernel_rfl)
theorem aw21 : CtOk ⟨20, [fiT 1 0, exT], (.tup [iV 2, bV true])⟩ := run_pure_call goodT 300 (by kernel_rfl)
theorem aw22 : CtOk ⟨21, [exT, exT], (bV true)⟩ := run_pure_call goodT 300 (by kernel_rfl)
theorem aw23 : CtOk ⟨22, [exT], (sV [104, 105])⟩ := run_pure_call goodT 300 (by kernel_rfl)
theorem aw24 : CtOk ⟨23, [exT], (iV 3)⟩ := run_pure_call goodT 300 (by kernel_rfl)
theorem aw25 : CtOk ⟨24, [exT], (iV 2)⟩ := run_pure_call goodT 300 (by kernel_rfl)
theorem aw26 : CtOk ⟨17, [exT], (iV 5)⟩ := run_pure_call goodT 300 (by kernel_rfl)
theorem aw27 : CtOk ⟨25, [fiT 1 0, exT], (bV true)⟩ := run_pure_call goodT 300 (by kernel_rfl)
theorem aw28 : CtOk ⟨25, [fiT 2 7, exT], (bV false)⟩ := run_pure_call goodT 300 (by kernel_rfl)
def awTbl : List Ct := [
  ⟨7, [(sV [115, 101, 110, 100, 32, 34, 104, 105, 34, 10, 116, 97, 107, 101, 32, 48, 32, 51, 10, 108, 111, 115, 101, 32, 51, 32, 53, 10, 116, 97, 107, 101, 32, 53, 32, 53, 10, 101, 120, 105, 116, 32, 55, 10])], (.tup [exT, iV 0, iV 0])⟩,
  ⟨7, [(sV [116, 97, 107, 101, 32, 49, 32, 50, 10])], (.tup [noT, iV 1, iV 332])⟩,
  ⟨7, [(sV [108, 111, 115, 101, 32, 48, 32, 48, 10])], (.tup [noT, iV 1, iV 332])⟩,
  ⟨7, [(sV [114, 117, 110, 110, 105, 110, 103, 10, 114, 117, 110, 110, 105, 110, 103, 10])], (.tup [noT, iV 2, iV 332])⟩,
  ⟨7, [(sV [])], (.tup [noT, iV 1, iV 332])⟩,
  ⟨18, [], exT⟩,
  ⟨19, [exT], (.tup [(sV [115, 101, 110, 100, 32, 34, 104, 105, 34, 10, 116, 97, 107, 101, 32, 48, 32, 51, 10, 108, 111, 115, 101, 32, 51, 32, 53, 10, 116, 97, 107, 101, 32, 53, 32, 53, 10, 101, 120, 105, 116, 32, 55, 10]), iV 0])⟩,
  ⟨20, [fiT 1 0, exT], (.tup [iV 2, bV true])⟩,
  ⟨21, [exT, exT], (bV true)⟩,
  ⟨22, [exT], (sV [104, 105])⟩,
  ⟨23, [exT], (iV 3)⟩,
  ⟨24, [exT], (iV 2)⟩,
  ⟨17, [exT], (iV 5)⟩,
  ⟨25, [fiT 1 0, exT], (bV true)⟩,
  ⟨25, [fiT 2 7, exT], (bV false)⟩]
theorem awTbl_ok : ∀ c ∈ awTbl, CtOk c := by
  unfold awTbl
  simp only [List.forall_mem_cons, List.not_mem_nil, false_implies, implies_true, and_true]
  exact ⟨aw14, aw15, aw16, aw17, aw18, aw19, aw20, aw21, aw22, aw23, aw24, aw25, aw26, aw27, aw28⟩
theorem awake_pure : Pure (ITP Tryz.prog) Tryz.prog 6 [] (.raw (.bool true)) := run_pure_call (good_tblT awTbl_ok) 300 (by kernel_rfl)
end Go.Ab
set_option linter.unusedSimpArgs false
set_option linter.unusedVariables false
namespace Go.Ab
open Go Go.RowKit Go.Fwd Go.Proofs
end Go.Ab
set_option linter.unusedSimpArgs false
set_option linter.unusedVariables false
namespace Go.Ab
open Go Go.RowKit Go.Fwd Go.Proofs
theorem letE_s {α β : Type} {e : α} {k : α → Option β} {r : Option β} (h : k e = r) : letE e k = r := h
def lcp : List En → List En → Nat
  | x :: a, y :: b => if x = y then lcp a b + 1 else 0
  | _, _ => 0
theorem lcp_le : ∀ a b, lcp a b ≤ a.length ∧ lcp a b ≤ b.length
  | x :: a, y :: b => by
    rw [lcp]
    have := lcp_le a b
    split <;> simp <;> omega
  | [], _ => by simp [lcp]
  | _ :: _, [] => by simp [lcp]
theorem lcp_same : ∀ (a b : List En) (i : Nat), i < lcp a b → a.getD i Enc.inh = b.getD i Enc.inh
  | x :: a, y :: b, i, h => by
    rw [lcp] at h
    split at h
    · rename_i e
      cases i with
      | zero => simp [e]
      | succ i => simpa using lcp_same a b i (by omega)
    · omega
  | [], _, i, h => by simp [lcp] at h
  | _ :: _, [], i, h => by simp [lcp] at h
theorem lcp_diff : ∀ (a b : List En), lcp a b < a.length → lcp a b < b.length → a.getD (lcp a b) Enc.inh ≠ b.getD (lcp a b) Enc.inh
  | x :: a, y :: b, h1, h2 => by
    rw [lcp] at h1 h2 ⊢
    split
    · rename_i e
      rw [if_pos e] at h1 h2
      simp at h1 h2
      simpa using lcp_diff a b h1 h2
    · rename_i e; simpa using e
  | [], _, h, _ => by simp at h
  | _ :: _, [], _, h => by simp at h
theorem lcp_pre : ∀ (a b : List En), lcp a b = a.length ↔ a <+: b
  | [], b => by simp [lcp]
  | x :: a, [] => by simp [lcp]
  | x :: a, y :: b => by
    rw [lcp, List.cons_prefix_cons]
    have := lcp_pre a b
    split
    · rename_i e; simp [e, this]
    · rename_i e; simp [e]
def difP (a b : Trc) : Int × Bool := if lcp a.l b.l = a.l.length ∧ lcp a.l b.l = b.l.length ∧ a.e = b.e then (0, false) else ((lcp a.l b.l : Int), true)
end Go.Ab
set_option linter.unusedSimpArgs false
set_option linter.unusedVariables false
namespace Go.Ab
open Go Go.RowKit Go.Fwd Go.Proofs
theorem sub_take {α : Type} (l : List α) (j : Int) : sub l 0 j = l.take j.toNat := by simp [sub]
end Go.Ab
set_option linter.unusedSimpArgs false
set_option linter.unusedVariables false
namespace Go.Ab
open Go Go.RowKit Go.Fwd Go.Proofs
theorem wrap_u8 {x : Int} (h1 : 0 ≤ x) (h2 : x < 256) : IntKind.u8.wrap x = x := by
  have : x % 256 = x := Int.emod_eq_of_lt h1 h2
  simp [IntKind.wrap, IntKind.bits, IntKind.signed, this]
def rightP (e : En) (a : Int) : Prop :=
  (e.k = 1 ∧ e.fr = 0 ∧ e.to = 0 ∧ e.b.length ≤ 512) ∨ ((e.k = 2 ∨ e.k = 3) ∧ e.fr = a ∧ e.b = [] ∧ a ≤ e.to ∧ e.to ≤ 1073741824 ∧ (e.k = 2 ∨ a < e.to))
instance (e : En) (a : Int) : Decidable (rightP e a) := by unfold rightP; infer_instance
def atL : Int → List En → Int
  | a, [] => a
  | a, e :: l => atL (max a e.to) l
def okL : Int → List En → Prop
  | _, [] => True
  | a, e :: l => rightP e a ∧ okL (max a e.to) l
theorem atL_app : ∀ (a : Int) (l m : List En), atL a (l ++ m) = atL (atL a l) m
  | _, [], _ => rfl
  | a, e :: l, m => by rw [List.cons_append, atL, atL, atL_app]
theorem okL_app : ∀ (a : Int) (l m : List En), okL a (l ++ m) ↔ okL a l ∧ okL (atL a l) m
  | _, [], _ => by simp [okL, atL]
  | a, e :: l, m => by rw [List.cons_append, okL, okL, atL, okL_app, and_assoc]
theorem atL_ge : ∀ (a : Int) (l : List En), a ≤ atL a l
  | _, [] => Int.le_refl _
  | a, e :: l => by rw [atL]; have := atL_ge (max a e.to) l; omega
end Go.Ab
set_option linter.unusedSimpArgs false
set_option linter.unusedVariables false
namespace Go.Ab
open Go Go.RowKit Go.Fwd Go.Proofs
end Go.Ab
set_option linter.unusedSimpArgs false
set_option linter.unusedVariables false
namespace Go.Ab
open Go Go.RowKit Go.Fwd Go.Proofs
def rightB (e : En) (a : Int) : Bool := decide (rightP e a)
theorem rightB_t {e : En} {a : Int} (h : rightP e a) : rightB e a = true := decide_eq_true h
theorem right_eq (e : En) (a : Int) : F_right e a = some (rightB e a) := by
  unfold rightB
  obtain ⟨k, fr, to, b⟩ := e
  unfold F_right rightP
  simp only [En.mk.injEq]
  by_cases h1 : k = 1
  · subst h1
    refine bif_t rfl ?_
    by_cases h2 : fr = 0
    · by_cases h3 : to = 0
      · refine (bif_t (by simp [h2, h3]) ?_)
        have e1 : ((List.length b : Int) ≤ 512) ↔ b.length ≤ 512 := by omega
        simp [h2, h3, e1]
      · refine (bif_f (by simp [h2, h3]) ?_)
        simp [h3]
    · refine (bif_f (by simp [h2]) ?_)
      simp [h2]
  · refine bif_f (by simpa using h1) ?_
    by_cases h2 : k = 2
    · subst h2
      refine cutE_i true (bif_t rfl rfl) (bif_t rfl ?_)
      by_cases h3 : fr = a
      · by_cases h4 : b = []
        · refine bif_t (by simp [h3, h4]) ?_
          by_cases h5 : to ≥ a
          · refine bif_t (decide_eq_true h5) ?_
            by_cases h6 : to ≤ 1073741824
            · refine bif_t (decide_eq_true h6) (bif_t rfl ?_)
              simp [h3, h4, h5, h6]
            · refine bif_f (decide_eq_false h6) ?_
              simp [h6]
          · refine bif_f (decide_eq_false h5) ?_
            have : ¬ a ≤ to := h5
            simp [this]
        · refine bif_f (by simp [h4]) ?_
          simp [h4]
      · refine bif_f (by simp [h3]) ?_
        simp [h3]
    · by_cases h2' : k = 3
      · subst h2'
        refine cutE_i true (bif_f rfl rfl) (bif_t rfl ?_)
        by_cases h3 : fr = a
        · by_cases h4 : b = []
          · refine bif_t (by simp [h3, h4]) ?_
            by_cases h5 : to ≥ a
            · refine bif_t (decide_eq_true h5) ?_
              by_cases h6 : to ≤ 1073741824
              · refine bif_t (decide_eq_true h6) (bif_f rfl ?_)
                simp [h3, h4, h5, h6]
              · refine bif_f (decide_eq_false h6) ?_
                simp [h6]
            · refine bif_f (decide_eq_false h5) ?_
              have : ¬ a ≤ to := h5
              simp [this]
          · refine bif_f (by simp [h4]) ?_
            simp [h4]
        · refine bif_f (by simp [h3]) ?_
          simp [h3]
      · refine cutE_i false (bif_f (by simpa using h2) (by simp [h2'])) (bif_f rfl ?_)
        simp [h1, h2, h2']
def endedB (e : Ed) : Bool := if e.k = 2 then decide (0 ≤ e.c ∧ e.c ≤ 255) else decide (1 ≤ e.k ∧ e.k ≤ 5 ∧ e.c = 0)
theorem nameE_ne (k : Int) (h : 0 ≤ k ∧ k < 256) : (!(nameE k == ([] : List UInt8))) = decide (1 ≤ k ∧ k ≤ 5) := by
  have h6 : 6 ≤ k.toNat → nameE k = [] := fun h => by
    unfold nameE nameL
    rw [List.getD_eq_getElem?_getD, List.getElem?_eq_none (by simpa using h)]; rfl
  rcases Nat.lt_or_ge k.toNat 6 with h1 | h1
  · have : k = 0 ∨ k = 1 ∨ k = 2 ∨ k = 3 ∨ k = 4 ∨ k = 5 := by omega
    rcases this with rfl | rfl | rfl | rfl | rfl | rfl <;> decide
  · rw [h6 h1]
    have : ¬ (1 ≤ k ∧ k ≤ 5) := by omega
    simp [this]
theorem ended_eq (e : Ed) (h : 0 ≤ e.k ∧ e.k < 256) : F_ended e = some (endedB e) := by
  obtain ⟨k, c⟩ := e
  simp only at h
  unfold F_ended endedB
  by_cases h1 : k = 2
  · subst h1
    refine bif_t rfl ?_
    by_cases h2 : c ≥ 0
    · refine bif_t (decide_eq_true h2) ?_
      have : (0 : Int) ≤ c := h2
      simp [this]
    · refine bif_f (decide_eq_false h2) ?_
      have : ¬ (0 : Int) ≤ c := h2
      simp [this]
  · refine bif_f (by simpa using h1) (chk_i h (letE_s ?_))
    simp only [nameE_ne k h, if_neg h1]
    by_cases h2 : 1 ≤ k ∧ k ≤ 5
    · refine bif_t (decide_eq_true h2) ?_
      by_cases h3 : c = 0 <;> simp [h2, h3]
    · refine bif_f (decide_eq_false h2) ?_
      have : ¬ (1 ≤ k ∧ k ≤ 5 ∧ c = 0) := fun h => h2 ⟨h.1, h.2.1⟩
      simp [this]
def nOk : Int → List En → Nat
  | _, [] => 0
  | a, e :: l => if rightP e a then nOk (max a e.to) l + 1 else 0
theorem nOk_right : ∀ (a : Int) (l : List En) (i : Nat), i < nOk a l → rightP (l.getD i Enc.inh) (atL a (l.take i))
  | _, [], i, h => by simp [nOk] at h
  | a, e :: l, i, h => by
    rw [nOk] at h
    split at h
    · rename_i he
      cases i with
      | zero => exact he
      | succ i => simpa [atL] using nOk_right (max a e.to) l i (by omega)
    · omega
theorem nOk_ok : ∀ (a : Int) (l : List En), okL a l ↔ nOk a l = l.length
  | _, [] => by simp [okL, nOk]
  | a, e :: l => by
    rw [okL, nOk]
    have := nOk_ok (max a e.to) l
    by_cases he : rightP e a
    · simp [he, this]
    · simp [he]
theorem okL_at {a : Int} {l : List En} (h : okL a l) {i : Nat} (hi : i < l.length) : rightP (l.getD i Enc.inh) (atL a (l.take i)) := nOk_right a l i (by rw [(nOk_ok a l).1 h]; exact hi)
end Go.Ab

