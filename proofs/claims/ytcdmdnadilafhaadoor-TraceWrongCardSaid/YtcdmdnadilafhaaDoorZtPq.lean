/-
  trace: what is right; what Made makes is right.
-/
import Derived.Test.YtcdmdnadilafhaaDoorZtNm
import Derived.Test.YtcdmdnadilafhaaDoorZtW2
import Derived.Test.YtcdmdnadilafhaaDoorZtPl
set_option linter.unusedSimpArgs false
set_option linter.unusedVariables false
namespace Go.Ab
open Go Go.RowKit Go.Fwd Go.Proofs
structure Ct where
  f : Nat
  args : List AV
  r : AV
def tblT (T : List Ct) : CallP := fun f args => match T.find? (fun c => c.f == f && eqAVL c.args args) with
  | some c => some c.r
  | none => libP f args
def CtOk (c : Ct) : Prop := Pure (ITP Tryd.prog) Tryd.prog c.f c.args c.r
theorem good_tblT {T : List Ct} (h : ∀ c ∈ T, CtOk c) : Good Tryd.prog (tblT T) bldS := ⟨mix, ents, fun f args r e => by
  unfold tblT at e
  split at e
  · rename_i c hc
    cases e
    have h1 := List.find?_some hc
    simp only [Bool.and_eq_true, beq_iff_eq] at h1
    have h2 := h c (List.mem_of_find?_eq_some hc)
    rw [CtOk, h1.1, eqAVL_ok _ _ h1.2] at h2
    exact h2
  · exact libP_ok f args r e, bldS_ok⟩
def sV (l : List Nat) : AV := .raw (.string ⟨(l.map fun b => UInt8.ofNat b).toArray⟩)
def iV (n : Int) : AV := .raw (.int .i64 n)
def uV (n : Int) : AV := .raw (.int .u8 n)
def bV (b : Bool) : AV := .raw (.bool b)
def enV (k : Int) (a b : Int) (s : List Nat) : List AV := [uV k, iV a, iV b, sV s]
def trV (n : Nat) (cs : List AV) (k c : Int) : AV := .agg [.list n cs .none, uV k, iV c]
def exC : List AV := enV 1 0 0 [104, 105] ++ enV 2 0 3 [] ++ enV 3 3 5 [] ++ enV 2 5 5 []
def exT : AV := trV 4 exC 2 7
def fiT (k c : Int) : AV := trV 2 (enV 1 0 0 [104, 105] ++ enV 2 0 3 []) k c
def noT : AV := trV 0 [] 0 0
theorem aw0 : CtOk ⟨38, [(sV [115, 101, 110, 100, 32, 34, 104, 105, 34])], (.tup [.agg [uV 0, iV 0], bV false])⟩ := run_pure_call goodT 300 (by kernel_rfl)
theorem aw1 : CtOk ⟨39, [(sV [115, 101, 110, 100, 32, 34, 104, 105, 34])], (.tup [(.agg (enV 1 0 0 [104, 105])), bV true])⟩ := run_pure_call goodT 300 (by kernel_rfl)
theorem aw2 : CtOk ⟨38, [(sV [116, 97, 107, 101, 32, 48, 32, 51])], (.tup [.agg [uV 0, iV 0], bV false])⟩ := run_pure_call goodT 300 (by kernel_rfl)
theorem aw3 : CtOk ⟨39, [(sV [116, 97, 107, 101, 32, 48, 32, 51])], (.tup [(.agg (enV 2 0 3 [])), bV true])⟩ := run_pure_call goodT 300 (by kernel_rfl)
theorem aw4 : CtOk ⟨38, [(sV [108, 111, 115, 101, 32, 51, 32, 53])], (.tup [.agg [uV 0, iV 0], bV false])⟩ := run_pure_call goodT 300 (by kernel_rfl)
theorem aw5 : CtOk ⟨39, [(sV [108, 111, 115, 101, 32, 51, 32, 53])], (.tup [(.agg (enV 3 3 5 [])), bV true])⟩ := run_pure_call goodT 300 (by kernel_rfl)
theorem aw6 : CtOk ⟨38, [(sV [116, 97, 107, 101, 32, 53, 32, 53])], (.tup [.agg [uV 0, iV 0], bV false])⟩ := run_pure_call goodT 300 (by kernel_rfl)
theorem aw7 : CtOk ⟨39, [(sV [116, 97, 107, 101, 32, 53, 32, 53])], (.tup [(.agg (enV 2 5 5 [])), bV true])⟩ := run_pure_call goodT 300 (by kernel_rfl)
theorem aw8 : CtOk ⟨38, [(sV [101, 120, 105, 116, 32, 55])], (.tup [.agg [uV 2, iV 7], bV true])⟩ := run_pure_call goodT 300 (by kernel_rfl)
theorem aw9 : CtOk ⟨38, [(sV [116, 97, 107, 101, 32, 49, 32, 50])], (.tup [.agg [uV 0, iV 0], bV false])⟩ := run_pure_call goodT 300 (by kernel_rfl)
theorem aw10 : CtOk ⟨39, [(sV [116, 97, 107, 101, 32, 49, 32, 50])], (.tup [(.agg (enV 2 1 2 [])), bV true])⟩ := run_pure_call goodT 300 (by kernel_rfl)
theorem aw11 : CtOk ⟨38, [(sV [108, 111, 115, 101, 32, 48, 32, 48])], (.tup [.agg [uV 0, iV 0], bV false])⟩ := run_pure_call goodT 300 (by kernel_rfl)
theorem aw12 : CtOk ⟨39, [(sV [108, 111, 115, 101, 32, 48, 32, 48])], (.tup [(.agg (enV 3 0 0 [])), bV true])⟩ := run_pure_call goodT 300 (by kernel_rfl)
theorem aw13 : CtOk ⟨38, [(sV [114, 117, 110, 110, 105, 110, 103])], (.tup [.agg [uV 1, iV 0], bV true])⟩ := run_pure_call goodT 300 (by kernel_rfl)
def lnTbl : List Ct := [
  ⟨38, [(sV [115, 101, 110, 100, 32, 34, 104, 105, 34])], (.tup [.agg [uV 0, iV 0], bV false])⟩,
  ⟨39, [(sV [115, 101, 110, 100, 32, 34, 104, 105, 34])], (.tup [(.agg (enV 1 0 0 [104, 105])), bV true])⟩,
  ⟨38, [(sV [116, 97, 107, 101, 32, 48, 32, 51])], (.tup [.agg [uV 0, iV 0], bV false])⟩,
  ⟨39, [(sV [116, 97, 107, 101, 32, 48, 32, 51])], (.tup [(.agg (enV 2 0 3 [])), bV true])⟩,
  ⟨38, [(sV [108, 111, 115, 101, 32, 51, 32, 53])], (.tup [.agg [uV 0, iV 0], bV false])⟩,
  ⟨39, [(sV [108, 111, 115, 101, 32, 51, 32, 53])], (.tup [(.agg (enV 3 3 5 [])), bV true])⟩,
  ⟨38, [(sV [116, 97, 107, 101, 32, 53, 32, 53])], (.tup [.agg [uV 0, iV 0], bV false])⟩,
  ⟨39, [(sV [116, 97, 107, 101, 32, 53, 32, 53])], (.tup [(.agg (enV 2 5 5 [])), bV true])⟩,
  ⟨38, [(sV [101, 120, 105, 116, 32, 55])], (.tup [.agg [uV 2, iV 7], bV true])⟩,
  ⟨38, [(sV [116, 97, 107, 101, 32, 49, 32, 50])], (.tup [.agg [uV 0, iV 0], bV false])⟩,
  ⟨39, [(sV [116, 97, 107, 101, 32, 49, 32, 50])], (.tup [(.agg (enV 2 1 2 [])), bV true])⟩,
  ⟨38, [(sV [108, 111, 115, 101, 32, 48, 32, 48])], (.tup [.agg [uV 0, iV 0], bV false])⟩,
  ⟨39, [(sV [108, 111, 115, 101, 32, 48, 32, 48])], (.tup [(.agg (enV 3 0 0 [])), bV true])⟩,
  ⟨38, [(sV [114, 117, 110, 110, 105, 110, 103])], (.tup [.agg [uV 1, iV 0], bV true])⟩]
theorem lnTbl_ok : ∀ c ∈ lnTbl, CtOk c := by
  unfold lnTbl
  simp only [List.forall_mem_cons, List.not_mem_nil, false_implies, implies_true, and_true]
  exact ⟨aw0, aw1, aw2, aw3, aw4, aw5, aw6, aw7, aw8, aw9, aw10, aw11, aw12, aw13⟩
theorem aw14 : CtOk ⟨16, [(sV [115, 101, 110, 100, 32, 34, 104, 105, 34, 10, 116, 97, 107, 101, 32, 48, 32, 51, 10, 108, 111, 115, 101, 32, 51, 32, 53, 10, 116, 97, 107, 101, 32, 53, 32, 53, 10, 101, 120, 105, 116, 32, 55, 10])], (.tup [exT, iV 0, iV 0])⟩ := run_pure_call (good_tblT lnTbl_ok) 300 (by kernel_rfl)
theorem aw15 : CtOk ⟨16, [(sV [116, 97, 107, 101, 32, 49, 32, 50, 10])], (.tup [noT, iV 1, iV 332])⟩ := run_pure_call (good_tblT lnTbl_ok) 300 (by kernel_rfl)
theorem aw16 : CtOk ⟨16, [(sV [108, 111, 115, 101, 32, 48, 32, 48, 10])], (.tup [noT, iV 1, iV 332])⟩ := run_pure_call (good_tblT lnTbl_ok) 300 (by kernel_rfl)
theorem aw17 : CtOk ⟨16, [(sV [114, 117, 110, 110, 105, 110, 103, 10, 114, 117, 110, 110, 105, 110, 103, 10])], (.tup [noT, iV 2, iV 332])⟩ := run_pure_call (good_tblT lnTbl_ok) 300 (by kernel_rfl)
theorem aw18 : CtOk ⟨16, [(sV [])], (.tup [noT, iV 1, iV 332])⟩ := run_pure_call (good_tblT lnTbl_ok) 300 (by kernel_rfl)
theorem aw19 : CtOk ⟨32, [], exT⟩ := run_pure_call goodT 300 (by kernel_rfl)
theorem aw20 : CtOk ⟨15, [exT], (.tup [(sV [115, 101, 110, 100, 32, 34, 104, 105, 34, 10, 116, 97, 107, 101, 32, 48, 32, 51, 10, 108, 111, 115, 101, 32, 51, 32, 53, 10, 116, 97, 107, 101, 32, 53, 32, 53, 10, 101, 120, 105, 116, 32, 55, 10]), iV 0])⟩ := run_pure_call goodT 300 (by kernel_rfl)
theorem aw21 : CtOk ⟨26, [fiT 1 0, exT], (.tup [iV 2, bV true])⟩ := run_pure_call goodT 300 (by kernel_rfl)
theorem aw22 : CtOk ⟨17, [exT, exT], (bV true)⟩ := run_pure_call goodT 300 (by kernel_rfl)
theorem aw23 : CtOk ⟨24, [exT], (sV [104, 105])⟩ := run_pure_call goodT 300 (by kernel_rfl)
theorem aw24 : CtOk ⟨22, [exT], (iV 3)⟩ := run_pure_call goodT 300 (by kernel_rfl)
theorem aw25 : CtOk ⟨23, [exT], (iV 2)⟩ := run_pure_call goodT 300 (by kernel_rfl)
theorem aw26 : CtOk ⟨20, [exT], (iV 5)⟩ := run_pure_call goodT 300 (by kernel_rfl)
theorem aw27 : CtOk ⟨18, [fiT 1 0, exT], (bV true)⟩ := run_pure_call goodT 300 (by kernel_rfl)
theorem aw28 : CtOk ⟨18, [fiT 2 7, exT], (bV false)⟩ := run_pure_call goodT 300 (by kernel_rfl)
def awTbl : List Ct := [
  ⟨16, [(sV [115, 101, 110, 100, 32, 34, 104, 105, 34, 10, 116, 97, 107, 101, 32, 48, 32, 51, 10, 108, 111, 115, 101, 32, 51, 32, 53, 10, 116, 97, 107, 101, 32, 53, 32, 53, 10, 101, 120, 105, 116, 32, 55, 10])], (.tup [exT, iV 0, iV 0])⟩,
  ⟨16, [(sV [116, 97, 107, 101, 32, 49, 32, 50, 10])], (.tup [noT, iV 1, iV 332])⟩,
  ⟨16, [(sV [108, 111, 115, 101, 32, 48, 32, 48, 10])], (.tup [noT, iV 1, iV 332])⟩,
  ⟨16, [(sV [114, 117, 110, 110, 105, 110, 103, 10, 114, 117, 110, 110, 105, 110, 103, 10])], (.tup [noT, iV 2, iV 332])⟩,
  ⟨16, [(sV [])], (.tup [noT, iV 1, iV 332])⟩,
  ⟨32, [], exT⟩,
  ⟨15, [exT], (.tup [(sV [115, 101, 110, 100, 32, 34, 104, 105, 34, 10, 116, 97, 107, 101, 32, 48, 32, 51, 10, 108, 111, 115, 101, 32, 51, 32, 53, 10, 116, 97, 107, 101, 32, 53, 32, 53, 10, 101, 120, 105, 116, 32, 55, 10]), iV 0])⟩,
  ⟨26, [fiT 1 0, exT], (.tup [iV 2, bV true])⟩,
  ⟨17, [exT, exT], (bV true)⟩,
  ⟨24, [exT], (sV [104, 105])⟩,
  ⟨22, [exT], (iV 3)⟩,
  ⟨23, [exT], (iV 2)⟩,
  ⟨20, [exT], (iV 5)⟩,
  ⟨18, [fiT 1 0, exT], (bV true)⟩,
  ⟨18, [fiT 2 7, exT], (bV false)⟩]
theorem awTbl_ok : ∀ c ∈ awTbl, CtOk c := by
  unfold awTbl
  simp only [List.forall_mem_cons, List.not_mem_nil, false_implies, implies_true, and_true]
  exact ⟨aw14, aw15, aw16, aw17, aw18, aw19, aw20, aw21, aw22, aw23, aw24, aw25, aw26, aw27, aw28⟩
theorem awake_pure : Pure (ITP Tryd.prog) Tryd.prog 13 [] (.raw (.bool true)) := run_pure_call (good_tblT awTbl_ok) 300 (by kernel_rfl)
end Go.Ab
set_option linter.unusedSimpArgs false
set_option linter.unusedVariables false
namespace Go.Ab
open Go Go.RowKit Go.Fwd Go.Proofs
end Go.Ab
set_option linter.unusedSimpArgs false
set_option linter.unusedVariables false
namespace Go.Ab
open Go Go.RowKit Go.Fwd Go.Proofs
theorem loop_ex {β ρ : Type} {body : β → Option (β ⊕ ρ)} (T : Nat → β → Prop) (Q : ρ → Prop) (N : Nat) (hs : ∀ i s, i < N → T i s → ∃ s', body s = some (.inl s') ∧ T (i + 1) s') (he : ∀ s, T N s → ∃ o, body s = some (.inr o) ∧ Q o) {n : Nat} (hn : N < n) {s0 : β} (h0 : T 0 s0) : ∃ o, loopE body n s0 = some o ∧ Q o := by
  suffices ∀ k i n s, i + k = N → k < n → T i s → ∃ o, loopE body n s = some o ∧ Q o from this N 0 n s0 (by omega) hn h0
  intro k
  induction k with
  | zero =>
    intro i n s hi hk ht
    obtain rfl : i = N := by omega
    match n, hk with
    | n + 1, _ =>
      obtain ⟨o, h1, h2⟩ := he s ht
      exact ⟨o, by rw [loopE, h1], h2⟩
  | succ k ih =>
    intro i n s hi hk ht
    match n, hk with
    | n + 1, hk =>
      obtain ⟨s', h1, h2⟩ := hs i s (by omega) ht
      rw [loopE, h1]
      exact ih (i + 1) n s' (by omega) (by omega) h2
theorem tmod20 (x : Int) : -20 < Int.tmod x 20 ∧ Int.tmod x 20 < 20 := ⟨Int.lt_tmod_of_pos x (by decide), Int.tmod_lt_of_pos x (by decide)⟩
theorem sub_take {α : Type} (l : List α) (j : Int) : sub l 0 j = l.take j.toNat := by simp [sub]
theorem ex_cutloop {τ ρ : Type} {C : Prop} [Decidable C] {x : Option (τ ⊕ ρ)} {K : τ → Option ρ} {R : τ → Prop} {Q : ρ → Prop} (hC : C) (hx : ∃ o, x = some o ∧ ∃ t, o = .inl t ∧ R t) (hk : ∀ t, R t → ∃ r, K t = some r ∧ Q r) : ∃ r, cutE (chk C x) K = some r ∧ Q r := by
  obtain ⟨o, h, t, rfl, hR⟩ := hx
  obtain ⟨r, h1, h2⟩ := hk t hR
  exact ⟨r, cutE_i t (chk_i hC h) h1, h2⟩
end Go.Ab
set_option linter.unusedSimpArgs false
set_option linter.unusedVariables false
namespace Go.Ab
open Go Go.RowKit Go.Fwd Go.Proofs
theorem wrap_u8 {x : Int} (h1 : 0 ≤ x) (h2 : x < 256) : IntKind.u8.wrap x = x := by
  have : x % 256 = x := Int.emod_eq_of_lt h1 h2
  simp [IntKind.wrap, IntKind.bits, IntKind.signed, this]
def rightP (e : En) (a : Int) : Prop :=
  (e.k = 1 ∧ e.fr = 0 ∧ e.to = 0 ∧ e.b.length ≤ 512) ∨ ((e.k = 2 ∨ e.k = 3) ∧ e.fr = a ∧ e.b = [] ∧ a ≤ e.to ∧ e.to ≤ 1073741824 ∧ (e.k = 2 ∨ a < e.to))
instance (e : En) (a : Int) : Decidable (rightP e a) := by unfold rightP; infer_instance
def atL : Int → List En → Int
  | a, [] => a
  | a, e :: l => atL (max a e.to) l
def okL : Int → List En → Prop
  | _, [] => True
  | a, e :: l => rightP e a ∧ okL (max a e.to) l
theorem atL_app : ∀ (a : Int) (l m : List En), atL a (l ++ m) = atL (atL a l) m
  | _, [], _ => rfl
  | a, e :: l, m => by rw [List.cons_append, atL, atL, atL_app]
theorem okL_app : ∀ (a : Int) (l m : List En), okL a (l ++ m) ↔ okL a l ∧ okL (atL a l) m
  | _, [], _ => by simp [okL, atL]
  | a, e :: l, m => by rw [List.cons_append, okL, okL, atL, okL_app, and_assoc]
theorem atL_ge : ∀ (a : Int) (l : List En), a ≤ atL a l
  | _, [] => Int.le_refl _
  | a, e :: l => by rw [atL]; have := atL_ge (max a e.to) l; omega
structure MadeOk (t : Trc) : Prop where
  len : t.l.length ≤ 40
  ok : okL 0 t.l
  b : ∀ e ∈ t.l, e.b.length ≤ 20
  at' : atL 0 t.l ≤ 800
  ek : 1 ≤ t.e.k ∧ t.e.k ≤ 5
  ec : t.e.c = 0 ∨ t.e.k = 2 ∧ 0 ≤ t.e.c ∧ t.e.c ≤ 255
def SmB (l : List Sme) : Prop := l.length < 2 ^ 63 ∧ ∀ x ∈ l, 0 ≤ x.far
theorem made_ok (l : List Sme) (hS : SmB l) (en code : Int) (h1 : 0 ≤ en ∧ en < 256) (h2 : 0 ≤ code ∧ code < 256) : ∃ t, F_made 100 l en code = some t ∧ MadeOk t ∧ t.e = ⟨1 + Int.tmod en 5, if 1 + Int.tmod en 5 = 2 then code else 0⟩ := by
  obtain ⟨hlen, hfar⟩ := hS
  unfold F_made
  have hlS : (List.length (sub l 0 (min (List.length l : Int) 40)) : Int) = ((min l.length 40 : Nat) : Int) := by
    rw [sub_take]; simp; omega
  refine ex_cutloop (R := fun t : Trc => t.l.length ≤ 40 ∧ okL 0 t.l ∧ (∀ e ∈ t.l, e.b.length ≤ 20) ∧ atL 0 t.l ≤ 800 ∧ t.e = ⟨0, 0⟩) (by omega)
    (loop_ex (fun i (s : Int × Int × Trc) => s.2.1 = (i : Int) ∧ 0 ≤ s.1 ∧ s.1 ≤ 20 * (i : Int) ∧ s.2.2.l.length ≤ i ∧ okL 0 s.2.2.l ∧ atL 0 s.2.2.l = s.1 ∧ (∀ e ∈ s.2.2.l, e.b.length ≤ 20) ∧ s.2.2.e = ⟨0, 0⟩) _ (min l.length 40) (fun i s hi hT => ?_) (fun s hT => ?_) (by omega) ⟨rfl, by simp, by simp, by simp, trivial, rfl, by simp, rfl⟩) (fun t ht => ?_)
  · obtain ⟨at', idx, tl, te⟩ := s
    obtain ⟨t1, t2, t3, t4, t5, t6, t7, t8⟩ := hT
    simp only at t1 t2 t3 t4 t5 t6 t7 t8
    subst t1; subst t8
    have hxm : 0 ≤ (ix (sub l 0 (min (List.length l : Int) 40)) (i : Int)).far := by
      refine hfar _ ?_
      have hlt : i < (sub l 0 (min (List.length l : Int) 40)).length := by omega
      simp only [ix, Int.toNat_natCast]
      rw [List.getD_eq_getElem?_getD, List.getElem?_eq_getElem hlt, Option.getD_some]
      have hmem : ∀ y ∈ sub l 0 (min (List.length l : Int) 40), y ∈ l := fun y hy => by
        rw [sub_take] at hy; exact List.mem_of_mem_take hy
      exact hmem _ (List.getElem_mem hlt)
    generalize hx : ix (sub l 0 (min (List.length l : Int) 40)) (i : Int) = x at hxm
    have hf := tmod20 x.far
    have hf0 : 0 ≤ Int.tmod x.far 20 := Int.tmod_nonneg _ hxm
    have ap : ∀ (e : En), (tl.length + [e].length) * 40 ≤ 140737488355328 := fun e => by simp; omega
    have okapp : ∀ e : En, rightP e at' → okL 0 (tl ++ [e]) := fun e he => (okL_app 0 tl [e]).2 ⟨t5, by rw [t6]; exact ⟨he, trivial⟩⟩
    have atapp : ∀ e : En, atL 0 (tl ++ [e]) = max at' e.to := fun e => by rw [atL_app, t6]; rfl
    have bapp : ∀ e : En, e.b.length ≤ 20 → ∀ y ∈ tl ++ [e], y.b.length ≤ 20 := fun e he y hy => by
      rcases List.mem_append.1 hy with h | h
      · exact t7 y h
      · rw [List.mem_singleton.1 h]; exact he
    by_cases e0 : (Int.tmod x.k 3 == 0) = true
    · have hbl : (sub x.b 0 (min (List.length x.b : Int) 20)).length ≤ 20 := by rw [sub_take]; simp; omega
      refine ⟨_, bif_t (by simp only [hlS]; exact decide_eq_true (by omega)) (cutE_i (at', (Trc.mk (tl ++ [En.mk 1 0 0 (sub x.b 0 (min (List.length x.b : Int) 20))]) (Ed.mk 0 0))) (chk_i (by simp only [hlS]; omega) (letE_s ?_)) (chk_i (by simp only; omega) rfl)), ?_⟩
      · simp only [hx]
        refine chk_i (by omega) (cutE_r (Sum.inl (at', (Trc.mk (tl ++ [En.mk 1 0 0 (sub x.b 0 (min (List.length x.b : Int) 20))]) (Ed.mk 0 0)))) (bif_t e0 (chk_i (by omega) (chk_i (ap _) rfl))) rfl)
      · refine ⟨by simp, by simp only; omega, by simp only; omega, by simp; omega, okapp _ (.inl ⟨rfl, rfl, rfl, by simp only; omega⟩), ?_, bapp _ hbl, rfl⟩
        simp only [atapp]; omega
    · have e0' : (Int.tmod x.k 3 == 0) = false := by simpa using e0
      by_cases e1 : (Int.tmod x.k 3 == 1) = true
      · refine ⟨_, bif_t (by simp only [hlS]; exact decide_eq_true (by omega)) (cutE_i (at' + Int.tmod x.far 20, (Trc.mk (tl ++ [En.mk 2 at' (at' + Int.tmod x.far 20) []]) (Ed.mk 0 0))) (chk_i (by simp only [hlS]; omega) (letE_s ?_)) (chk_i (by simp only; omega) rfl)), ?_⟩
        · simp only [hx]
          refine chk_i (by omega) (cutE_i (Int.tmod x.far 20, (Trc.mk (tl ++ [En.mk 2 at' (at' + Int.tmod x.far 20) []]) (Ed.mk 0 0))) (bif_f e0' (bif_t e1 (chk_i (by omega) (chk_i (ap _) rfl)))) (chk_i (by first | omega | (simp only; omega)) rfl))
        · refine ⟨by simp, by simp only; omega, by simp only; omega, by simp; omega, okapp _ (.inr ⟨.inl rfl, rfl, rfl, by simp only; omega, by simp only; omega, .inl rfl⟩), ?_, bapp _ (by simp), rfl⟩
          simp only [atapp]; omega
      · have e1' : (Int.tmod x.k 3 == 1) = false := by simpa using e1
        refine ⟨_, bif_t (by simp only [hlS]; exact decide_eq_true (by omega)) (cutE_i (at' + (Int.tmod x.far 20 + 1), (Trc.mk (tl ++ [En.mk 3 at' (at' + (Int.tmod x.far 20 + 1)) []]) (Ed.mk 0 0))) (chk_i (by simp only [hlS]; omega) (letE_s ?_)) (chk_i (by simp only; omega) rfl)), ?_⟩
        · simp only [hx]
          refine chk_i (by omega) (cutE_i (Int.tmod x.far 20 + 1, (Trc.mk (tl ++ [En.mk 3 at' (at' + (Int.tmod x.far 20 + 1)) []]) (Ed.mk 0 0))) (bif_f e0' (bif_f e1' (chk_i (by omega) (chk_i (by omega) (chk_i (ap _) rfl))))) (chk_i (by first | omega | (simp only; omega)) rfl))
        · refine ⟨by simp, by simp only; omega, by simp only; omega, by simp; omega, okapp _ (.inr ⟨.inr rfl, rfl, rfl, by simp only; omega, by simp only; omega, .inr (by simp only; omega)⟩), ?_, bapp _ (by simp), rfl⟩
          simp only [atapp]; omega
  · obtain ⟨at', idx, tl, te⟩ := s
    obtain ⟨t1, t2, t3, t4, t5, t6, t7, t8⟩ := hT
    simp only at t1 t2 t3 t4 t5 t6 t7 t8
    exact ⟨_, bif_f (by simp only [hlS, t1]; exact decide_eq_false (by omega)) rfl, _, rfl, by simp only; omega, t5, t7, by simp only [t6]; omega, t8⟩
  · obtain ⟨tl, te⟩ := t
    obtain ⟨r1, r2, r3, r4, r5⟩ := ht
    simp only at r1 r2 r3 r4 r5
    subst r5
    have hm : 0 ≤ Int.tmod en 5 ∧ Int.tmod en 5 < 5 := ⟨Int.tmod_nonneg _ h1.1, Int.tmod_lt_of_pos en (by decide)⟩
    have hw : IntKind.u8.wrap (1 + (Int.tmod en 5)) = 1 + Int.tmod en 5 := wrap_u8 (by omega) (by omega)
    simp only [hw]
    by_cases e : 1 + Int.tmod en 5 = 2
    · refine ⟨_, cutE_i _ (bif_t (by simpa using e) (chk_i (by omega) rfl)) rfl, ⟨r1, r2, r3, r4, by simp only; omega, .inr ⟨by simp only; omega, by simp only; omega, by simp only; omega⟩⟩, by simp [e]⟩
    · refine ⟨_, cutE_i _ (bif_f (by simpa using e) rfl) rfl, ⟨r1, r2, r3, r4, by simp only; omega, .inl rfl⟩, by simp [e]⟩
end Go.Ab

