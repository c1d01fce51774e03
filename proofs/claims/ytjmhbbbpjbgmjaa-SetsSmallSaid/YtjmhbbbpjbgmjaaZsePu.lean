/-
  Sets as typed values of the abstract machine; the contracts of package sets in this form.
-/
import Derived.Test.YtjmhbbbpjbgmjaaZseQs
import Derived.Test.YtjmhbbbpjbgmjaaZseAwake
import Derived.Test.YtjmhbbbpjbgmjaaZsePn
set_option linter.unusedSimpArgs false
set_option linter.unusedVariables false
namespace Go.Ab
open Go Go.RowKit Go.Fwd Go.Proofs Go.Proofs.Ytjmhbbbpjbgmjaa

theorem mix : Try.prog.follows .mixedOrders = true := by kernel_rfl
def cellsB (s : BS) : List AV := [.raw (.int .u64 (wd s 0)), .raw (.int .u64 (wd s 1)), .raw (.int .u64 (wd s 2)), .raw (.int .u64 (wd s 3))]
instance : Enc BS where
  inh := 0#256
  cells := cellsB
  cellsL l := l.flatMap cellsB
  sz := 4
  pos := by decide
  nil := rfl
  cons _ _ := rfl
  len _ := rfl
  clo _ := rfl
theorem rep_set {IT : IterP} {X : Cx} {S : BS} {v : Value} (h : Rep IT X (.agg (Enc.cells S)) v) : v = sv S := by
  rw [Rep] at h
  obtain ⟨vs, rfl, hr, _⟩ := h
  change RepL IT X (cellsB S) vs at hr
  unfold cellsB at hr
  simp only [RepL, Rep] at hr
  obtain ⟨v0, _, rfl, rfl, v1, _, rfl, rfl, v2, _, rfl, rfl, v3, _, rfl, rfl, rfl⟩ := hr
  rfl
theorem set_rep {IT : IterP} {X : Cx} (S : BS) : Rep IT X (.agg (Enc.cells S)) (sv S) := by
  rw [Rep]
  refine ⟨[.int .u64 (wd S 0), .int .u64 (wd S 1), .int .u64 (wd S 2), .int .u64 (wd S 3)], rfl, ?_, ?_⟩
  · show RepL IT X (cellsB S) _
    unfold cellsB
    simp only [RepL, Rep]
    exact ⟨_, _, rfl, rfl, _, _, rfl, rfl, _, _, rfl, rfl, _, _, rfl, rfl, rfl⟩
  · intro u hu
    simp only [List.mem_cons, List.not_mem_nil, or_false] at hu
    rcases hu with rfl | rfl | rfl | rfl <;> rfl
theorem pure_calls {IT : IterP} (hIT : ITMono IT) {P : Program} {f : FuncId} {args : List AV} {r : AV} (vs : List Value) (he : Ent P f) (ha : ∀ X us, RepL IT X args us → us = vs)
    (h : ∀ W, Calls P f vs.toArray W fun e w' => ∃ u, e = .returned u ∧ Ex W.heap.size W w' ∧ ∀ X, X.w = w' → (∀ b o, W.heap.size ≤ b → (∃ v, w'.cell? ⟨b, o, none⟩ = some v) → X.F b o) → Rep IT X r u) : Pure IT P f args r := by
  refine ⟨he, fun X us hI hr => ?_⟩
  rw [ha X us hr]
  refine (h X.w).mono ?_
  rintro e w' ⟨u, rfl, hx, hu⟩
  have hg : Grows X.w w' := hx
  exact ⟨u, grown X w', rfl, rfl, ext_grown hI hg, inv_grown hIT hI hg, hu _ rfl fun b o hb hv => .inr ⟨hb, hv⟩⟩
theorem pure_ret {IT : IterP} (hIT : ITMono IT) {P : Program} {f : FuncId} {args : List AV} {r : AV} (vs : List Value) (u : Value) (he : Ent P f) (ha : ∀ X us, RepL IT X args us → us = vs) (hu : ∀ X, Rep IT X r u)
    (h : ∀ W, Calls P f vs.toArray W (Ret u W)) : Pure IT P f args r :=
  pure_calls hIT vs he ha fun W => (h W).mono fun e w' ⟨h1, h2⟩ => ⟨u, h1, h2, fun X _ _ => hu X⟩
abbrev IS := ITP Try.prog
theorem args1 {X : Cx} {A : BS} {us : List Value} (h : RepL IS X [.agg (Enc.cells A)] us) : us = [sv A] := by
  simp only [RepL] at h
  obtain ⟨v, r, rfl, hv, rfl⟩ := h
  rw [rep_set hv]
theorem args2 {X : Cx} {A B : BS} {us : List Value} (h : RepL IS X [.agg (Enc.cells A), .agg (Enc.cells B)] us) : us = [sv A, sv B] := by
  simp only [RepL] at h
  obtain ⟨v, r, rfl, hv, v2, r2, rfl, hv2, rfl⟩ := h
  rw [rep_set hv, rep_set hv2]
theorem raw_rep {X : Cx} (v : Value) : Rep IS X (.raw v) v := by rw [Rep]
theorem k_awake : Pure IS Try.prog 10 [] (.raw (.bool true)) :=
  pure_ret (itp_mono _) [] (.bool true) (enters_of Try.func10 (by kernel_rfl) rfl) (fun X us h => by simpa only [RepL] using h) (fun X => raw_rep _) awake_any
theorem k_or (A B : BS) : Pure IS Try.prog 16 [.agg (Enc.cells A), .agg (Enc.cells B)] (.agg (Enc.cells (A ||| B))) :=
  pure_ret (itp_mono _) [sv A, sv B] (sv (A ||| B)) (enters_of Try.func16 (by kernel_rfl) rfl) (fun X us => args2) (fun X => set_rep _) (or_any A B)
theorem k_and (A B : BS) : Pure IS Try.prog 17 [.agg (Enc.cells A), .agg (Enc.cells B)] (.agg (Enc.cells (A &&& B))) :=
  pure_ret (itp_mono _) [sv A, sv B] (sv (A &&& B)) (enters_of Try.func17 (by kernel_rfl) rfl) (fun X us => args2) (fun X => set_rep _) (and_any A B)
theorem k_not (A : BS) : Pure IS Try.prog 18 [.agg (Enc.cells A)] (.agg (Enc.cells (~~~A))) :=
  pure_ret (itp_mono _) [sv A] (sv (~~~A)) (enters_of Try.func18 (by kernel_rfl) rfl) (fun X us => args1) (fun X => set_rep _) (not_any A)
theorem k_less (A B : BS) : Pure IS Try.prog 12 [.agg (Enc.cells A), .agg (Enc.cells B)] (.agg (Enc.cells (A &&& ~~~B))) :=
  pure_ret (itp_mono _) [sv A, sv B] (sv (A &&& ~~~B)) (enters_of Try.func12 (by kernel_rfl) rfl) (fun X us => args2) (fun X => set_rep _) (less_any A B)
theorem k_all : Pure IS Try.prog 19 [] (.agg (Enc.cells (BitVec.allOnes 256))) :=
  pure_ret (itp_mono _) [] (sv (BitVec.allOnes 256)) (enters_of Try.func19 (by kernel_rfl) rfl) (fun X us h => by simpa only [RepL] using h) (fun X => set_rep _) all_any
theorem k_within (A B : BS) : Pure IS Try.prog 20 [.agg (Enc.cells A), .agg (Enc.cells B)] (.raw (.bool (A &&& ~~~B == 0#256))) :=
  pure_ret (itp_mono _) [sv A, sv B] _ (enters_of Try.func20 (by kernel_rfl) rfl) (fun X us => args2) (fun X => raw_rep _) (within_any A B)
theorem k_meets (A B : BS) : Pure IS Try.prog 21 [.agg (Enc.cells A), .agg (Enc.cells B)] (.raw (.bool (!(A &&& B == 0#256)))) :=
  pure_ret (itp_mono _) [sv A, sv B] _ (enters_of Try.func21 (by kernel_rfl) rfl) (fun X us => args2) (fun X => raw_rep _) (meets_any A B)
def leastS (A : BS) : Int := match firstOf A with | some c => (c : Int) | none => 0
def someS (A : BS) : Bool := (firstOf A).isSome
theorem k_first (A : BS) : Pure IS Try.prog 24 [.agg (Enc.cells A)] (.tup [.raw (.int .u8 (leastS A)), .raw (.bool (someS A))]) :=
  pure_ret (itp_mono _) [sv A] (firstV (firstOf A)) (enters_of Try.func24 (by kernel_rfl) rfl) (fun X us => args1) (fun X => by
    rw [Rep]
    refine ⟨[.int .u8 (leastS A), .bool (someS A)], ?_, ?_⟩
    · unfold leastS someS
      cases firstOf A <;> rfl
    · simp only [RepL, Rep]
      exact ⟨_, _, rfl, rfl, _, _, rfl, rfl, rfl⟩) (first_any A)
theorem at_set {X : Cx} : ∀ (l : List BS) (b o : Nat), At IS X (Enc.cellsL l) b o → ∀ (i : Nat) (x : Value), (setC l)[i]? = some x → X.w.cell? ⟨b, o + i, none⟩ = some x := by
  have one : ∀ (cs : List AV) (vs : List Value) (b o : Nat), At IS X cs b o → cs = vs.map AV.raw → ∀ (i : Nat) (x : Value), vs[i]? = some x → X.w.cell? ⟨b, o + i, none⟩ = some x := by
    intro cs
    induction cs with
    | nil => intro vs b o _ he i x hx; cases vs <;> simp at he hx
    | cons c cs ih =>
      intro vs b o h he i x hx
      cases vs with
      | nil => simp at he
      | cons v vs =>
        simp only [List.map_cons, List.cons.injEq] at he
        obtain ⟨rfl, he⟩ := he
        rw [At] at h
        obtain ⟨⟨hF, u, hu, h1, hr⟩, hat⟩ := h
        rw [Rep] at hr
        subst hr
        cases i with
        | zero => simp at hx; subst hx; exact hu
        | succ i =>
          have := ih vs b (o + 1) hat he i x (by simpa using hx)
          rwa [show o + 1 + i = o + (i + 1) by omega] at this
  intro l b o h i x hx
  refine one _ (setC l) b o h ?_ i x hx
  show l.flatMap cellsB = (setC l).map AV.raw
  induction l with
  | nil => rfl
  | cons S l ih => simp only [List.flatMap_cons, setC, List.map_append, List.map_flatMap]; rfl
theorem set_at {X : Cx} (l : List BS) (b o : Nat) (hc : ∀ (i : Nat) (x : Value), (setC l)[i]? = some x → X.F b (o + i) ∧ X.w.cell? ⟨b, o + i, none⟩ = some x) : At IS X (Enc.cellsL l) b o := by
  have one : ∀ (vs : List Value) (b o : Nat), (∀ v ∈ vs, v.oneCell' = true) → (∀ (i : Nat) (x : Value), vs[i]? = some x → X.F b (o + i) ∧ X.w.cell? ⟨b, o + i, none⟩ = some x) → At IS X (vs.map AV.raw) b o := by
    intro vs
    induction vs with
    | nil => intro b o _ _; rw [List.map_nil, At]; trivial
    | cons v vs ih =>
      intro b o h1 hc
      rw [List.map_cons, At]
      have h0 := hc 0 v rfl
      exact ⟨⟨h0.1, v, h0.2, h1 v (by simp), raw_rep v⟩, ih b (o + 1) (fun u hu => h1 u (by simp [hu])) fun i x hx => by
        have := hc (i + 1) x (by simpa using hx)
        rwa [show o + (i + 1) = o + 1 + i by omega] at this⟩
  have e : Enc.cellsL l = (setC l).map AV.raw := by
    show l.flatMap cellsB = (setC l).map AV.raw
    induction l with
    | nil => rfl
    | cons S l ih => simp only [List.flatMap_cons, setC, List.map_append, List.map_flatMap]; rfl
  rw [e]
  refine one _ b o (fun v hv => ?_) hc
  simp only [setC, List.mem_flatMap] at hv
  obtain ⟨S, _, hv⟩ := hv
  have : v ∈ [.int .u64 (wd S 0), .int .u64 (wd S 1), .int .u64 (wd S 2), .int .u64 (wd S 3)] := hv
  simp only [List.mem_cons, List.not_mem_nil, or_false] at this
  rcases this with rfl | rfl | rfl | rfl <;> rfl
theorem setC_len (l : List BS) : (setC l).length = 4 * l.length := by
  induction l with
  | nil => rfl
  | cons S l ih => simp only [setC, List.flatMap_cons, List.length_append] at ih ⊢; rw [ih]; show 4 + _ = _; simp; omega
theorem k_parts (l : List BS) (h : l.length ≤ 12) : Pure IS Try.prog 23 [.list l.length (Enc.cellsL l) .none] (.list (partsS l).length (Enc.cellsL (partsS l)) .none) := by
  refine ⟨enters_of Try.func23 (by kernel_rfl) rfl, fun X us hI hr => ?_⟩
  simp only [RepL] at hr
  obtain ⟨v, r, rfl, hv, rfl⟩ := hr
  rw [Rep] at hv
  obtain ⟨a, cap, rfl, _, hat, _⟩ := hv
  refine (parts_new2 l h _ X.w ⟨a, cap, rfl, fun hl => ?_⟩).mono ?_
  · rcases hat with he | ⟨b, o, rfl, hat⟩
    · exfalso
      cases l with
      | nil => simp at hl
      | cons S l => exact absurd he (by simp [Enc.cellsL, cellsB])
    · have h0 : X.F b o := by
        cases l with
        | nil => simp at hl
        | cons S l =>
          have : At IS X (cellsB S ++ l.flatMap cellsB) b o := hat
          unfold cellsB at this
          rw [List.cons_append, At] at this
          exact this.1.1
      exact ⟨b, o, rfl, hI.Flt h0, at_set l b o hat⟩
  rintro e w' ⟨v, rfl, hx, ⟨hs, g, cap', rfl, hg, hle⟩⟩
  have hgr : Grows X.w w' := hx
  refine ⟨_, grown X w', rfl, rfl, ext_grown hI hgr, inv_grown (itp_mono _) hI hgr, ?_⟩
  rw [Rep]
  have hne : 0 < (partsS l).length := by
    rw [partsS, sortS_len]; exact List.length_pos_iff.2 (partsU_ne l).2
  rcases hs with ⟨h1, _, _⟩ | ⟨b, o, cap2, h1, hb, hc⟩
  · cases h1
  · have e1 : b = g ∧ o = 0 := by cases h1; exact ⟨rfl, rfl⟩
    obtain ⟨rfl, rfl⟩ := e1
    have e2 : cap2 = cap' := by cases h1; rfl
    refine ⟨_, cap', rfl, ⟨?_, fun h => by cases h⟩, .inr ⟨b, 0, rfl, set_at _ _ _ fun i x hx => ?_⟩, trivial⟩
    · subst e2; exact hle
    · have := hc i x hx
      exact ⟨.inr ⟨hg, x, this⟩, this⟩
/-! ### sets compared -/
theorem guard24 : Try.prog.eqGuardType Try.prog.depth 24 = false := by kernel_rfl
theorem rs_eqset {ρ : Operand → AV} {o : Oper} {x y : Operand} {c} (s t : BS) (ho : o.op = .binOp .eql 24 x y c) (hx : ρ x = .agg (Enc.cells s)) (hy : ρ y = .agg (Enc.cells t)) : RawRun Try.prog ρ o (.raw (.bool (decide (s = t)))) := by
  replace hx : ρ x = .agg (cellsB s) := hx
  replace hy : ρ y = .agg (cellsB t) := hy
  refine ⟨?_, by rw [ho]; intros; simp, by rw [ho]; intros; simp, .bool (decide (s = t)), fun w => ?_, rfl, rfl⟩
  · rw [ho]; simp [Op.operands, hx, hy, cellsB, toVal, rawCells, rawCell]
  · have h1 : rawEnv ρ x = .agg #[.int .u64 (wd s 0), .int .u64 (wd s 1), .int .u64 (wd s 2), .int .u64 (wd s 3)] := by simp [rawEnv, hx, cellsB, toVal, rawCells, rawCell]
    have h2 : rawEnv ρ y = .agg #[.int .u64 (wd t 0), .int .u64 (wd t 1), .int .u64 (wd t 2), .int .u64 (wd t 3)] := by simp [rawEnv, hy, cellsB, toVal, rawCells, rawCell]
    have h3 := eqIn24 (wd s 0) (wd s 1) (wd s 2) (wd s 3) (wd t 0) (wd t 1) (wd t 2) (wd t 3) w
    rw [sv_beq, show (s == t) = decide (s = t) from rfl] at h3
    simp [execOp, ho, h1, h2, eqGuard, binOp, Op.equal, Op.maxDepth, program, Sem.run, guard24, h3]
end Go.Ab
