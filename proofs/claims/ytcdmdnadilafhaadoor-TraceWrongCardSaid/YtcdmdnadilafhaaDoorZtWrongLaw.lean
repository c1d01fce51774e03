/-
  The law TraceWrong of the given program returns true, whatever came in, and what came in reads as it did; what the row lists is tied to the program's text. No condition.
-/
import Derived.Test.YtcdmdnadilafhaaDoorZtFb
import Derived.Stop.LaidErr
import Derived.Deep.DeepHandedRow
import Derived.Deep.DeepWitnessRowRef
import Derived.ProofKit
import Derived.SizedLaws
import Derived.ChangeMaps
import Derived.Test.YtcdmdnadilafhaaDoorZtPv
import Derived.Test.YtcdmdnadilafhaaDoorCards
import Derived.Test.YtcdmdnadilafhaaDoorTie
import Derived.SevenTiedAt
set_option linter.unusedSimpArgs false
set_option linter.unusedVariables false
set_option maxRecDepth 100000
namespace Go.Ab
open Go Go.RowKit Go.Fwd Go.Proofs Go.Proofs.YtcdmdnadilafhaaDoor
theorem star_err : "*" ++ "errors.errorString" = "*errors.errorString" := by decide
theorem row147 (u : TypeId) (h : Tryd.prog.typeName? 3 u = some "*errors.errorString") : u = 147 :=
  typeName_ptr_named (nm := "errors.errorString") (by rw [star_err]; kernel_rfl) (by kernel_rfl) (by decide) u (by rw [star_err]; exact h)
theorem und73 : ∃ ms, Tryd.prog.underlying 73 = some (.interface ms) := ⟨_, rfl⟩
theorem und149 : ∃ f : Field, Tryd.prog.underlying 149 = some (.struct #[f]) ∧ f.type = 9 ∧ f.offset = 0 := ⟨_, rfl, rfl, rfl⟩
theorem hg0 : Tryd.prog.globalNamed "internal/strconv.uint64pow10" = some 3 := by kernel_rfl
theorem hty3 : (Tryd.prog.globals[3]?).map (·.type) = some 141 := by kernel_rfl
theorem und142 : Tryd.prog.underlying 141 = some (.array 20 107) := by kernel_rfl
theorem gv_of {W : World} (hL : laidMet Tryd.prog Rows.traceGoesRow.laid W) (hS : W.ShapedOpen Tryd.prog) : gvBase Tryd.prog W := by
  have h3 := laidMet.tail (laidMet.tail (laidMet.tail hL))
  obtain ⟨ms, hms⟩ := und73
  obtain ⟨f, hf, hft, hfo⟩ := und149
  refine ⟨fun n g hn hg => ?_, fun g hg => ?_, fun g hg => ?_⟩
  rotate_left
  · exact Lib.tabIs_of_head (rest := _) (g := 3) hg0 hty3 und142 (by kernel_rfl) (by kernel_rfl) (by kernel_rfl) (by have h := laidMet.tail (laidMet.tail hL); exact h)
  · have h0 : g = 0 := by
      have h1 : Tryd.prog.globalNamed "internal/bytealg.MaxLen" = some 0 := by kernel_rfl
      rw [h1] at hg; cases hg; rfl
    subst h0
    exact Tryd.laysM145.s1_3 W hS
  rcases hn with rfl | rfl
  · obtain ⟨a, s, hv, _⟩ := laid_sentinel (laidMet.tail h3) (by kernel_rfl : Tryd.prog.globalNamed "strconv.ErrSyntax" = some 1) (by kernel_rfl : (Tryd.prog.globals[1]?).map (·.type) = some 73) hms row147 (by kernel_rfl : Tryd.prog.underlying 147 = some (.pointer 149)) hf hft hfo und9 (by kernel_rfl) (by kernel_rfl)
    exact ⟨_, _, hv⟩
  · obtain ⟨a, s, hv, _⟩ := laid_sentinel h3 (by kernel_rfl : Tryd.prog.globalNamed "strconv.ErrRange" = some 2) (by kernel_rfl : (Tryd.prog.globals[2]?).map (·.type) = some 73) hms row147 (by kernel_rfl : Tryd.prog.underlying 147 = some (.pointer 149)) hf hft hfo und9 (by kernel_rfl) (by kernel_rfl)
    exact ⟨_, _, hv⟩
end Go.Ab
set_option linter.unusedSimpArgs false
set_option linter.unusedVariables false
set_option maxRecDepth 100000
namespace Go.Ab
open Go Go.RowKit Go.Fwd Go.Proofs Go.Proofs.YtcdmdnadilafhaaDoor Go.ChangeShapes Go.WideShapes Go.ChangeAt
noncomputable def litsOf : DataW Unit → Array Value
  | .agg l => (l.map fun d => match d with | .lit (.int k n) => Value.int k n | _ => undef).toArray
  | _ => #[]
noncomputable def textOf : DataW Unit → ByteArray
  | .iface _ (.ptr (.agg [.lit (.string l)])) => ⟨l.toArray⟩
  | _ => ⟨#[]⟩
noncomputable def low : Nat := (World.holding Tryd.prog default ⟨#[], #[], []⟩).heap.size
noncomputable def gN (n : String) : Nat := (Tryd.prog.globalNamed n).getD 0
noncomputable def laidWorld (os : Os) : World :=
  let w0 := World.holding Tryd.prog os ⟨#[.cells #[.string (textOf Rows.laid_strconv_ErrRange)] 149, .cells #[.string (textOf Rows.laid_strconv_ErrSyntax)] 149], #[], []⟩
  let put (h : Array Obj) (g : Nat) (cs : Array Value) : Array Obj := h.modify g fun
    | .cells _ t frozen => .cells cs t frozen
    | o => o
  let h1 := put w0.heap (gN "math/bits.deBruijn32tab") (litsOf Rows.laid_math_bits_deBruijn32tab)
  let h2 := put h1 (gN "math/bits.deBruijn64tab") (litsOf Rows.laid_math_bits_deBruijn64tab)
  let h3 := put h2 (gN "internal/strconv.uint64pow10") (litsOf Rows.laid_internal_strconv_uint64pow10)
  let h4 := put h3 2 #[.iface 147 (.pointer (some ⟨low, 0, none⟩))]
  let h5 := put h4 1 #[.iface 147 (.pointer (some ⟨low + 1, 0, none⟩))]
  { w0 with heap := h5 }
theorem laid_met (os : Os) (args : Array Value) : laidMet Tryd.prog Rows.traceGoesRow.laid ((laidWorld os).forCall (fun _ _ => 0) ⟨#[], args, []⟩).memory :=
  laidMet_of_run (ps := MemPlace.row ⟨gN "math/bits.deBruijn32tab", 0, none⟩ 32 ++ MemPlace.row ⟨gN "math/bits.deBruijn64tab", 0, none⟩ 64 ++ MemPlace.row ⟨gN "internal/strconv.uint64pow10", 0, none⟩ 20 ++ [.cell 2 0, .cell low 0, .cell 1 0, .cell (low + 1) 0]) 8 (by kernel_rfl) (by kernel_rfl) (by kernel_rfl)
end Go.Ab
set_option linter.unusedSimpArgs false
set_option linter.unusedVariables false
set_option maxRecDepth 100000
namespace Go.Proofs.YtcdmdnadilafhaaDoor
open Go Go.Ab Go.ChangeShapes Go.WideShapes Go.ChangeAt Go.RowKit Go.Fwd
theorem trodAll_below {H : Type} {enc : TypeId × Value → H} {P : Program} (hl : laidOutB P = true) {W W' : World} (hb : Below W.heap.size W W') : ∀ {ts : List TypeId} {vs : List Value} {ds : List (DataW H)} {ps : List MemPlace},
    (ts.all fun t => P.readableRec t && decide (t < P.types.size)) = true → DataW.TrodAll enc P W 0 (fun _ => true) true ts vs ds ps → (∀ x ∈ ps, x.block < W.heap.size) → DataW.TrodAll enc P W' 0 (fun b => decide (b < W.heap.size)) true ts vs ds ps
  | [], vs, ds, ps, _, h, _ => by
    cases vs with
    | nil =>
      cases ds with
      | nil => exact h
      | cons => exact h.elim
    | cons => exact h.elim
  | t :: ts, vs, ds, ps, ht, h, hlt => by
    obtain ⟨v, vs', d, ds', p, q, rfl, rfl, rfl, hd, hr⟩ := trodAll_cons h
    simp only [List.all_cons, Bool.and_eq_true, decide_eq_true_eq] at ht
    exact ⟨p, q, Below.trod hl ht.1.1 ht.1.2 hd hb fun x hx => hlt x (by simp [hx]), trodAll_below hl hb ht.2 hr fun x hx => hlt x (by simp [hx]), rfl⟩
theorem own' : ownKnob Tryd.prog.godebug = none := by kernel_rfl
theorem laidOut' : laidOutB Tryd.prog = true := by kernel_rfl
theorem bnd_i64 {n : Int} (h : (Lit.int .i64 n).wf = true) : -9223372036854775808 ≤ n ∧ n < 9223372036854775808 := by
  have h1 : IntKind.i64.min = -9223372036854775808 := rfl
  have h2 : IntKind.i64.max = 9223372036854775807 := rfl
  simp only [Lit.wf, Bool.and_eq_true, decide_eq_true_eq] at h
  omega
end Go.Proofs.YtcdmdnadilafhaaDoor
set_option linter.unusedSimpArgs false
set_option linter.unusedVariables false
set_option maxRecDepth 100000
namespace Go.Proofs.YtcdmdnadilafhaaDoor
open Go Go.Ab Go.ChangeShapes Go.WideShapes Go.ChangeAt Go.RowKit Go.Fwd
theorem trods_traceWrong {H : Type} {enc : TypeId × Value → H} {P : Program} {w : World} {base : Nat} {spare : Nat → Bool} {held : Bool} {t0 t1 t2 t3 : TypeId} {args : Array Value} {ds : List (DataW H)} {ps : List MemPlace} (h : DataW.TrodAll enc P w base spare held [t0, t1, t2, t3] args.toList ds ps) :
    ∃ v0 v1 v2 v3 d0 d1 d2 d3 p0 p1 p2 p3, args = #[v0, v1, v2, v3] ∧ ds = [d0, d1, d2, d3] ∧ ps = p0 ++ p1 ++ p2 ++ p3 ∧ DataW.Trod enc P w base spare held t0 v0 d0 p0 ∧ DataW.Trod enc P w base spare held t1 v1 d1 p1 ∧ DataW.Trod enc P w base spare held t2 v2 d2 p2 ∧ DataW.Trod enc P w base spare held t3 v3 d3 p3 := by
  obtain ⟨v0, a0, d0, s0, p0, q0, hargs, rfl, rfl, g0, h⟩ := trodAll_cons h
  obtain ⟨v1, a1, d1, s1, p1, q1, rfl, rfl, rfl, g1, h⟩ := trodAll_cons h
  obtain ⟨v2, a2, d2, s2, p2, q2, rfl, rfl, rfl, g2, h⟩ := trodAll_cons h
  obtain ⟨v3, a3, d3, s3, p3, q3, rfl, rfl, rfl, g3, h⟩ := trodAll_cons h
  obtain ⟨rfl, rfl, rfl⟩ := trodAll_nil h
  exact ⟨v0, v1, v2, v3, d0, d1, d2, d3, p0, p1, p2, p3, by cases args; simp_all, rfl, by simp, g0, g1, g2, g3⟩
theorem witness_traceWrong (os : Os) {H : Type} (enc : TypeId × Value → H) :
    (OpenSpec.ofChange Rows.traceWrongSpec).preRow enc Tryd.prog Tryd.f8 Rows.traceWrongRow.domain false Rows.traceWrongRow.laid ((laidWorld os).forCall (fun _ _ => 0) ⟨#[], #[.slice none 0 0, .int .u8 0, .int .u8 0, .int .i64 0], []⟩).memory #[.slice none 0 0, .int .u8 0, .int .u8 0, .int .i64 0] :=
  OpenSpec.preRow_of_B rfl 8 (by kernel_rfl) (by kernel_rfl) (laid_met os _)
theorem traceWrong_lifted (os : Os) (started : os.Started) (H : Type) (enc : TypeId × Value → H) (F : Stop.Interp) :
    ReturnsInHanded {} Tryd.checked os 8 .any ((OpenSpec.ofChange Rows.traceWrongSpec).preRow enc Tryd.prog Tryd.f8 Rows.traceWrongRow.domain false Rows.traceWrongRow.laid) (((OpenSpec.ofChange Rows.traceWrongSpec).at F).post enc Tryd.prog Tryd.f8 false true false false) := by
  refine returnsInHanded_of_row (C := Tryd.checked) (s := OpenSpec.ofChange Rows.traceWrongSpec) own' started (by kernel_rfl) Tryd.func8
    (witness_row_atRef (enc := enc) (C := Tryd.checked) false (laidWorld os) #[.slice none 0 0, .int .u8 0, .int .u8 0, .int .i64 0] rfl (by kernel_rfl) (by kernel_rfl) (by kernel_rfl) (witness_traceWrong os enc)) ?_
  intro W base args ds gs before hval0 hW hcnd0 _ hsz0 hL hS _
  have hval : ∀ (j : Nat) t v, Tryd.f8.params[j]? = some t → args[j]? = some v → Value.okWide Tryd.prog W .any base t v := hval0
  have hW' := hW
  obtain ⟨p, q, hA0, hV, rfl, _, _⟩ := hW
  have hA : DataW.TrodAll enc Tryd.prog W 0 (fun _ => true) true Tryd.f8.params.toList args.toList ds p := hA0
  rw [show Tryd.f8.params.toList = [32, 5, 5, 3] from by kernel_rfl] at hA
  have hA1 := hA
  obtain ⟨v0, v1, v2, v3, d0, d1, d2, d3, p0, p1, p2, p3, rfl, rfl, rfl, h0, h1, h2, h3⟩ := trods_traceWrong hA
  obtain ⟨rfl, rfl⟩ := trodVars_none hV
  obtain ⟨x0, r0, hr0⟩ := open_smallsB (hval 0 32 v0 (by kernel_rfl) rfl) h0
  obtain ⟨x1, rfl, rfl, rfl, w1⟩ := open_int und5 (hval 1 5 v1 (by kernel_rfl) rfl) h1
  have r1 : 0 ≤ x1 ∧ x1 < 256 := by have := bnd_u8 w1; omega
  obtain ⟨x2, rfl, rfl, rfl, w2⟩ := open_int und5 (hval 2 5 v2 (by kernel_rfl) rfl) h2
  have r2 : 0 ≤ x2 ∧ x2 < 256 := by have := bnd_u8 w2; omega
  obtain ⟨x3, rfl, rfl, rfl, w3⟩ := open_int und3 (hval 3 3 v3 (by kernel_rfl) rfl) h3
  have r3 : -9223372036854775808 ≤ x3 ∧ x3 < 9223372036854775808 := bnd_i64 w3
  clear hA0 hval0
  simp only [List.append_nil, List.nil_append] at hW' hA1
  have hlt := hW'.lt
  refine (frame_of (tracewrong_sh 100 x0 x1 x2 x3 true (tracewrong_eq x0 r0 x1 x2 x3 r1 r2)) W (gv_of hL hS) (vs := [v0, .int .u8 x1, .int .u8 x2, .int .i64 x3]) ⟨_, _, rfl, hr0, _, _, rfl, rfl, _, _, rfl, rfl, _, _, rfl, rfl, rfl⟩).mono fun e W' ⟨he, hw⟩ => ?_
  subst he
  refine ⟨_, rfl, ?_⟩
  refine ⟨_, _, _, [] ++ [], p0, [], hW', ?_, ?_, rfl, hw.frame _, fun h => by cases h⟩
  · exact trodAll_mk1 (shut_bool (show Tryd.prog.underlying 4 = some .bool from by kernel_rfl) true)
  · exact trodAll_below laidOut' hw (by kernel_rfl) hA1 hlt
theorem traceWrong_holds : Rows.TraceWrongSaid :=
  OpenClaim.holds_of_cond 8 Tryd.f8 rfl rfl rfl rfl rfl rfl rfl ⟨rfl, rfl, rfl, rfl, rfl⟩ rfl rfl rfl rfl rfl (by kernel_rfl) Tryd.func8 (by kernel_rfl)
    (of_decide_eq_true (by kernel_rfl)) (by unfold Func.isWrapper; rw [if_neg (of_decide_eq_false (by kernel_rfl))]; exact ⟨rfl, rfl⟩)
    (fun os started H enc _ F0 => by rw [OpenClaim.pre_eq_preRow]; exact traceWrong_lifted os started H enc F0)
theorem traceWrong_card : Rows.TraceWrongCardSaid :=
  Claim7.holds_tied_plain_at .later [] [.data, .data, .data, .sentinel, .sentinel] true (true, "6adc477c2da4368bf170d021dffc172f579d8c3b61be681be56638f3f14cc3cb") true
    traceWrong_holds (fun _ h => by cases h) (by kernel_rfl) (fun _ h => by cases h) traceWrong_row_tie rfl ⟨rfl, rfl⟩ (by kernel_rfl) rfl
    (fun f fn hf hfn => by
      obtain rfl : f = 8 := Option.some.inj ((show Tryd.prog.funcNamed "repartee/reparteelaw33.TraceWrong" = some 8 by kernel_rfl).symm.trans hf) |>.symm
      obtain rfl : fn = Tryd.f8 := (Option.some.inj (Tryd.func8.symm.trans hfn)).symm
      exact ⟨by kernel_rfl, fun j t ht => by
        have hm : t ∈ [32, 5, 5, 3] := by
          have h := Array.mem_of_getElem? ht
          rw [← Array.mem_toList_iff, show Tryd.f8.params.toList = [32, 5, 5, 3] from by kernel_rfl] at h
          exact h
        have hall : ([32, 5, 5, 3].all fun u => !Tryd.prog.wantsStandIn u) = true := by kernel_rfl
        exact (show Tryd.prog.wantsStandIn t = false by simpa using List.all_eq_true.1 hall t hm)⟩)
    (by kernel_rfl)
#print axioms traceWrong_card
end Go.Proofs.YtcdmdnadilafhaaDoor

