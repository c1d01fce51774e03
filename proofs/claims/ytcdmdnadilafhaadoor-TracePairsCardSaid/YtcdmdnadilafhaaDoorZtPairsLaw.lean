/-
  The law TracePairs of the given program returns true, whatever came in, and what came in reads as it did; what the row lists is tied to the program's text. No condition.
-/
import Derived.Test.YtcdmdnadilafhaaDoorZtPn
import Derived.Test.YtcdmdnadilafhaaDoorZtFt
import Derived.Test.YtcdmdnadilafhaaDoorZtLw
import Derived.Test.YtcdmdnadilafhaaDoorCards
import Derived.Test.YtcdmdnadilafhaaDoorTie
import Derived.SevenTiedAt
set_option linter.unusedSimpArgs false
set_option linter.unusedVariables false
set_option maxRecDepth 100000
namespace Go.Proofs.YtcdmdnadilafhaaDoor
open Go Go.Ab Go.ChangeShapes Go.WideShapes Go.ChangeAt Go.RowKit Go.Fwd

theorem trods_tracePairs {H : Type} {enc : TypeId × Value → H} {P : Program} {w : World} {base : Nat} {spare : Nat → Bool} {held : Bool} {t0 t1 t2 : TypeId} {args : Array Value} {ds : List (DataW H)} {ps : List MemPlace} (h : DataW.TrodAll enc P w base spare held [t0, t1, t2] args.toList ds ps) :
    ∃ v0 v1 v2 d0 d1 d2 p0 p1 p2, args = #[v0, v1, v2] ∧ ds = [d0, d1, d2] ∧ ps = p0 ++ p1 ++ p2 ∧ DataW.Trod enc P w base spare held t0 v0 d0 p0 ∧ DataW.Trod enc P w base spare held t1 v1 d1 p1 ∧ DataW.Trod enc P w base spare held t2 v2 d2 p2 := by
  obtain ⟨v0, a0, d0, s0, p0, q0, hargs, rfl, rfl, g0, h⟩ := trodAll_cons h
  obtain ⟨v1, a1, d1, s1, p1, q1, rfl, rfl, rfl, g1, h⟩ := trodAll_cons h
  obtain ⟨v2, a2, d2, s2, p2, q2, rfl, rfl, rfl, g2, h⟩ := trodAll_cons h
  obtain ⟨rfl, rfl, rfl⟩ := trodAll_nil h
  exact ⟨v0, v1, v2, d0, d1, d2, p0, p1, p2, by cases args; simp_all, rfl, by simp, g0, g1, g2⟩
theorem witness_tracePairs (os : Os) {H : Type} (enc : TypeId × Value → H) :
    (OpenSpec.ofChange Rows.tracePairsSpec).preRow enc Tryd.prog Tryd.f3 Rows.tracePairsRow.domain false Rows.tracePairsRow.laid ((laidWorld os).forCall (fun _ _ => 0) ⟨#[], #[.agg #[.slice none 0 0, .int .u8 0, .int .i64 0], .agg #[.slice none 0 0, .int .u8 0, .int .i64 0], .int .u8 0], []⟩).memory #[.agg #[.slice none 0 0, .int .u8 0, .int .i64 0], .agg #[.slice none 0 0, .int .u8 0, .int .i64 0], .int .u8 0] :=
  OpenSpec.preRow_of_B rfl 8 (by kernel_rfl) (by kernel_rfl) (laid_met os _)
theorem tracePairs_lifted (os : Os) (started : os.Started) (H : Type) (enc : TypeId × Value → H) (F : Stop.Interp) :
    ReturnsInHanded {} Tryd.checked os 3 .any ((OpenSpec.ofChange Rows.tracePairsSpec).preRow enc Tryd.prog Tryd.f3 Rows.tracePairsRow.domain false Rows.tracePairsRow.laid) (((OpenSpec.ofChange Rows.tracePairsSpec).at F).post enc Tryd.prog Tryd.f3 false true false false) := by
  refine returnsInHanded_of_row (C := Tryd.checked) (s := OpenSpec.ofChange Rows.tracePairsSpec) own' started (by kernel_rfl) Tryd.func3
    (witness_row_atRef (enc := enc) (C := Tryd.checked) false (laidWorld os) #[.agg #[.slice none 0 0, .int .u8 0, .int .i64 0], .agg #[.slice none 0 0, .int .u8 0, .int .i64 0], .int .u8 0] rfl (by kernel_rfl) (by kernel_rfl) (by kernel_rfl) (witness_tracePairs os enc)) ?_
  intro W base args ds gs before hval0 hW hcnd0 _ _ hL _ _
  have hval : ∀ (j : Nat) t v, Tryd.f3.params[j]? = some t → args[j]? = some v → Value.okWide Tryd.prog W .any base t v := hval0
  have hW' := hW
  obtain ⟨p, q, hA0, hV, rfl, _, _⟩ := hW
  have hA : DataW.TrodAll enc Tryd.prog W 0 (fun _ => true) true Tryd.f3.params.toList args.toList ds p := hA0
  rw [show Tryd.f3.params.toList = [26, 26, 5] from by kernel_rfl] at hA
  have hA1 := hA
  obtain ⟨v0, v1, v2, d0, d1, d2, p0, p1, p2, rfl, rfl, rfl, h0, h1, h2⟩ := trods_tracePairs hA
  obtain ⟨rfl, rfl⟩ := trodVars_none hV
  obtain ⟨x0, r0, hr0⟩ := open_trc (hval 0 26 v0 (by kernel_rfl) rfl) h0
  obtain ⟨x1, r1, hr1⟩ := open_trc (hval 1 26 v1 (by kernel_rfl) rfl) h1
  obtain ⟨x2, rfl, rfl, rfl, w2⟩ := open_int und5 (hval 2 5 v2 (by kernel_rfl) rfl) h2
  have r2 : 0 ≤ x2 ∧ x2 < 256 := by have := bnd_u8 w2; omega
  clear hA0 hval0
  simp only [List.append_nil, List.nil_append] at hW' hA1
  have hlt := hW'.lt
  refine (frame_of (tracepairs_sh 200 x0 x1 x2 true (tracepairs_eq x0 x1 x2 r0 r1 r2)) W (gv_of hL) (vs := [v0, v1, .int .u8 x2]) ⟨_, _, rfl, hr0, _, _, rfl, hr1, _, _, rfl, rfl, rfl⟩).mono fun e W' ⟨he, hw⟩ => ?_
  subst he
  refine ⟨_, rfl, ?_⟩
  refine ⟨_, _, _, [] ++ [], p0 ++ p1, [], hW', ?_, ?_, rfl, hw.frame _, fun h => by cases h⟩
  · exact trodAll_mk1 (shut_bool (show Tryd.prog.underlying 4 = some .bool from by kernel_rfl) true)
  · exact trodAll_below laidOut' hw (by kernel_rfl) hA1 hlt
theorem tracePairs_holds : Rows.TracePairsSaid :=
  OpenClaim.holds_of_cond 3 Tryd.f3 rfl rfl rfl rfl rfl rfl rfl ⟨rfl, rfl, rfl, rfl, rfl⟩ rfl rfl rfl rfl rfl (by kernel_rfl) Tryd.func3 (by kernel_rfl)
    (of_decide_eq_true (by kernel_rfl)) (by unfold Func.isWrapper; rw [if_neg (of_decide_eq_false (by kernel_rfl))]; exact ⟨rfl, rfl⟩)
    (fun os started H enc _ F0 => by rw [OpenClaim.pre_eq_preRow]; exact tracePairs_lifted os started H enc F0)
theorem tracePairs_card : Rows.TracePairsCardSaid :=
  Claim7.holds_tied_plain_at .later [] [.data, .data, .data, .sentinel, .sentinel] true (true, "6adc477c2da4368bf170d021dffc172f579d8c3b61be681be56638f3f14cc3cb") true
    tracePairs_holds (fun _ h => by cases h) (by kernel_rfl) (fun _ h => by cases h) tracePairs_row_tie rfl ⟨rfl, rfl⟩ (by kernel_rfl) rfl
    (fun f fn hf hfn => by
      obtain rfl : f = 3 := Option.some.inj ((show Tryd.prog.funcNamed "repartee/reparteelaw33.TracePairs" = some 3 by kernel_rfl).symm.trans hf) |>.symm
      obtain rfl : fn = Tryd.f3 := (Option.some.inj (Tryd.func3.symm.trans hfn)).symm
      exact ⟨by kernel_rfl, fun j t ht => by
        have hm : t ∈ [26, 26, 5] := by
          have h := Array.mem_of_getElem? ht
          rw [← Array.mem_toList_iff, show Tryd.f3.params.toList = [26, 26, 5] from by kernel_rfl] at h
          exact h
        have hall : ([26, 26, 5].all fun u => !Tryd.prog.wantsStandIn u) = true := by kernel_rfl
        exact (show Tryd.prog.wantsStandIn t = false by simpa using List.all_eq_true.1 hall t hm)⟩)
    (by kernel_rfl)
#print axioms tracePairs_card
end Go.Proofs.YtcdmdnadilafhaaDoor
