/-
  The law SetsTells of the given program returns true, whatever the two sets and the two bytes, and what came in reads as it did. No condition.
-/
import Derived.Test.YtjmhbbbpjbgmjaaZseTr
import Derived.Test.YtjmhbbbpjbgmjaaZseFr
set_option linter.unusedSimpArgs false
set_option linter.unusedVariables false
namespace Go.Ab
open Go Go.RowKit Go.Fwd Go.Proofs Go.Proofs.Ytjmhbbbpjbgmjaa
theorem k_tells (a b : BS) (c d : Int) (h : (0 ≤ c ∧ c < 256) ∧ 0 ≤ d ∧ d < 256) : Pure (ITP Try.prog) Try.prog 15 [.agg (Enc.cells a), .agg (Enc.cells b), .raw (.int .u8 c), .raw (.int .u8 d)] (.raw (.bool true)) := tells_sh 400 a b c d true (tells_eq 400 (by omega) a b c d h.1 h.2)
def F_setstells (a : BS) (b : BS) (c : Int) (d : Int) : Option Bool :=
  (chk ((0 ≤ c ∧ c < 256) ∧ 0 ≤ d ∧ d < 256) (some true))
theorem ent4 : Ent Try.prog 4 := enters_of Try.func4 (by kernel_rfl) rfl
set_option maxRecDepth 100000 in
set_option maxHeartbeats 4000000 in
theorem setstells_sh (a : BS) (b : BS) (c : Int) (d : Int) (r : Bool) (h : F_setstells a b c d = some r) : Pure (ITP Try.prog) Try.prog 4 [.agg (Enc.cells (a : BS)), .agg (Enc.cells (b : BS)), .raw (.int .u8 c), .raw (.int .u8 d)] (.raw (.bool r)) := by
  obtain ⟨d, hd⟩ : ∃ d, Try.f4.body = some d := ⟨_, rfl⟩
  refine pure_of mix Try.func4 hd ent4 ?_
  cases hd
  unfold F_setstells at h
  refine w_start (by dsimp only [abeginS, Try.f4, List.length_cons, List.length_nil, Nat.zero_add, Nat.reduceAdd, Nat.reduceSub, List.replicate, List.cons_append, List.nil_append]) (by dsimp only [St.empty]) ?_
  refine w_seq (w_region ?_)
  refine w_opm (a := .ptr 0 0) (σ'' := ⟨[(24, (Enc.cells (a : BS)))], [], [], 0, false⟩) rfl rfl rfl rfl (by dsimp only [aput, List.set]) rfl ?_
  refine w_opm (a := .ptr 1 0) (σ'' := ⟨[(24, (Enc.cells (a : BS))), (24, (Enc.cells (b : BS)))], [], [], 0, false⟩) rfl rfl rfl rfl (by dsimp only [aput, List.set]) rfl ?_
  refine w_op (a := .raw (.bool false)) rfl rfl rfl rfl (by dsimp only [aput, List.set]) ?_
  refine w_seq (w_region ?_)
  refine w_op (a := .agg (Enc.cells (a : BS))) rfl rfl rfl rfl (by dsimp only [aput, List.set]) ?_
  refine w_op (a := .agg (Enc.cells (b : BS))) rfl rfl rfl rfl (by dsimp only [aput, List.set]) ?_
  refine w_op (a := .raw (.int .u8 c)) rfl rfl rfl rfl (by dsimp only [aput, List.set]) ?_
  refine w_op (a := .raw (.int .u8 d)) rfl rfl rfl rfl (by dsimp only [aput, List.set]) ?_
  obtain ⟨g1, h⟩ := chk_e h
  refine w_callc (args' := [.agg (Enc.cells (a : BS)), .agg (Enc.cells (b : BS)), .raw (.int .u8 c), .raw (.int .u8 d)]) (r := .raw (.bool true)) (k_tells a b c d g1) rfl rfl (stripL_cons (strip_c (clo_agg (Enc.clo _))) (stripL_cons (strip_c (clo_agg (Enc.clo _))) (stripL_cons rfl (stripL_cons rfl rfl)))) (okTrimL_cons (okTrim_clo _ _ (clo_agg (Enc.clo _))) (okTrimL_cons (okTrim_clo _ _ (clo_agg (Enc.clo _))) (okTrimL_cons rfl (okTrimL_cons rfl rfl)))) (by dsimp only [aput, List.set]) ?_
  refine w_op (a := .raw (.bool true)) rfl rfl rfl rfl (by dsimp only [aput, List.set]) ?_
  refine w_met rfl rfl ?_
  refine w_callc (args' := []) (r := .raw (.bool true)) k_awake rfl rfl rfl rfl (by dsimp only [aput, List.set]) ?_
  refine w_op (a := .raw (.bool true)) rfl rfl rfl rfl (by dsimp only [aput, List.set]) ?_
  refine w_op (a := .raw (.bool true)) rfl rfl rfl rfl (by dsimp only [aput, List.set]) ?_
  exact end_pureF (fun (r : Bool) => (.raw (.bool r) : AV)) h (a := .raw (.bool true)) rfl rfl rfl
theorem setstells_pure (a b : BS) (c d : Int) (h : (0 ≤ c ∧ c < 256) ∧ 0 ≤ d ∧ d < 256) : Pure (ITP Try.prog) Try.prog 4 [.agg (Enc.cells a), .agg (Enc.cells b), .raw (.int .u8 c), .raw (.int .u8 d)] (.raw (.bool true)) := setstells_sh a b c d true (by
  unfold F_setstells
  exact chk_i h rfl)
end Go.Ab
set_option linter.unusedSimpArgs false
set_option linter.unusedVariables false
namespace Go.Proofs.Ytjmhbbbpjbgmjaa
open Go Go.Ab Go.ChangeShapes Go.WideShapes Go.ChangeAt Go.RowKit Go.Fwd

set_option maxRecDepth 100000 in
theorem setsTells_lifted (os : Os) (started : os.Started) (H : Type) (enc : TypeId × Value → H) :
    ReturnsInHanded {} Try.checked os 4 .any (Rows.setsTellsSpec.pre6 enc Try.prog Try.f4 Rows.setsTellsRow.domain false) (Rows.setsTellsSpec.post enc Try.prog Try.f4 false true false false) := by
  refine returnsInHanded_of_change (C := Try.checked) Ytjmhbbbpjbgmjaa.ownLess started (by kernel_rfl) Try.func4
    (ChangeSpec.witness6 (enc := enc) (C := Try.checked) false ⟨#[], #[.agg #[.int .u64 0, .int .u64 0, .int .u64 0, .int .u64 0], .agg #[.int .u64 0, .int .u64 0, .int .u64 0, .int .u64 0], .int .u8 0, .int .u8 0], []⟩ 8 (by kernel_rfl) (by kernel_rfl) (by kernel_rfl) (by kernel_rfl)) ?_
  intro W base args ds gs before hval0 hW _ _
  have hval : ∀ (j : Nat) t v, Try.f4.params[j]? = some t → args[j]? = some v → Value.okWide Try.prog W .any base t v := hval0
  have hW' := hW
  obtain ⟨p, q, hA0, hV, rfl, _, _⟩ := hW
  have hA : DataW.TrodAll enc Try.prog W 0 (fun _ => true) true Try.f4.params.toList args.toList ds p := hA0
  rw [show Try.f4.params.toList = [24, 24, 5, 5] from by kernel_rfl] at hA
  obtain ⟨v0, v1, v2, v3, d0, d1, d2, d3, p0, p1, p2, p3, rfl, rfl, rfl, h0, h1, h2, h3⟩ := trodAll_four hA
  obtain ⟨rfl, rfl⟩ := trodVars_none hV
  obtain ⟨A, rfl⟩ := open_set (hval 0 24 v0 (by kernel_rfl) rfl) h0
  obtain ⟨B, rfl⟩ := open_set (hval 1 24 v1 (by kernel_rfl) rfl) h1
  obtain ⟨x, hx, rfl⟩ := open_byte (hval 2 5 v2 (by kernel_rfl) rfl) h2
  obtain ⟨y, hy, rfl⟩ := open_byte (hval 3 5 v3 (by kernel_rfl) rfl) h3
  clear hA0 hval0
  simp only [List.append_nil] at hW'
  have hlt : ∀ y ∈ p0 ++ p1 ++ p2 ++ p3, y.block < W.heap.size := fun y hy => by simpa using hW'.lt y hy
  refine (frame_of (setstells_pure A B x y (by omega)) W (vs := [sv A, sv B, .int .u8 x, .int .u8 y]) ⟨_, _, rfl, set_rep A, _, _, rfl, set_rep B, _, _, rfl, by rw [Rep], _, _, rfl, by rw [Rep], rfl⟩).mono fun e W' ⟨he, hw⟩ => ?_
  subst he
  refine ⟨_, rfl, ?_⟩
  refine ⟨_, _, _, [] ++ [], p0 ++ p1 ++ p2 ++ p3, [], hW', ?_, ?_, rfl, hw.toBelow.frame _, fun h => by cases h⟩
  · exact trodAll_mk1 (shut_bool (show Try.prog.underlying 4 = some .bool from by kernel_rfl) true)
  · have t24 : ∀ {v : Value} {d : DataW H} {p : List MemPlace}, DataW.Trod enc Try.prog W 0 (fun _ => true) true 24 v d p → (∀ y ∈ p, y.block < W.heap.size) → DataW.Trod enc Try.prog W' 0 (fun b => decide (b < W.heap.size)) true 24 v d p := fun h hl => Below.trod Ytjmhbbbpjbgmjaa.laidOut (by kernel_rfl) (of_decide_eq_true (by kernel_rfl)) h hw.toBelow hl
    have t5 : ∀ {v : Value} {d : DataW H} {p : List MemPlace}, DataW.Trod enc Try.prog W 0 (fun _ => true) true 5 v d p → (∀ y ∈ p, y.block < W.heap.size) → DataW.Trod enc Try.prog W' 0 (fun b => decide (b < W.heap.size)) true 5 v d p := fun h hl => Below.trod Ytjmhbbbpjbgmjaa.laidOut (by kernel_rfl) (of_decide_eq_true (by kernel_rfl)) h hw.toBelow hl
    have := trodAll_mk4 (t24 h0 fun y hy => hlt y (by simp [hy])) (t24 h1 fun y hy => hlt y (by simp [hy])) (t5 h2 fun y hy => hlt y (by simp [hy])) (t5 h3 fun y hy => hlt y (by simp [hy]))
    rw [show p0 ++ p1 ++ p2 ++ p3 = p0 ++ (p1 ++ (p2 ++ p3)) by simp]
    exact this

theorem setsTells_holds : Rows.SetsTellsSaid :=
  OpenClaim.holds_of_wide 4 Try.f4 rfl rfl rfl rfl rfl rfl rfl ⟨rfl, rfl, rfl, rfl, rfl⟩ rfl rfl rfl rfl rfl (by kernel_rfl) Try.func4 (by kernel_rfl)
    (of_decide_eq_true (by kernel_rfl)) (by unfold Func.isWrapper; rw [if_neg (by decide +kernel)]; exact ⟨rfl, rfl⟩)
    (fun os started H enc _ => setsTells_lifted os started H enc)
end Go.Proofs.Ytjmhbbbpjbgmjaa
