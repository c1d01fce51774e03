/-
  TraceReads: the walk.
-/
import Derived.Test.YtcdmdnadilafhaaGreatDoorZyRx
set_option linter.unusedSimpArgs false
set_option linter.unusedVariables false
namespace Go.Ab
open Go Go.RowKit Go.Fwd Go.Proofs
def F_lequal (fuel : Nat) (a : Trc) (b : Trc) : Option Bool :=
  (bindE (F_theirs fuel a) (fun x1 => (bindE (F_rsame fuel x1 b) (fun x2 => (some x2)))))
theorem ent9 : Ent Tryz.prog 9 := enters_of Tryz.func9 (by kernel_rfl) rfl
set_option maxRecDepth 100000 in
set_option maxHeartbeats 4000000 in
theorem lequal_sh (fuel : Nat) (a : Trc) (b : Trc) (r : Bool) (h : F_lequal fuel a b = some r) : Pure (ITP Tryz.prog) Tryz.prog 9 [.agg (Enc.cells (a : Trc)), .agg (Enc.cells (b : Trc))] (.raw (.bool r)) := by
 obtain ⟨d, hd⟩ : ∃ d, Tryz.f9.body = some d := ⟨_, rfl⟩
 refine pure_of mix Tryz.func9 hd ent9 ?_
 cases hd
 unfold F_lequal at h
 refine w_start (by dsimp only [abeginS, Tryz.f9, List.length_cons, List.length_nil, Nat.zero_add, Nat.reduceAdd, Nat.reduceSub, List.replicate, List.cons_append, List.nil_append]) (by dsimp only [St.empty]) ?_
 refine w_seq (w_region ?_)
 refine w_opm (a := .ptr 0 0) (σ'' := ⟨[(27, (Enc.cells (a : Trc)))], [], [], 0, false⟩) rfl rfl rfl rfl (by dsimp only [aput, List.set]) rfl ?_
 refine w_opm (a := .ptr 1 0) (σ'' := ⟨[(27, (Enc.cells (a : Trc))), (34, (Enc.cells (b : Trc)))], [], [], 0, false⟩) rfl rfl rfl rfl (by dsimp only [aput, List.set]) rfl ?_
 refine w_op (a := .raw (.bool false)) rfl rfl rfl rfl (by dsimp only [aput, List.set]) ?_
 refine w_seq ?_
 refine w_draw (k0 := 0) (id := 1) 3 (by kernel_rfl) (by kernel_rfl) ?_
 refine h_op (a := .agg (Enc.cells (a : Trc))) rfl rfl rfl rfl (by dsimp only [aput, List.set]) ?_
 obtain ⟨x1, hx1, h⟩ := bindE_e h
 refine h_call (args' := [.agg (Enc.cells (a : Trc))]) (r := .agg (Enc.cells (x1 : Trc))) (theirs_sh fuel a x1 hx1) rfl rfl rfl (stripL_cons (strip_c (clo_agg (Enc.clo _))) rfl) (okTrimL_cons (okTrim_clo _ _ (clo_agg (Enc.clo _))) rfl) (by dsimp only [aput, List.set]) ?_
 refine h_op (a := .agg (Enc.cells (b : Trc))) rfl rfl rfl rfl (by dsimp only [aput, List.set]) ?_
 refine h_end ?_
 obtain ⟨x2, hx2, h⟩ := bindE_e h
 refine w_callc (args' := [.agg (Enc.cells (x1 : Trc)), .agg (Enc.cells (b : Trc))]) (r := .raw (.bool x2)) (rsame_sh fuel x1 b x2 hx2) rfl rfl (stripL_cons (strip_c (clo_agg (Enc.clo _))) (stripL_cons (strip_c (clo_agg (Enc.clo _))) rfl)) (okTrimL_cons (okTrim_clo _ _ (clo_agg (Enc.clo _))) (okTrimL_cons (okTrim_clo _ _ (clo_agg (Enc.clo _))) rfl)) (by dsimp only [aput, List.set]) ?_
 refine w_op (a := .raw (.bool x2)) rfl rfl rfl rfl (by dsimp only [aput, List.set]) ?_
 exact end_pureF (fun (r : Bool) => (.raw (.bool r) : AV)) h (a := .raw (.bool x2)) rfl rfl rfl
end Go.Ab

