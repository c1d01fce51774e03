/-
  trace: Copy.
-/
import Derived.Test.YtcdmdnadilafhaaGreatDoorZdZ
import Derived.Test.YtcdmdnadilafhaaGreatDoorZyEn2
set_option linter.unusedSimpArgs false
set_option linter.unusedVariables false
namespace Go.Ab
open Go Go.RowKit Go.Fwd Go.Proofs
theorem ent13 : Ent Tryz.prog 13 := enters_of Tryz.func13 (by kernel_rfl) rfl
set_option maxRecDepth 100000 in
set_option maxHeartbeats 4000000 in
theorem clone_pure (l : List En) (g : l.length * 40 ≤ 140737488355328) : Pure (ITP Tryz.prog) Tryz.prog 13 [.list l.length (Enc.cellsL l) .none] (.list l.length (Enc.cellsL l) .none) := by
  obtain ⟨d, hd⟩ : ∃ d, Tryz.f13.body = some d := ⟨_, rfl⟩
  refine pure_of mix Tryz.func13 hd ent13 ?_
  cases hd
  refine w_start (by dsimp only [abeginS, Tryz.f13, List.length_cons, List.length_nil, Nat.zero_add, Nat.reduceAdd, Nat.reduceSub, List.replicate, List.cons_append, List.nil_append]) (by dsimp only [St.empty]) ?_
  refine w_seq (w_region ?_)
  refine w_op (a := .list 0 [] .full) rfl rfl rfl rfl (by dsimp only [aput, List.set]) ?_
  refine w_seq ?_
  refine w_seq (w_region ?_)
  refine w_op (a := .list l.length (Enc.cellsL l) .none) rfl rfl rfl rfl (by dsimp only [aput, List.set]) ?_
  refine w_nil l.length false rfl rfl rfl ⟨_, _, _, _, _, rfl, .inl ⟨rfl, rfl⟩, rfl, .inl ⟨_, _, rfl⟩⟩ (by dsimp only [aput, List.set]) (by dsimp only [aput, List.set]) (fun h1 => ?_) ?_
  · obtain rfl := List.length_eq_zero_iff.1 h1
    refine w_true rfl ?_
    refine w_seq (w_region ?_)
    refine w_op (a := .list 0 [] .full) rfl rfl rfl rfl (by dsimp only [aput, List.set]) ?_
    exact end_pure rfl rfl rfl
  · refine w_false rfl ?_
    refine w_seq (w_region ?_)
    by_cases h0 : l = []
    · subst h0
      refine w_op (a := .list 0 [] .full) rfl rfl rfl rfl (by dsimp only [aput, List.set]) ?_
      refine w_op (a := .list 0 [] .none) rfl rfl rfl rfl (by dsimp only [aput, List.set]) ?_
      refine w_op (a := .list 0 [] .full) rfl rfl rfl rfl (by dsimp only [aput, List.set]) ?_
      refine w_op (a := .list 0 [] .full) rfl rfl rfl rfl (by dsimp only [aput, List.set]) ?_
      exact end_pure rfl rfl rfl
    · have hp := List.length_pos_iff.2 h0
      refine w_op (a := .list 0 [] .full) rfl rfl rfl rfl (by dsimp only [aput, List.set]) ?_
      refine w_op (a := .list l.length (Enc.cellsL l) .none) rfl rfl rfl rfl (by dsimp only [aput, List.set]) ?_
      refine w_opB rfl rfl rfl (opB_list rfl rfl rfl rfl rfl rfl rfl rfl rfl (aSrc_list ⟨rfl, Enc.lenL l, by decide⟩) ⟨by decide, rfl, hp⟩ ⟨rfl, by unfold maxLen; omega, by show (0 + l.length) * 40 ≤ _; omega⟩) (by dsimp only [aput, List.set]) rfl ?_
      refine w_op rfl rfl rfl rfl (by dsimp only [aput, List.set, aval, List.getElem?_cons_zero, List.getElem?_cons_succ, Option.getD]) ?_
      refine end_frz 1 rfl ?_
      exact frz_bsl (α := En) (t := 41) (l := l) (Nat.zero_add _).symm rfl
set_option maxRecDepth 100000 in
set_option maxHeartbeats 4000000 in
theorem clone_cons0 (l : List En) (h0 : 0 < l.length) (g : l.length * 40 ≤ 140737488355328) : Snd (ITP Tryz.prog) Tryz.prog 13 [.list l.length (Enc.cellsL l) .none] St.empty (.bsl 0 0 l.length 4 false) ⟨[(41, Enc.cellsL l)], [], [], 0, false⟩ := by
  obtain ⟨d, hd⟩ : ∃ d, Tryz.f13.body = some d := ⟨_, rfl⟩
  refine snd_of mix Tryz.func13 hd ent13 ?_
  cases hd
  refine w_start (by dsimp only [abeginS, Tryz.f13, List.length_cons, List.length_nil, Nat.zero_add, Nat.reduceAdd, Nat.reduceSub, List.replicate, List.cons_append, List.nil_append]) (by dsimp only [St.empty]) ?_
  refine w_seq (w_region ?_)
  refine w_op (a := .list 0 [] .full) rfl rfl rfl rfl (by dsimp only [aput, List.set]) ?_
  refine w_seq ?_
  refine w_seq (w_region ?_)
  refine w_op (a := .list l.length (Enc.cellsL l) .none) rfl rfl rfl rfl (by dsimp only [aput, List.set]) ?_
  refine w_nil l.length false rfl rfl rfl ⟨_, _, _, _, _, rfl, .inl ⟨rfl, rfl⟩, rfl, .inl ⟨_, _, rfl⟩⟩ (by dsimp only [aput, List.set]) (by dsimp only [aput, List.set]) (fun h1 => ?_) ?_
  · exact absurd h1 (by omega)
  · refine w_false rfl ?_
    refine w_seq (w_region ?_)
    refine w_op (a := .list 0 [] .full) rfl rfl rfl rfl (by dsimp only [aput, List.set]) ?_
    refine w_op (a := .list l.length (Enc.cellsL l) .none) rfl rfl rfl rfl (by dsimp only [aput, List.set]) ?_
    refine w_opB rfl rfl rfl (opB_list rfl rfl rfl rfl rfl rfl rfl rfl rfl (aSrc_list ⟨rfl, Enc.lenL l, by decide⟩) ⟨by decide, rfl, h0⟩ ⟨rfl, by unfold maxLen; omega, by show (0 + l.length) * 40 ≤ _; omega⟩) (by dsimp only [aput, List.set]) rfl ?_
    refine w_op rfl rfl rfl rfl (by dsimp only [aput, List.set, aval, List.getElem?_cons_zero, List.getElem?_cons_succ, Option.getD]) ?_
    refine end_keep (n := 0) (m := 0) [] [0] 0 rfl rfl ?_ ?_
    · show AV.bsl 0 0 (0 + l.length) 4 false = _; rw [Nat.zero_add]
    · simp [keepSt, keepBoxes, mapKL_clo _ _ _ (Enc.cloL l), St.empty]
theorem clone_cons (l : List En) (h0 : 0 < l.length) (g : l.length * 40 ≤ 140737488355328) (n : Nat) (σ : St) (hσ : σ.boxes.length = n) : Snd (ITP Tryz.prog) Tryz.prog 13 [.list l.length (Enc.cellsL l) .none] σ (.bsl n 0 l.length 4 false) { σ with boxes := σ.boxes ++ [(41, Enc.cellsL l)] } := by
  subst hσ
  have h := snd_lift (itp_mono _) (clone_cons0 l h0 g) (args := [.list l.length (Enc.cellsL l) .none]) (by rw [stripL, strip, Enc.stripL]; rfl) (by rw [okTrimL, okTrim, okTrimL_clo _ _ (Enc.cloL l)]; rfl) σ
  simpa [mapK, shz, shBoxes, mapKL_clo _ _ _ (Enc.cloL l)] using h
section
variable {P : Program} {ρ : Operand → AV} {σ : St} {o : Oper}
end
end Go.Ab
set_option linter.unusedSimpArgs false
set_option linter.unusedVariables false
namespace Go.Ab
open Go Go.RowKit Go.Fwd Go.Proofs
def F_copy (t : Trc) : Option Trc :=
  (chk (List.length t.l * 40 ≤ 140737488355328) (letE t.l (fun x1 => (some (Trc.mk x1 t.e)))))
theorem ent36 : Ent Tryz.prog 36 := enters_of Tryz.func36 (by kernel_rfl) rfl
set_option maxRecDepth 100000 in
set_option maxHeartbeats 4000000 in
theorem copy_sh (t : Trc) (r : Trc) (h : F_copy t = some r) : Pure (ITP Tryz.prog) Tryz.prog 36 [.agg (Enc.cells (t : Trc))] (.agg (Enc.cells (r : Trc))) := by
 obtain ⟨d, hd⟩ : ∃ d, Tryz.f36.body = some d := ⟨_, rfl⟩
 refine pure_of mix Tryz.func36 hd ent36 ?_
 cases hd
 unfold F_copy at h
 refine w_start (by dsimp only [abeginS, Tryz.f36, List.length_cons, List.length_nil, Nat.zero_add, Nat.reduceAdd, Nat.reduceSub, List.replicate, List.cons_append, List.nil_append]) (by dsimp only [St.empty]) ?_
 refine w_seq (w_region ?_)
 refine w_opm (a := .ptr 0 0) (σ'' := ⟨[(27, (Enc.cells (t : Trc)))], [], [], 0, false⟩) rfl rfl rfl rfl (by dsimp only [aput, List.set]) rfl ?_
 refine w_opm (a := .ptr 1 0) (σ'' := ⟨[(27, (Enc.cells (t : Trc))), (27, [.list 0 [] .full, .raw (.int .u8 0), .raw (.int .i64 0)])], [], [], 0, false⟩) rfl rfl rfl rfl (by dsimp only [aput, List.set]) rfl ?_
 refine w_seq ?_
 refine w_draw (k0 := 0) (id := 1) 5 (by kernel_rfl) (by kernel_rfl) ?_
 refine h_op (a := .ptr 0 0) rfl rfl rfl rfl (by dsimp only [aput, List.set]) ?_
 refine h_op (a := .list (List.length (t.l : List En)) (Enc.cellsL (t.l : List En)) .none) rfl rfl rfl rfl (by dsimp only [aput, List.set]) ?_
 obtain ⟨g1, h⟩ := chk_e h
 obtain ⟨x1, hx1, h⟩ := letE_e h
 refine h_call (args' := [.list (List.length (t.l : List En)) (Enc.cellsL (t.l : List En)) .none]) (r := .list (List.length (x1 : List En)) (Enc.cellsL (x1 : List En)) .none) (by rw [← hx1]; exact (clone_pure t.l g1)) rfl rfl rfl (stripL_cons (strip_l (Enc.cloL _)) rfl) (okTrimL_cons (okTrim_l (Enc.cloL _)) rfl) (by dsimp only [aput, List.set]) ?_
 refine h_op (a := .ptr 0 1) rfl rfl rfl rfl (by dsimp only [aput, List.set]) ?_
 refine h_op (a := .agg (Enc.cells (t.e : Ed))) rfl rfl rfl rfl (by dsimp only [aput, List.set]) ?_
 refine h_end ?_
 refine w_qs (.agg (Enc.cells ((Trc.mk x1 t.e) : Trc))) (a0 := (trcR (Trc.mk x1 t.e) .none)) rfl rfl rfl (by kernel_rfl) (strip_trcR _ _) (by dsimp only [aput, List.set]) ?_
 refine w_opm (σ'' := ⟨[(27, (Enc.cells (t : Trc))), (27, (Enc.cells ((Trc.mk x1 t.e) : Trc)))], [], [], 0, false⟩) rfl rfl rfl (op_storeW (n := 3) rfl rfl rfl rfl rfl rfl rfl rfl (by decide)) (by dsimp only [aput, List.set]) rfl ?_
 exact end_pureF (fun (r : Trc) => (.agg (Enc.cells (r : Trc)) : AV)) h (a := .agg (Enc.cells ((Trc.mk x1 t.e) : Trc))) rfl (okTrim_clo _ _ (clo_agg (Enc.clo _))) (strip_c (clo_agg (Enc.clo _)))
def F_copys (t : Trc) : Option Unit :=
  (chk (List.length t.l * 40 ≤ 140737488355328) (some ()))
theorem ent36S : Ent Tryz.prog 36 := enters_of Tryz.func36 (by kernel_rfl) rfl
set_option maxRecDepth 100000 in
set_option maxHeartbeats 4000000 in
theorem copys_s0 (t : Trc) (h0 : 0 < t.l.length) (h : F_copys t = some ()) : Snd (ITP Tryz.prog) Tryz.prog 36 [.agg (Enc.cells (t : Trc))] St.empty (.agg [.bsl 0 0 (List.length t.l) 4 false, .raw (.int .u8 t.e.k), .raw (.int .i64 t.e.c)]) ⟨[(41, (Enc.cellsL (t.l : List En)))], [], [], 0, false⟩ := by
 obtain ⟨d, hd⟩ : ∃ d, Tryz.f36.body = some d := ⟨_, rfl⟩
 refine snd_of mix Tryz.func36 hd ent36S ?_
 cases hd
 unfold F_copys at h
 refine w_start (by dsimp only [abeginS, Tryz.f36, List.length_cons, List.length_nil, Nat.zero_add, Nat.reduceAdd, Nat.reduceSub, List.replicate, List.cons_append, List.nil_append]) (by dsimp only [St.empty]) ?_
 refine w_seq (w_region ?_)
 refine w_opm (a := .ptr 0 0) (σ'' := ⟨[(27, (Enc.cells (t : Trc)))], [], [], 0, false⟩) rfl rfl rfl rfl (by dsimp only [aput, List.set]) rfl ?_
 refine w_opm (a := .ptr 1 0) (σ'' := ⟨[(27, (Enc.cells (t : Trc))), (27, [.list 0 [] .full, .raw (.int .u8 0), .raw (.int .i64 0)])], [], [], 0, false⟩) rfl rfl rfl rfl (by dsimp only [aput, List.set]) rfl ?_
 obtain ⟨g1, h⟩ := chk_e h
 refine w_seqAny (id := 1) [.agg (Enc.cells (t : Trc)), .ptr 0 0, .ptr 1 0, .ptr 0 0, .list (List.length (t.l : List En)) (Enc.cellsL (t.l : List En)) .none, .bsl 2 0 (List.length t.l) 4 false, .ptr 0 1, .agg (Enc.cells (t.e : Ed)), .agg [.bsl 2 0 (List.length t.l) 4 false, .raw (.int .u8 t.e.k), .raw (.int .i64 t.e.c)]] ⟨[(27, (Enc.cells (t : Trc))), (27, [.bsl 2 0 (List.length t.l) 4 false, .raw (.int .u8 t.e.k), .raw (.int .i64 t.e.c)]), (41, (Enc.cellsL (t.l : List En)))], [], [], 0, false⟩ ?_ ?_
 ·
  refine aany_intro (fun ops hops FIN hFIN S0 hS0 => ?_)
  have n13 : aany (ITP Tryz.prog) Tryz.prog none ops FIN 0 ⟨[true, true, true, true, true, true, true]⟩ (setAll S0 [(3, .ptr 0 0), (4, .list (List.length (t.l : List En)) (Enc.cellsL (t.l : List En)) .none), (5, .bsl 2 0 (List.length t.l) 4 false), (6, .ptr 0 1), (7, .agg (Enc.cells (t.e : Ed))), (8, .agg [.bsl 2 0 (List.length t.l) 4 false, .raw (.int .u8 t.e.k), .raw (.int .i64 t.e.c)])]) ⟨[(27, (Enc.cells (t : Trc))), (27, [.bsl 2 0 (List.length t.l) 4 false, .raw (.int .u8 t.e.k), .raw (.int .i64 t.e.c)]), (41, (Enc.cellsL (t.l : List En)))], [], [], 0, false⟩ := by
   rw [hS0]
   dsimp only [setAll, List.foldl, List.set]
   exact aany_0 hops (by kernel_rfl) (hFIN _ _ (Wk.refl _ _ _))
  have n12 : aany (ITP Tryz.prog) Tryz.prog none ops FIN 1 ⟨[true, true, true, true, true, true, false]⟩ (setAll S0 [(3, .ptr 0 0), (4, .list (List.length (t.l : List En)) (Enc.cellsL (t.l : List En)) .none), (5, .bsl 2 0 (List.length t.l) 4 false), (6, .ptr 0 1), (7, .agg (Enc.cells (t.e : Ed))), (8, .agg [.bsl 2 0 (List.length t.l) 4 false, .raw (.int .u8 t.e.k), .raw (.int .i64 t.e.c)])]) ⟨[(27, (Enc.cells (t : Trc))), (27, [.list 0 [] .full, .raw (.int .u8 0), .raw (.int .i64 0)]), (41, (Enc.cellsL (t.l : List En)))], [], [], 0, false⟩ := by
   rw [hS0]
   dsimp only [setAll, List.foldl, List.set]
   refine aany_n hops [6] (by kernel_rfl) (by decide) (all_cons (aopAt_s hops rfl ?_) all_nil)
   ·
    refine w_opm (σ'' := ⟨[(27, (Enc.cells (t : Trc))), (27, [.bsl 2 0 (List.length t.l) 4 false, .raw (.int .u8 t.e.k), .raw (.int .i64 t.e.c)]), (41, (Enc.cellsL (t.l : List En)))], [], [], 0, false⟩) rfl rfl rfl (op_storeW (n := 3) rfl rfl rfl rfl rfl rfl rfl rfl (by decide)) (by dsimp only [aput, List.set]) rfl ?_
    have hn := n13
    rw [hS0] at hn
    exact hn
  have n11 : aany (ITP Tryz.prog) Tryz.prog none ops FIN 2 ⟨[true, true, true, true, true, false, false]⟩ (setAll S0 [(3, .ptr 0 0), (4, .list (List.length (t.l : List En)) (Enc.cellsL (t.l : List En)) .none), (5, .bsl 2 0 (List.length t.l) 4 false), (6, .ptr 0 1), (7, .agg (Enc.cells (t.e : Ed)))]) ⟨[(27, (Enc.cells (t : Trc))), (27, [.list 0 [] .full, .raw (.int .u8 0), .raw (.int .i64 0)]), (41, (Enc.cellsL (t.l : List En)))], [], [], 0, false⟩ := by
   rw [hS0]
   dsimp only [setAll, List.foldl, List.set]
   refine aany_n hops [5] (by kernel_rfl) (by decide) (all_cons (aopAt_s hops rfl ?_) all_nil)
   ·
    refine w_op (a := .agg [.bsl 2 0 (List.length t.l) 4 false, .raw (.int .u8 t.e.k), .raw (.int .i64 t.e.c)]) rfl rfl rfl rfl (by dsimp only [aput, List.set]) ?_
    have hn := n12
    rw [hS0] at hn
    exact hn
  have n10 : aany (ITP Tryz.prog) Tryz.prog none ops FIN 3 ⟨[true, true, false, true, true, false, false]⟩ (setAll S0 [(3, .ptr 0 0), (4, .list (List.length (t.l : List En)) (Enc.cellsL (t.l : List En)) .none), (6, .ptr 0 1), (7, .agg (Enc.cells (t.e : Ed)))]) ⟨[(27, (Enc.cells (t : Trc))), (27, [.list 0 [] .full, .raw (.int .u8 0), .raw (.int .i64 0)])], [], [], 0, false⟩ := by
   rw [hS0]
   dsimp only [setAll, List.foldl, List.set]
   refine aany_n hops [2] (by kernel_rfl) (by decide) (all_cons (aopAt_s hops rfl ?_) all_nil)
   ·
    refine w_snd (r := .bsl 2 0 (List.length t.l) 4 false) (σ' := ⟨[(27, (Enc.cells (t : Trc))), (27, [.list 0 [] .full, .raw (.int .u8 0), .raw (.int .i64 0)]), (41, (Enc.cellsL (t.l : List En)))], [], [], 0, false⟩) (clone_cons t.l h0 g1 2 _ rfl) rfl rfl ⟨rfl, rfl⟩ (by dsimp only [aput, List.set]) ?_
    have hn := n11
    rw [hS0] at hn
    exact hn
  have n9 : aany (ITP Tryz.prog) Tryz.prog none ops FIN 3 ⟨[true, true, true, true, false, false, false]⟩ (setAll S0 [(3, .ptr 0 0), (4, .list (List.length (t.l : List En)) (Enc.cellsL (t.l : List En)) .none), (5, .bsl 2 0 (List.length t.l) 4 false), (6, .ptr 0 1)]) ⟨[(27, (Enc.cells (t : Trc))), (27, [.list 0 [] .full, .raw (.int .u8 0), .raw (.int .i64 0)]), (41, (Enc.cellsL (t.l : List En)))], [], [], 0, false⟩ := by
   rw [hS0]
   dsimp only [setAll, List.foldl, List.set]
   refine aany_n hops [4] (by kernel_rfl) (by decide) (all_cons (aopAt_s hops rfl ?_) all_nil)
   ·
    refine w_op (a := .agg (Enc.cells (t.e : Ed))) rfl rfl rfl rfl (by dsimp only [aput, List.set]) ?_
    have hn := n11
    rw [hS0] at hn
    exact hn
  have n8 : aany (ITP Tryz.prog) Tryz.prog none ops FIN 4 ⟨[true, false, false, true, true, false, false]⟩ (setAll S0 [(3, .ptr 0 0), (6, .ptr 0 1), (7, .agg (Enc.cells (t.e : Ed)))]) ⟨[(27, (Enc.cells (t : Trc))), (27, [.list 0 [] .full, .raw (.int .u8 0), .raw (.int .i64 0)])], [], [], 0, false⟩ := by
   rw [hS0]
   dsimp only [setAll, List.foldl, List.set]
   refine aany_n hops [1] (by kernel_rfl) (by decide) (all_cons (aopAt_s hops rfl ?_) all_nil)
   ·
    refine w_op (a := .list (List.length (t.l : List En)) (Enc.cellsL (t.l : List En)) .none) rfl rfl rfl rfl (by dsimp only [aput, List.set]) ?_
    have hn := n10
    rw [hS0] at hn
    exact hn
  have n7 : aany (ITP Tryz.prog) Tryz.prog none ops FIN 4 ⟨[true, true, false, true, false, false, false]⟩ (setAll S0 [(3, .ptr 0 0), (4, .list (List.length (t.l : List En)) (Enc.cellsL (t.l : List En)) .none), (6, .ptr 0 1)]) ⟨[(27, (Enc.cells (t : Trc))), (27, [.list 0 [] .full, .raw (.int .u8 0), .raw (.int .i64 0)])], [], [], 0, false⟩ := by
   rw [hS0]
   dsimp only [setAll, List.foldl, List.set]
   refine aany_n hops [2, 4] (by kernel_rfl) (by decide) (all_cons (aopAt_s hops rfl ?_) (all_cons (aopAt_s hops rfl ?_) all_nil))
   ·
    refine w_snd (r := .bsl 2 0 (List.length t.l) 4 false) (σ' := ⟨[(27, (Enc.cells (t : Trc))), (27, [.list 0 [] .full, .raw (.int .u8 0), .raw (.int .i64 0)]), (41, (Enc.cellsL (t.l : List En)))], [], [], 0, false⟩) (clone_cons t.l h0 g1 2 _ rfl) rfl rfl ⟨rfl, rfl⟩ (by dsimp only [aput, List.set]) ?_
    have hn := n9
    rw [hS0] at hn
    exact hn
   ·
    refine w_op (a := .agg (Enc.cells (t.e : Ed))) rfl rfl rfl rfl (by dsimp only [aput, List.set]) ?_
    have hn := n10
    rw [hS0] at hn
    exact hn
  have n6 : aany (ITP Tryz.prog) Tryz.prog none ops FIN 4 ⟨[true, true, true, false, false, false, false]⟩ (setAll S0 [(3, .ptr 0 0), (4, .list (List.length (t.l : List En)) (Enc.cellsL (t.l : List En)) .none), (5, .bsl 2 0 (List.length t.l) 4 false)]) ⟨[(27, (Enc.cells (t : Trc))), (27, [.list 0 [] .full, .raw (.int .u8 0), .raw (.int .i64 0)]), (41, (Enc.cellsL (t.l : List En)))], [], [], 0, false⟩ := by
   rw [hS0]
   dsimp only [setAll, List.foldl, List.set]
   refine aany_n hops [3] (by kernel_rfl) (by decide) (all_cons (aopAt_s hops rfl ?_) all_nil)
   ·
    refine w_op (a := .ptr 0 1) rfl rfl rfl rfl (by dsimp only [aput, List.set]) ?_
    have hn := n9
    rw [hS0] at hn
    exact hn
  have n5 : aany (ITP Tryz.prog) Tryz.prog none ops FIN 5 ⟨[false, false, false, true, true, false, false]⟩ (setAll S0 [(6, .ptr 0 1), (7, .agg (Enc.cells (t.e : Ed)))]) ⟨[(27, (Enc.cells (t : Trc))), (27, [.list 0 [] .full, .raw (.int .u8 0), .raw (.int .i64 0)])], [], [], 0, false⟩ := by
   rw [hS0]
   dsimp only [setAll, List.foldl, List.set]
   refine aany_n hops [0] (by kernel_rfl) (by decide) (all_cons (aopAt_s hops rfl ?_) all_nil)
   ·
    refine w_op (a := .ptr 0 0) rfl rfl rfl rfl (by dsimp only [aput, List.set]) ?_
    have hn := n8
    rw [hS0] at hn
    exact hn
  have n4 : aany (ITP Tryz.prog) Tryz.prog none ops FIN 5 ⟨[true, false, false, true, false, false, false]⟩ (setAll S0 [(3, .ptr 0 0), (6, .ptr 0 1)]) ⟨[(27, (Enc.cells (t : Trc))), (27, [.list 0 [] .full, .raw (.int .u8 0), .raw (.int .i64 0)])], [], [], 0, false⟩ := by
   rw [hS0]
   dsimp only [setAll, List.foldl, List.set]
   refine aany_n hops [1, 4] (by kernel_rfl) (by decide) (all_cons (aopAt_s hops rfl ?_) (all_cons (aopAt_s hops rfl ?_) all_nil))
   ·
    refine w_op (a := .list (List.length (t.l : List En)) (Enc.cellsL (t.l : List En)) .none) rfl rfl rfl rfl (by dsimp only [aput, List.set]) ?_
    have hn := n7
    rw [hS0] at hn
    exact hn
   ·
    refine w_op (a := .agg (Enc.cells (t.e : Ed))) rfl rfl rfl rfl (by dsimp only [aput, List.set]) ?_
    have hn := n8
    rw [hS0] at hn
    exact hn
  have n3 : aany (ITP Tryz.prog) Tryz.prog none ops FIN 5 ⟨[true, true, false, false, false, false, false]⟩ (setAll S0 [(3, .ptr 0 0), (4, .list (List.length (t.l : List En)) (Enc.cellsL (t.l : List En)) .none)]) ⟨[(27, (Enc.cells (t : Trc))), (27, [.list 0 [] .full, .raw (.int .u8 0), .raw (.int .i64 0)])], [], [], 0, false⟩ := by
   rw [hS0]
   dsimp only [setAll, List.foldl, List.set]
   refine aany_n hops [2, 3] (by kernel_rfl) (by decide) (all_cons (aopAt_s hops rfl ?_) (all_cons (aopAt_s hops rfl ?_) all_nil))
   ·
    refine w_snd (r := .bsl 2 0 (List.length t.l) 4 false) (σ' := ⟨[(27, (Enc.cells (t : Trc))), (27, [.list 0 [] .full, .raw (.int .u8 0), .raw (.int .i64 0)]), (41, (Enc.cellsL (t.l : List En)))], [], [], 0, false⟩) (clone_cons t.l h0 g1 2 _ rfl) rfl rfl ⟨rfl, rfl⟩ (by dsimp only [aput, List.set]) ?_
    have hn := n6
    rw [hS0] at hn
    exact hn
   ·
    refine w_op (a := .ptr 0 1) rfl rfl rfl rfl (by dsimp only [aput, List.set]) ?_
    have hn := n7
    rw [hS0] at hn
    exact hn
  have n2 : aany (ITP Tryz.prog) Tryz.prog none ops FIN 6 ⟨[false, false, false, true, false, false, false]⟩ (setAll S0 [(6, .ptr 0 1)]) ⟨[(27, (Enc.cells (t : Trc))), (27, [.list 0 [] .full, .raw (.int .u8 0), .raw (.int .i64 0)])], [], [], 0, false⟩ := by
   rw [hS0]
   dsimp only [setAll, List.foldl, List.set]
   refine aany_n hops [0, 4] (by kernel_rfl) (by decide) (all_cons (aopAt_s hops rfl ?_) (all_cons (aopAt_s hops rfl ?_) all_nil))
   ·
    refine w_op (a := .ptr 0 0) rfl rfl rfl rfl (by dsimp only [aput, List.set]) ?_
    have hn := n4
    rw [hS0] at hn
    exact hn
   ·
    refine w_op (a := .agg (Enc.cells (t.e : Ed))) rfl rfl rfl rfl (by dsimp only [aput, List.set]) ?_
    have hn := n5
    rw [hS0] at hn
    exact hn
  have n1 : aany (ITP Tryz.prog) Tryz.prog none ops FIN 6 ⟨[true, false, false, false, false, false, false]⟩ (setAll S0 [(3, .ptr 0 0)]) ⟨[(27, (Enc.cells (t : Trc))), (27, [.list 0 [] .full, .raw (.int .u8 0), .raw (.int .i64 0)])], [], [], 0, false⟩ := by
   rw [hS0]
   dsimp only [setAll, List.foldl, List.set]
   refine aany_n hops [1, 3] (by kernel_rfl) (by decide) (all_cons (aopAt_s hops rfl ?_) (all_cons (aopAt_s hops rfl ?_) all_nil))
   ·
    refine w_op (a := .list (List.length (t.l : List En)) (Enc.cellsL (t.l : List En)) .none) rfl rfl rfl rfl (by dsimp only [aput, List.set]) ?_
    have hn := n3
    rw [hS0] at hn
    exact hn
   ·
    refine w_op (a := .ptr 0 1) rfl rfl rfl rfl (by dsimp only [aput, List.set]) ?_
    have hn := n4
    rw [hS0] at hn
    exact hn
  have n0 : aany (ITP Tryz.prog) Tryz.prog none ops FIN 7 ⟨[false, false, false, false, false, false, false]⟩ (setAll S0 []) ⟨[(27, (Enc.cells (t : Trc))), (27, [.list 0 [] .full, .raw (.int .u8 0), .raw (.int .i64 0)])], [], [], 0, false⟩ := by
   rw [hS0]
   dsimp only [setAll, List.foldl, List.set]
   refine aany_n hops [0, 3] (by kernel_rfl) (by decide) (all_cons (aopAt_s hops rfl ?_) (all_cons (aopAt_s hops rfl ?_) all_nil))
   ·
    refine w_op (a := .ptr 0 0) rfl rfl rfl rfl (by dsimp only [aput, List.set]) ?_
    have hn := n1
    rw [hS0] at hn
    exact hn
   ·
    refine w_op (a := .ptr 0 1) rfl rfl rfl rfl (by dsimp only [aput, List.set]) ?_
    have hn := n2
    rw [hS0] at hn
    exact hn
  exact n0
 ·
  exact end_keep (n := 0) (m := 0) [] [2] 1 rfl rfl (mapK_agg' (mapKL_cons' rfl (mapKL_cons' (mapK_clo _ _ _ rfl) (mapKL_cons' (mapK_clo _ _ _ rfl) mapKL_nil')))) (keep_of (keep_cons rfl (mapKL_clo _ _ _ (Enc.cloL _)) keep_nil) rfl)
end Go.Ab

