/-
  TraceTells: the walk.
-/
import Derived.Test.YtcdmdnadilafhaaGreatDoorZyTw
import Derived.Test.YtcdmdnadilafhaaGreatDoorZyRy
import Derived.Test.YtcdmdnadilafhaaGreatDoorZyW5
import Derived.Test.YtcdmdnadilafhaaGreatDoorZyPc
set_option linter.unusedSimpArgs false
set_option linter.unusedVariables false
namespace Go.Ab
open Go Go.RowKit Go.Fwd Go.Proofs
theorem F_copys_eq (t : Trc) (g : List.length t.l * 40 ≤ 140737488355328) : F_copys t = some () := chk_i g rfl
theorem copy_cons (t : Trc) (h0 : 0 < t.l.length) (g : List.length t.l * 40 ≤ 140737488355328) (n : Nat) (σ : St) (hσ : σ.boxes.length = n) : Snd (ITP Tryz.prog) Tryz.prog 36 [.agg (Enc.cells t)] σ (.agg [.bsl n 0 (List.length t.l) 4 false, .raw (.int .u8 t.e.k), .raw (.int .i64 t.e.c)]) { σ with boxes := σ.boxes ++ [(41, Enc.cellsL t.l)] } := by
  subst hσ
  have h := snd_lift (itp_mono _) (copys_s0 t h0 (F_copys_eq t g)) (args := [.agg (Enc.cells t)]) (by rw [stripL, strip_c (clo_agg (Enc.clo t))]; rfl) (by rw [okTrimL, okTrim_clo _ _ (clo_agg (Enc.clo t))]; rfl) σ
  simpa [mapK, mapKL, shz, shBoxes, mapKL_clo _ _ _ (Enc.cloL t.l)] using h
def F_tells (fuel : Nat) (t : Trc) : Option Bool :=
  (chk (List.length t.l * 40 ≤ 140737488355328) (letE t.l (fun x1 => (bindE (F_theirs fuel t) (fun x2 => (bindE (F_check fuel (Trc.mk x1 t.e)) (fun x3 => (bindE (F_rcheck fuel x2) (fun x4 => (bindE (F_write fuel (Trc.mk x1 t.e)) (fun x5 => (bif ((List.length ((Trc.mk x1 t.e).l) : Int) == 0) then (bindE (F_copy (Trc.mk x1 t.e)) (fun x6 => (bif (x3.1 != x4.1) then (some false) else (bif (x3.2 != x4.2) then (some false) else (bif (x5.2 != x4.2) then (some false) else (bindE (F_lequal fuel x6 x2) (fun x7 => (bif (!x7) then (some false) else (bindE (F_sent fuel (Trc.mk x1 t.e)) (fun x8 => (bindE (F_rsent fuel x2) (fun x9 => (bif (!(x8 == x9)) then (some false) else (cutE (τ := Unit) (loopE (β := Int) (fun s1 => (bif (decide (s1 < (List.length x6.l : Int))) then (chk (0 ≤ s1 ∧ s1 < (List.length x6.l : Int)) (letE (ix x6.l s1) (fun x10 => none))) else (some (Sum.inr (Sum.inl ()))))) fuel (0)) (fun j1 => (bindE (F_lequal fuel (Trc.mk x1 t.e) x2) (fun x11 => (bif (!x11) then (some false) else (cutE (τ := Int × Int × Int × (List UInt8)) (bif (x4.2 == 0) then (bindE (F_rsum fuel x2 2) (fun x12 => (bindE (F_rsum fuel x2 3) (fun x13 => (bindE (F_rat fuel x2.l) (fun x14 => (bindE (F_rwrite fuel x2) (fun x15 => (some (Sum.inl (x12, x13, x14, x15))))))))))) else (some (Sum.inl (0, 0, 0, ([] : List UInt8))))) (fun j2 => (bindE (F_taken fuel (Trc.mk x1 t.e)) (fun x16 => (bif (x16 == j2.1) then (bindE (F_lost fuel (Trc.mk x1 t.e)) (fun x17 => (bif (x17 == j2.2.1) then (bindE (F_at fuel (Trc.mk x1 t.e)) (fun x18 => (bif (x18 == j2.2.2.1) then (some (x5.1 == j2.2.2.2)) else (some false)))) else (some false)))) else (some false)))))))))))))))))))))))) else (chk (List.length (Trc.mk x1 t.e).l * 40 ≤ 140737488355328) (bif (x3.1 != x4.1) then (some false) else (bif (x3.2 != x4.2) then (some false) else (bif (x5.2 != x4.2) then (some false) else (chk (List.length ((Trc.mk x1 t.e).l) = (List.length (Trc.mk x1 t.e).l)) (bindE (F_lequal fuel (Trc.mk ((Trc.mk x1 t.e).l) (Ed.mk ((Trc.mk x1 t.e).e.k) ((Trc.mk x1 t.e).e.c))) x2) (fun x19 => (bif (!x19) then (some false) else (bindE (F_sent fuel (Trc.mk x1 t.e)) (fun x20 => (bindE (F_rsent fuel x2) (fun x21 => (bif (!(x20 == x21)) then (some false) else (cutE (τ := (List En)) (loopE (β := Int × (List En)) (fun s2 => (bif (decide (s2.1 < (((List.length (Trc.mk x1 t.e).l) : Nat) : Int))) then (chk (0 ≤ s2.1 ∧ s2.1 < (((List.length (Trc.mk x1 t.e).l) : Nat) : Int)) (chk (0 ≤ s2.1 ∧ s2.1 < (List.length s2.2 : Int)) (letE (ix s2.2 s2.1) (fun x22 => (chk (-9223372036854775808 ≤ (s2.1 + 1) ∧ (s2.1 + 1) < 9223372036854775808) (some (Sum.inl ((s2.1 + 1), (List.set s2.2 (Int.toNat s2.1) (En.mk 9 x22.fr x22.to x22.b)))))))))) else (some (Sum.inr (Sum.inl (s2.2)))))) fuel (0, (Trc.mk x1 t.e).l)) (fun j3 => (bindE (F_lequal fuel (Trc.mk x1 t.e) x2) (fun x23 => (bif (!x23) then (some false) else (cutE (τ := Int × Int × Int × (List UInt8)) (bif (x4.2 == 0) then (bindE (F_rsum fuel x2 2) (fun x24 => (bindE (F_rsum fuel x2 3) (fun x25 => (bindE (F_rat fuel x2.l) (fun x26 => (bindE (F_rwrite fuel x2) (fun x27 => (some (Sum.inl (x24, x25, x26, x27))))))))))) else (some (Sum.inl (0, 0, 0, ([] : List UInt8))))) (fun j4 => (bindE (F_taken fuel (Trc.mk x1 t.e)) (fun x28 => (bif (x28 == j4.1) then (bindE (F_lost fuel (Trc.mk x1 t.e)) (fun x29 => (bif (x29 == j4.2.1) then (bindE (F_at fuel (Trc.mk x1 t.e)) (fun x30 => (bif (x30 == j4.2.2.1) then (some (x5.1 == j4.2.2.2)) else (some false)))) else (some false)))) else (some false))))))))))))))))))))))))))))))))))))
theorem ent11 : Ent Tryz.prog 11 := enters_of Tryz.func11 (by kernel_rfl) rfl
set_option maxRecDepth 100000 in
set_option maxHeartbeats 64000000 in
theorem tells_sh (fuel : Nat) (t : Trc) (r : Bool) (h : F_tells fuel t = some r) : Pure (ITP Tryz.prog) Tryz.prog 11 [.agg (Enc.cells (t : Trc))] (.raw (.bool r)) := by
 obtain ⟨d, hd⟩ : ∃ d, Tryz.f11.body = some d := ⟨_, rfl⟩
 refine pure_of mix Tryz.func11 hd ent11 ?_
 cases hd
 unfold F_tells at h
 refine w_start (by dsimp only [abeginS, Tryz.f11, List.length_cons, List.length_nil, Nat.zero_add, Nat.reduceAdd, Nat.reduceSub, List.replicate, List.cons_append, List.nil_append]) (by dsimp only [St.empty]) ?_
 refine w_seq (w_region ?_)
 refine w_opm (a := .ptr 0 0) (σ'' := ⟨[(27, (Enc.cells (t : Trc)))], [], [], 0, false⟩) rfl rfl rfl rfl (by dsimp only [aput, List.set]) rfl ?_
 refine w_op (a := .raw (.bool false)) rfl rfl rfl rfl (by dsimp only [aput, List.set]) ?_
 refine w_seq ?_
 refine w_drawB (k0 := 0) (id := 1) 7 (by kernel_rfl) (by kernel_rfl) ?_
 refine hB_op (a := .ptr 0 0) rfl rfl rfl rfl rfl (by dsimp only [aput, List.set]) ?_
 refine hB_op (a := .list (List.length (t.l : List En)) (Enc.cellsL (t.l : List En)) .none) rfl rfl rfl rfl rfl (by dsimp only [aput, List.set]) ?_
 obtain ⟨g1, h⟩ := chk_e h
 obtain ⟨x1, hx1, h⟩ := letE_e h
 refine hB_call (args' := [.list (List.length (t.l : List En)) (Enc.cellsL (t.l : List En)) .none]) (r := .list (List.length (x1 : List En)) (Enc.cellsL (x1 : List En)) .none) (by rw [← hx1]; exact (clone_pure t.l g1)) rfl rfl rfl rfl (stripL_cons (strip_l (Enc.cloL _)) rfl) (okTrimL_cons (okTrim_l (Enc.cloL _)) rfl) (by dsimp only [aput, List.set]) ?_
 refine hB_op (a := .ptr 0 1) rfl rfl rfl rfl rfl (by dsimp only [aput, List.set]) ?_
 refine hB_op (a := .agg (Enc.cells (t.e : Ed))) rfl rfl rfl rfl rfl (by dsimp only [aput, List.set]) ?_
 refine hB_opS (a := .agg (Enc.cells ((Trc.mk x1 t.e) : Trc))) (a0 := (trcR (Trc.mk x1 t.e) .none)) rfl rfl rfl rfl (by kernel_rfl) (strip_trcR _ _) (by dsimp only [aput, List.set]) ?_
 refine hB_new _ rfl rfl rfl rfl rfl rfl (by dsimp only [List.set]) ?_
 refine hB_doneF (n := 1) rfl (show _ = (⟨[(27, (Enc.cells (t : Trc))), (27, [.list 0 [] .full, .raw (.int .u8 0), .raw (.int .i64 0)])], [], [], 0, false⟩ : St) from rfl) (by dsimp only [List.nil_append, List.cons_append, pendS, List.set, Nat.reduceAdd]) ?_
 refine w_opm (σ'' := ⟨[(27, (Enc.cells (t : Trc))), (27, (Enc.cells ((Trc.mk x1 t.e) : Trc)))], [], [], 0, false⟩) rfl rfl rfl (op_storeW (n := 3) rfl rfl rfl rfl rfl rfl rfl rfl (by decide)) (by dsimp only [aput, List.set]) rfl ?_
 refine w_seq (w_region ?_)
 refine w_op (a := .agg (Enc.cells (t : Trc))) rfl rfl rfl rfl (by dsimp only [aput, List.set]) ?_
 obtain ⟨x2, hx2, h⟩ := bindE_e h
 refine w_callc (args' := [.agg (Enc.cells (t : Trc))]) (r := .agg (Enc.cells (x2 : Trc))) (theirs_sh fuel t x2 hx2) rfl rfl (stripL_cons (strip_c (clo_agg (Enc.clo _))) rfl) (okTrimL_cons (okTrim_clo _ _ (clo_agg (Enc.clo _))) rfl) (by dsimp only [aput, List.set]) ?_
 refine w_opm (a := .ptr 2 0) (σ'' := ⟨[(27, (Enc.cells (t : Trc))), (27, (Enc.cells ((Trc.mk x1 t.e) : Trc))), (34, [.list 0 [] .full, .raw (.int .u8 0), .raw (.int .i64 0)])], [], [], 0, false⟩) rfl rfl rfl rfl (by dsimp only [aput, List.set]) rfl ?_
 refine w_opm (σ'' := ⟨[(27, (Enc.cells (t : Trc))), (27, (Enc.cells ((Trc.mk x1 t.e) : Trc))), (34, (Enc.cells (x2 : Trc)))], [], [], 0, false⟩) rfl rfl rfl (op_storeW (n := 3) rfl rfl rfl rfl rfl rfl rfl rfl (by decide)) (by dsimp only [aput, List.set]) rfl ?_
 refine w_seq (w_region ?_)
 refine w_op (a := .agg (Enc.cells ((Trc.mk x1 t.e) : Trc))) rfl rfl rfl rfl (by dsimp only [aput, List.set]) ?_
 obtain ⟨x3, hx3, h⟩ := bindE_e h
 refine w_callc (args' := [.agg (Enc.cells ((Trc.mk x1 t.e) : Trc))]) (r := .tup [.raw (.int .i64 x3.1), .raw (.int .i64 x3.2)]) (check_sh fuel (Trc.mk x1 t.e) x3 hx3) rfl rfl (stripL_cons (strip_c (clo_agg (Enc.clo _))) rfl) (okTrimL_cons (okTrim_clo _ _ (clo_agg (Enc.clo _))) rfl) (by dsimp only [aput, List.set]) ?_
 refine w_op (a := .tup [.raw (.int .i64 x3.1), .raw (.int .i64 x3.2)]) rfl rfl rfl rfl (by dsimp only [aput, List.set]) ?_
 refine w_op (a := .raw (.int .i64 x3.1)) rfl rfl rfl rfl (by dsimp only [aput, List.set]) ?_
 refine w_op (a := .raw (.int .i64 x3.2)) rfl rfl rfl rfl (by dsimp only [aput, List.set]) ?_
 refine w_op (a := .raw (.int .i64 x3.1)) rfl rfl rfl rfl (by dsimp only [aput, List.set]) ?_
 refine w_op (a := .raw (.int .i64 x3.2)) rfl rfl rfl rfl (by dsimp only [aput, List.set]) ?_
 refine w_seq (w_region ?_)
 refine w_op (a := .agg (Enc.cells (x2 : Trc))) rfl rfl rfl rfl (by dsimp only [aput, List.set]) ?_
 obtain ⟨x4, hx4, h⟩ := bindE_e h
 refine w_callc (args' := [.agg (Enc.cells (x2 : Trc))]) (r := .tup [.raw (.int .i64 x4.1), .raw (.int .i64 x4.2)]) (rcheck_sh fuel x2 x4 hx4) rfl rfl (stripL_cons (strip_c (clo_agg (Enc.clo _))) rfl) (okTrimL_cons (okTrim_clo _ _ (clo_agg (Enc.clo _))) rfl) (by dsimp only [aput, List.set]) ?_
 refine w_op (a := .tup [.raw (.int .i64 x4.1), .raw (.int .i64 x4.2)]) rfl rfl rfl rfl (by dsimp only [aput, List.set]) ?_
 refine w_op (a := .raw (.int .i64 x4.1)) rfl rfl rfl rfl (by dsimp only [aput, List.set]) ?_
 refine w_op (a := .raw (.int .i64 x4.2)) rfl rfl rfl rfl (by dsimp only [aput, List.set]) ?_
 refine w_op (a := .raw (.int .i64 x4.1)) rfl rfl rfl rfl (by dsimp only [aput, List.set]) ?_
 refine w_op (a := .raw (.int .i64 x4.2)) rfl rfl rfl rfl (by dsimp only [aput, List.set]) ?_
 refine w_seq (w_region ?_)
 refine w_op (a := .agg (Enc.cells ((Trc.mk x1 t.e) : Trc))) rfl rfl rfl rfl (by dsimp only [aput, List.set]) ?_
 obtain ⟨x5, hx5, h⟩ := bindE_e h
 refine w_callc (args' := [.agg (Enc.cells ((Trc.mk x1 t.e) : Trc))]) (r := .tup [.raw (.string (bs x5.1)), .raw (.int .i64 x5.2)]) (write_sh fuel (Trc.mk x1 t.e) x5 hx5) rfl rfl (stripL_cons (strip_c (clo_agg (Enc.clo _))) rfl) (okTrimL_cons (okTrim_clo _ _ (clo_agg (Enc.clo _))) rfl) (by dsimp only [aput, List.set]) ?_
 refine w_op (a := .tup [.raw (.string (bs x5.1)), .raw (.int .i64 x5.2)]) rfl rfl rfl rfl (by dsimp only [aput, List.set]) ?_
 refine w_op (a := .raw (.string (bs x5.1))) rfl rfl rfl rfl (by dsimp only [aput, List.set]) ?_
 refine w_op (a := .raw (.int .i64 x5.2)) rfl rfl rfl rfl (by dsimp only [aput, List.set]) ?_
 refine w_op (a := .raw (.string (bs x5.1))) rfl rfl rfl rfl (by dsimp only [aput, List.set]) ?_
 refine w_op (a := .raw (.int .i64 x5.2)) rfl rfl rfl rfl (by dsimp only [aput, List.set]) ?_
 refine w_seq (w_region ?_)
 refine w_op (a := .agg (Enc.cells ((Trc.mk x1 t.e) : Trc))) rfl rfl rfl rfl (by dsimp only [aput, List.set]) ?_
 refine bif_e h (fun hc1 h => ?_) (fun hc1 h => ?_)
 ·
  obtain ⟨x6, hx6, h⟩ := bindE_e h
  refine w_callc (args' := [.agg (Enc.cells ((Trc.mk x1 t.e) : Trc))]) (r := .agg (Enc.cells (x6 : Trc))) (copy_sh (Trc.mk x1 t.e) x6 hx6) rfl rfl (stripL_cons (strip_c (clo_agg (Enc.clo _))) rfl) (okTrimL_cons (okTrim_clo _ _ (clo_agg (Enc.clo _))) rfl) (by dsimp only [aput, List.set]) ?_
  refine w_opm (a := .ptr 3 0) (σ'' := ⟨[(27, (Enc.cells (t : Trc))), (27, (Enc.cells ((Trc.mk x1 t.e) : Trc))), (34, (Enc.cells (x2 : Trc))), (27, [.list (List.length (([] : List En) : List En)) (Enc.cellsL (([] : List En) : List En)) .full, .raw (.int .u8 0), .raw (.int .i64 0)])], [], [], 0, false⟩) rfl rfl rfl rfl (by dsimp only [aput, List.set]) rfl ?_
  refine w_opm (σ'' := ⟨[(27, (Enc.cells (t : Trc))), (27, (Enc.cells ((Trc.mk x1 t.e) : Trc))), (34, (Enc.cells (x2 : Trc))), (27, (Enc.cells (x6 : Trc)))], [], [], 0, false⟩) rfl rfl rfl (op_storeW (n := 3) rfl rfl rfl rfl rfl rfl rfl rfl (by decide)) (by dsimp only [aput, List.set]) rfl ?_
  refine w_seq ?_
  refine w_seq ?_
  refine w_draw (k0 := 0) (id := 7) 23 (by kernel_rfl) (by kernel_rfl) ?_
  refine h_op (a := .raw (.int .i64 x3.1)) rfl rfl rfl rfl (by dsimp only [aput, List.set]) ?_
  refine h_op (a := .raw (.int .i64 x4.1)) rfl rfl rfl rfl (by dsimp only [aput, List.set]) ?_
  refine h_op (a := .raw (.bool (x3.1 != x4.1))) rfl rfl rfl rfl (by dsimp only [aput, List.set]) ?_
  refine bif_e h (fun hc2 h => ?_) (fun hc2 h => ?_)
  ·
   refine h_op (a := .raw (.bool true)) rfl rfl rfl (q_bool rfl hc2) (by dsimp only [aput, List.set]) ?_
   refine h_pass rfl rfl rfl (by decide) (by dsimp only [aput, List.set]) ?_
   refine h_pass rfl rfl rfl (by decide) (by dsimp only [aput, List.set]) ?_
   refine h_pass rfl rfl rfl (by decide) (by dsimp only [aput, List.set]) ?_
   refine h_op (a := .raw (.bool true)) rfl rfl rfl rfl (by dsimp only [aput, List.set]) ?_
   refine h_op (a := .raw (.bool true)) rfl rfl rfl rfl (by dsimp only [aput, List.set]) ?_
   refine h_pass rfl rfl rfl (by decide) (by dsimp only [aput, List.set]) ?_
   refine h_pass rfl rfl rfl (by decide) (by dsimp only [aput, List.set]) ?_
   refine h_pass rfl rfl rfl (by decide) (by dsimp only [aput, List.set]) ?_
   refine h_op (a := .raw (.bool true)) rfl rfl rfl rfl (by dsimp only [aput, List.set]) ?_
   refine h_op (a := .raw (.bool true)) rfl rfl rfl rfl (by dsimp only [aput, List.set]) ?_
   refine h_pass rfl rfl rfl (by decide) (by dsimp only [aput, List.set]) ?_
   refine h_pass rfl rfl rfl (by decide) (by dsimp only [aput, List.set]) ?_
   refine h_pass rfl rfl rfl (by decide) (by dsimp only [aput, List.set]) ?_
   refine h_pass rfl rfl rfl (by decide) (by dsimp only [aput, List.set]) ?_
   refine h_op (a := .raw (.bool true)) rfl rfl rfl rfl (by dsimp only [aput, List.set]) ?_
   refine h_op (a := .raw (.bool true)) rfl rfl rfl rfl (by dsimp only [aput, List.set]) ?_
   refine h_pass rfl rfl rfl (by decide) (by dsimp only [aput, List.set]) ?_
   refine h_pass rfl rfl rfl (by decide) (by dsimp only [aput, List.set]) ?_
   refine h_pass rfl rfl rfl (by decide) (by dsimp only [aput, List.set]) ?_
   refine h_end ?_
   refine w_pass rfl rfl (by decide) (by dsimp only [aput, List.set]) ?_
   refine w_pass rfl rfl (by decide) (by dsimp only [aput, List.set]) ?_
   refine w_op (a := .raw (.bool true)) rfl rfl rfl rfl (by dsimp only [aput, List.set]) ?_
   refine w_true rfl ?_
   refine w_seq (w_region ?_)
   refine w_op (a := .raw (.bool false)) rfl rfl rfl rfl (by dsimp only [aput, List.set]) ?_
   exact end_pureF (fun (r : Bool) => (.raw (.bool r) : AV)) h (a := .raw (.bool false)) rfl rfl rfl
  ·
   refine h_op (a := .raw (.bool false)) rfl rfl rfl (q_bool rfl hc2) (by dsimp only [aput, List.set]) ?_
   refine h_met rfl rfl ?_
   refine h_op (a := .raw (.int .i64 x3.2)) rfl rfl rfl rfl (by dsimp only [aput, List.set]) ?_
   refine h_met rfl rfl ?_
   refine h_op (a := .raw (.int .i64 x4.2)) rfl rfl rfl rfl (by dsimp only [aput, List.set]) ?_
   refine h_met rfl rfl ?_
   refine h_op (a := .raw (.bool (x3.2 != x4.2))) rfl rfl rfl rfl (by dsimp only [aput, List.set]) ?_
   refine h_op (a := .raw (.bool (x3.2 != x4.2))) rfl rfl rfl rfl (by dsimp only [aput, List.set]) ?_
   refine bif_e h (fun hc3 h => ?_) (fun hc3 h => ?_)
   ·
    refine h_op (a := .raw (.bool true)) rfl rfl rfl (q_bool rfl hc3) (by dsimp only [aput, List.set]) ?_
    refine h_pass rfl rfl rfl (by decide) (by dsimp only [aput, List.set]) ?_
    refine h_pass rfl rfl rfl (by decide) (by dsimp only [aput, List.set]) ?_
    refine h_pass rfl rfl rfl (by decide) (by dsimp only [aput, List.set]) ?_
    refine h_op (a := .raw (.bool true)) rfl rfl rfl rfl (by dsimp only [aput, List.set]) ?_
    refine h_op (a := .raw (.bool true)) rfl rfl rfl rfl (by dsimp only [aput, List.set]) ?_
    refine h_pass rfl rfl rfl (by decide) (by dsimp only [aput, List.set]) ?_
    refine h_pass rfl rfl rfl (by decide) (by dsimp only [aput, List.set]) ?_
    refine h_pass rfl rfl rfl (by decide) (by dsimp only [aput, List.set]) ?_
    refine h_pass rfl rfl rfl (by decide) (by dsimp only [aput, List.set]) ?_
    refine h_op (a := .raw (.bool true)) rfl rfl rfl rfl (by dsimp only [aput, List.set]) ?_
    refine h_op (a := .raw (.bool true)) rfl rfl rfl rfl (by dsimp only [aput, List.set]) ?_
    refine h_pass rfl rfl rfl (by decide) (by dsimp only [aput, List.set]) ?_
    refine h_pass rfl rfl rfl (by decide) (by dsimp only [aput, List.set]) ?_
    refine h_pass rfl rfl rfl (by decide) (by dsimp only [aput, List.set]) ?_
    refine h_end ?_
    refine w_pass rfl rfl (by decide) (by dsimp only [aput, List.set]) ?_
    refine w_pass rfl rfl (by decide) (by dsimp only [aput, List.set]) ?_
    refine w_op (a := .raw (.bool true)) rfl rfl rfl rfl (by dsimp only [aput, List.set]) ?_
    refine w_true rfl ?_
    refine w_seq (w_region ?_)
    refine w_op (a := .raw (.bool false)) rfl rfl rfl rfl (by dsimp only [aput, List.set]) ?_
    exact end_pureF (fun (r : Bool) => (.raw (.bool r) : AV)) h (a := .raw (.bool false)) rfl rfl rfl
   ·
    refine h_op (a := .raw (.bool false)) rfl rfl rfl (q_bool rfl hc3) (by dsimp only [aput, List.set]) ?_
    refine h_met rfl rfl ?_
    refine h_op (a := .raw (.int .i64 x5.2)) rfl rfl rfl rfl (by dsimp only [aput, List.set]) ?_
    refine h_met rfl rfl ?_
    refine h_op (a := .raw (.int .i64 x4.2)) rfl rfl rfl rfl (by dsimp only [aput, List.set]) ?_
    refine h_met rfl rfl ?_
    refine h_op (a := .raw (.bool (x5.2 != x4.2))) rfl rfl rfl rfl (by dsimp only [aput, List.set]) ?_
    refine h_op (a := .raw (.bool (x5.2 != x4.2))) rfl rfl rfl rfl (by dsimp only [aput, List.set]) ?_
    refine bif_e h (fun hc4 h => ?_) (fun hc4 h => ?_)
    ·
     refine h_op (a := .raw (.bool true)) rfl rfl rfl (q_bool rfl hc4) (by dsimp only [aput, List.set]) ?_
     refine h_pass rfl rfl rfl (by decide) (by dsimp only [aput, List.set]) ?_
     refine h_pass rfl rfl rfl (by decide) (by dsimp only [aput, List.set]) ?_
     refine h_pass rfl rfl rfl (by decide) (by dsimp only [aput, List.set]) ?_
     refine h_pass rfl rfl rfl (by decide) (by dsimp only [aput, List.set]) ?_
     refine h_op (a := .raw (.bool true)) rfl rfl rfl rfl (by dsimp only [aput, List.set]) ?_
     refine h_op (a := .raw (.bool true)) rfl rfl rfl rfl (by dsimp only [aput, List.set]) ?_
     refine h_pass rfl rfl rfl (by decide) (by dsimp only [aput, List.set]) ?_
     refine h_pass rfl rfl rfl (by decide) (by dsimp only [aput, List.set]) ?_
     refine h_pass rfl rfl rfl (by decide) (by dsimp only [aput, List.set]) ?_
     refine h_end ?_
     refine w_pass rfl rfl (by decide) (by dsimp only [aput, List.set]) ?_
     refine w_pass rfl rfl (by decide) (by dsimp only [aput, List.set]) ?_
     refine w_op (a := .raw (.bool true)) rfl rfl rfl rfl (by dsimp only [aput, List.set]) ?_
     refine w_true rfl ?_
     refine w_seq (w_region ?_)
     refine w_op (a := .raw (.bool false)) rfl rfl rfl rfl (by dsimp only [aput, List.set]) ?_
     exact end_pureF (fun (r : Bool) => (.raw (.bool r) : AV)) h (a := .raw (.bool false)) rfl rfl rfl
    ·
     refine h_op (a := .raw (.bool false)) rfl rfl rfl (q_bool rfl hc4) (by dsimp only [aput, List.set]) ?_
     refine h_met rfl rfl ?_
     refine h_op (a := .agg (Enc.cells (x6 : Trc))) rfl rfl rfl rfl (by dsimp only [aput, List.set]) ?_
     refine h_met rfl rfl ?_
     refine h_op (a := .agg (Enc.cells (x2 : Trc))) rfl rfl rfl rfl (by dsimp only [aput, List.set]) ?_
     refine h_met rfl rfl ?_
     obtain ⟨x7, hx7, h⟩ := bindE_e h
     refine h_call (args' := [.agg (Enc.cells (x6 : Trc)), .agg (Enc.cells (x2 : Trc))]) (r := .raw (.bool x7)) (lequal_sh fuel x6 x2 x7 hx7) rfl rfl rfl (stripL_cons (strip_c (clo_agg (Enc.clo _))) (stripL_cons (strip_c (clo_agg (Enc.clo _))) rfl)) (okTrimL_cons (okTrim_clo _ _ (clo_agg (Enc.clo _))) (okTrimL_cons (okTrim_clo _ _ (clo_agg (Enc.clo _))) rfl)) (by dsimp only [aput, List.set]) ?_
     refine h_met rfl rfl ?_
     refine h_op (a := .raw (.bool (!x7))) rfl rfl rfl rfl (by dsimp only [aput, List.set]) ?_
     refine h_op (a := .raw (.bool (!x7))) rfl rfl rfl rfl (by dsimp only [aput, List.set]) ?_
     refine bif_e h (fun hc5 h => ?_) (fun hc5 h => ?_)
     ·
      refine h_op (a := .raw (.bool true)) rfl rfl rfl (q_bool rfl hc5) (by dsimp only [aput, List.set]) ?_
      refine h_pass rfl rfl rfl (by decide) (by dsimp only [aput, List.set]) ?_
      refine h_pass rfl rfl rfl (by decide) (by dsimp only [aput, List.set]) ?_
      refine h_pass rfl rfl rfl (by decide) (by dsimp only [aput, List.set]) ?_
      refine h_end ?_
      refine w_pass rfl rfl (by decide) (by dsimp only [aput, List.set]) ?_
      refine w_pass rfl rfl (by decide) (by dsimp only [aput, List.set]) ?_
      refine w_op (a := .raw (.bool true)) rfl rfl rfl rfl (by dsimp only [aput, List.set]) ?_
      refine w_true rfl ?_
      refine w_seq (w_region ?_)
      refine w_op (a := .raw (.bool false)) rfl rfl rfl rfl (by dsimp only [aput, List.set]) ?_
      exact end_pureF (fun (r : Bool) => (.raw (.bool r) : AV)) h (a := .raw (.bool false)) rfl rfl rfl
     ·
      refine h_op (a := .raw (.bool false)) rfl rfl rfl (q_bool rfl hc5) (by dsimp only [aput, List.set]) ?_
      refine h_met rfl rfl ?_
      refine h_op (a := .agg (Enc.cells ((Trc.mk x1 t.e) : Trc))) rfl rfl rfl rfl (by dsimp only [aput, List.set]) ?_
      refine h_met rfl rfl ?_
      obtain ⟨x8, hx8, h⟩ := bindE_e h
      refine h_call (args' := [.agg (Enc.cells ((Trc.mk x1 t.e) : Trc))]) (r := .raw (.string (bs x8))) (sent_sh fuel (Trc.mk x1 t.e) x8 hx8) rfl rfl rfl (stripL_cons (strip_c (clo_agg (Enc.clo _))) rfl) (okTrimL_cons (okTrim_clo _ _ (clo_agg (Enc.clo _))) rfl) (by dsimp only [aput, List.set]) ?_
      refine h_met rfl rfl ?_
      refine h_op (a := .agg (Enc.cells (x2 : Trc))) rfl rfl rfl rfl (by dsimp only [aput, List.set]) ?_
      refine h_end ?_
      refine w_met rfl rfl ?_
      obtain ⟨x9, hx9, h⟩ := bindE_e h
      refine w_callc (args' := [.agg (Enc.cells (x2 : Trc))]) (r := .raw (.string (bs x9))) (rsent_sh fuel x2 x9 hx9) rfl rfl (stripL_cons (strip_c (clo_agg (Enc.clo _))) rfl) (okTrimL_cons (okTrim_clo _ _ (clo_agg (Enc.clo _))) rfl) (by dsimp only [aput, List.set]) ?_
      refine w_met rfl rfl ?_
      refine w_op (a := .raw (.bool (!(x8 == x9)))) rfl rfl rfl (op_q (q_strne rfl rfl rfl)) (by dsimp only [aput, List.set]) ?_
      refine w_op (a := .raw (.bool (!(x8 == x9)))) rfl rfl rfl rfl (by dsimp only [aput, List.set]) ?_
      refine bif_e h (fun hc6 h => ?_) (fun hc6 h => ?_)
      ·
       refine w_condT hc6 rfl ?_
       refine w_seq (w_region ?_)
       refine w_op (a := .raw (.bool false)) rfl rfl rfl rfl (by dsimp only [aput, List.set]) ?_
       exact end_pureF (fun (r : Bool) => (.raw (.bool r) : AV)) h (a := .raw (.bool false)) rfl rfl rfl
      ·
       refine w_condF hc6 rfl ?_
       refine w_cutF h [0, 1, 2, 5, 6, 7, 10, 11, 12, 13, 14, 15, 16, 17, 18, 19, 20, 21, 22, 23, 24, 25, 26, 27, 28, 29, 30, 31, 32, 33, 34, 35, 36, 37, 38, 39, 40, 41, 42, 43, 44, 45, 46, 47, 48, 49, 50, 51, 52, 53, 54, 55, 56, 57, 58, 59, 60, 61, 62, 63, 64, 65, 66, 67, 68, 69, 70, 71, 72, 73, 74, 75, 76, 77, 78, 79, 80, 81, 82, 83, 84, 85, 86, 87, 88, 89, 90, 91, 92, 93, 94, 95, 96, 97, 98, 99, 100, 101, 102, 103, 104, 105, 106, 107, 108, 109, 110, 111, 112, 113, 114, 115] (fun j1 => []) (fun j1 => ⟨[(27, (Enc.cells (t : Trc))), (27, (Enc.cells ((Trc.mk x1 t.e) : Trc))), (34, (Enc.cells (x2 : Trc))), (27, (Enc.cells (x6 : Trc)))], [], [], 0, false⟩) ?_ ?_
       ·
        intro or1 h hr1
        refine w_seq (w_region ?_)
        refine w_op (a := .ptr 3 0) rfl rfl rfl rfl (by dsimp only [aput, List.set]) ?_
        refine w_op (a := .list (List.length (x6.l : List En)) (Enc.cellsL (x6.l : List En)) .none) rfl rfl rfl rfl (by dsimp only [aput, List.set]) ?_
        refine w_op (a := .raw (.int .i64 (List.length x6.l : Int))) rfl rfl rfl rfl (by dsimp only [aput, List.set]) ?_
        refine w_op (a := .raw (.int .i64 0)) rfl rfl rfl rfl (by dsimp only [aput, List.set]) ?_
        refine w_block ?_
        refine w_loopF h [0, 1, 2, 5, 6, 7, 10, 12, 13, 14, 15, 16, 17, 18, 19, 20, 21, 22, 23, 24, 25, 26, 27, 28, 29, 30, 31, 32, 33, 34, 35, 36, 37, 38, 39, 40, 41, 42, 43, 44, 45, 46, 47, 48, 49, 50, 51, 52, 53, 54, 55, 56, 57, 58, 59, 60, 61, 62, 63, 64, 65, 66, 67, 68, 69, 71, 72, 73, 74, 75, 76, 77, 78, 79, 80, 81, 82, 83, 84, 85, 86, 87, 88, 89, 90, 91, 92, 93, 94, 95, 96, 97, 98, 99, 100, 101, 102, 103, 104, 105, 106, 107, 108, 109, 110, 111, 112, 113, 114, 115] (fun s1 => [(71, .raw (.int .i64 s1))]) (fun s1 => ⟨[(27, (Enc.cells (t : Trc))), (27, (Enc.cells ((Trc.mk x1 t.e) : Trc))), (34, (Enc.cells (x2 : Trc))), (27, (Enc.cells (x6 : Trc)))], [], [], 0, false⟩) ?_ ?_
        ·
         exact wm_of [false, false, false, true, true, false, false, false, true, true, false, true, false, false, false, false, false, false, false, false, false, false, false, false, false, false, false, false, false, false, false, false, false, false, false, false, false, false, false, false, false, false, false, false, false, false, false, false, false, false, false, false, false, false, false, false, false, false, false, false, false, false, false, false, false, false, false, false, false, false, true, true, false, false, false, false, false, false, false, false, false, false, false, false, false, false, false, false, false, false, false, false, false, false, false, false, false, false, false, false, false, false, false, false, false, false, false, false, false, false, false, false, false, false, false, false] (by kernel_rfl) (by kernel_rfl)
        ·
         intro s1 p1 h
         refine w_start (by dsimp only [setAll, topAll, List.foldl, List.set]) rfl ?_
         refine w_seq (w_region ?_)
         refine w_op (a := .raw (.bool (decide (s1 < (List.length x6.l : Int))))) rfl rfl rfl rfl (by dsimp only [aput, List.set]) ?_
         refine w_seq ?_
         refine bif_e h (fun hc7 h => ?_) (fun hc7 h => ?_)
         ·
          refine w_condT hc7 rfl ?_
          refine w_seq ?_
          refine w_block ?_
          refine w_seq (w_region ?_)
          refine w_op (a := .raw (.int .i64 s1)) rfl rfl rfl rfl (by dsimp only [aput, List.set]) ?_
          refine w_op (a := .raw (.int .i64 s1)) rfl rfl rfl rfl (by dsimp only [aput, List.set]) ?_
          refine w_region (k0 := 0) (id := 12) ?_
          refine w_op (a := .ptr 3 0) rfl rfl rfl rfl (by dsimp only [aput, List.set]) ?_
          refine w_op (a := .list (List.length (x6.l : List En)) (Enc.cellsL (x6.l : List En)) .none) rfl rfl rfl rfl (by dsimp only [aput, List.set]) ?_
          refine w_op (a := .raw (.int .i64 s1)) rfl rfl rfl rfl (by dsimp only [aput, List.set]) ?_
          obtain ⟨g2, h⟩ := chk_e h
          obtain ⟨x10, hx10, h⟩ := letE_e h
          refine w_op (a := .iptr (Enc.cells x10 ++ Enc.cellsL (List.drop (Int.toNat s1 + 1) x6.l))) rfl rfl rfl (op_q (by rw [← hx10]; exact (q_idx (α := En) (l := x6.l) g2 rfl rfl rfl rfl rfl))) (by dsimp only [aput, List.set]) ?_
          refine w_op (a := .iptr (List.drop 0 (Enc.cells x10 ++ Enc.cellsL (List.drop (Int.toNat s1 + 1) x6.l)))) rfl rfl rfl rfl (by dsimp only [aput, List.set]) ?_
          cases h
         ·
          refine w_condF hc7 rfl ?_
          refine loop_exit h (fun h => ?_)
          refine cut_done (o := or1) () h ?_
          exact wm_of [false, false, false, true, true, false, false, false, true, true, false, false, false, false, false, false, false, false, false, false, false, false, false, false, false, false, false, false, false, false, false, false, false, false, false, false, false, false, false, false, false, false, false, false, false, false, false, false, false, false, false, false, false, false, false, false, false, false, false, false, false, false, false, false, false, false, false, false, false, false, false, false, false, false, false, false, false, false, false, false, false, false, false, false, false, false, false, false, false, false, false, false, false, false, false, false, false, false, false, false, false, false, false, false, false, false, false, false, false, false, false, false, false, false, false, false] (by kernel_rfl) (by kernel_rfl)
       ·
        intro j1 h
        refine w_start (by dsimp only [setAll, topAll, List.foldl, List.set]) rfl ?_
        refine w_seq ?_
        refine w_seq (w_region ?_)
        refine w_op (a := .agg (Enc.cells ((Trc.mk x1 t.e) : Trc))) rfl rfl rfl rfl (by dsimp only [aput, List.set]) ?_
        refine w_op (a := .agg (Enc.cells (x2 : Trc))) rfl rfl rfl rfl (by dsimp only [aput, List.set]) ?_
        obtain ⟨x11, hx11, h⟩ := bindE_e h
        refine w_callc (args' := [.agg (Enc.cells ((Trc.mk x1 t.e) : Trc)), .agg (Enc.cells (x2 : Trc))]) (r := .raw (.bool x11)) (lequal_sh fuel (Trc.mk x1 t.e) x2 x11 hx11) rfl rfl (stripL_cons (strip_c (clo_agg (Enc.clo _))) (stripL_cons (strip_c (clo_agg (Enc.clo _))) rfl)) (okTrimL_cons (okTrim_clo _ _ (clo_agg (Enc.clo _))) (okTrimL_cons (okTrim_clo _ _ (clo_agg (Enc.clo _))) rfl)) (by dsimp only [aput, List.set]) ?_
        refine w_op (a := .raw (.bool (!x11))) rfl rfl rfl rfl (by dsimp only [aput, List.set]) ?_
        refine bif_e h (fun hc8 h => ?_) (fun hc8 h => ?_)
        ·
         refine w_condT hc8 rfl ?_
         refine w_seq (w_region ?_)
         refine w_op (a := .raw (.bool false)) rfl rfl rfl rfl (by dsimp only [aput, List.set]) ?_
         exact end_pureF (fun (r : Bool) => (.raw (.bool r) : AV)) h (a := .raw (.bool false)) rfl rfl rfl
        ·
         refine w_condF hc8 rfl ?_
         refine w_seq (w_region ?_)
         refine w_op (a := .raw (.int .i64 0)) rfl rfl rfl rfl (by dsimp only [aput, List.set]) ?_
         refine w_op (a := .raw (.int .i64 0)) rfl rfl rfl rfl (by dsimp only [aput, List.set]) ?_
         refine w_op (a := .raw (.int .i64 0)) rfl rfl rfl rfl (by dsimp only [aput, List.set]) ?_
         refine w_op (a := .raw (.string (bs ([] : List UInt8)))) rfl rfl rfl rfl (by dsimp only [aput, List.set]) ?_
         refine w_cutF h [4, 8, 13, 14, 15, 16, 80, 81, 82, 83, 84, 85, 86, 87, 88, 89, 90, 91, 92, 93, 94] (fun j2 => [(13, .raw (.int .i64 j2.1)), (14, .raw (.int .i64 j2.2.1)), (15, .raw (.int .i64 j2.2.2.1)), (16, .raw (.string (bs j2.2.2.2)))]) (fun j2 => ⟨[(27, (Enc.cells (t : Trc))), (27, (Enc.cells ((Trc.mk x1 t.e) : Trc))), (34, (Enc.cells (x2 : Trc))), (27, (Enc.cells (x6 : Trc)))], [], [], 0, false⟩) ?_ ?_
         ·
          intro or2 h hr2
          refine w_seq (w_region ?_)
          refine w_op (a := .raw (.int .i64 x4.2)) rfl rfl rfl rfl (by dsimp only [aput, List.set]) ?_
          refine w_op (a := .raw (.bool (x4.2 == 0))) rfl rfl rfl rfl (by dsimp only [aput, List.set]) ?_
          refine bif_e h (fun hc9 h => ?_) (fun hc9 h => ?_)
          ·
           refine w_condT hc9 rfl ?_
           refine w_draw (k0 := 0) (id := 18) 8 (by kernel_rfl) (by kernel_rfl) ?_
           refine h_op (a := .agg (Enc.cells (x2 : Trc))) rfl rfl rfl rfl (by dsimp only [aput, List.set]) ?_
           obtain ⟨x12, hx12, h⟩ := bindE_e h
           refine h_call (args' := [.agg (Enc.cells (x2 : Trc)), .raw (.int .u8 2)]) (r := .raw (.int .i64 x12)) (rsum_sh fuel x2 2 x12 hx12) rfl rfl rfl (stripL_cons (strip_c (clo_agg (Enc.clo _))) (stripL_cons rfl rfl)) (okTrimL_cons (okTrim_clo _ _ (clo_agg (Enc.clo _))) (okTrimL_cons rfl rfl)) (by dsimp only [aput, List.set]) ?_
           refine h_op (a := .agg (Enc.cells (x2 : Trc))) rfl rfl rfl rfl (by dsimp only [aput, List.set]) ?_
           obtain ⟨x13, hx13, h⟩ := bindE_e h
           refine h_call (args' := [.agg (Enc.cells (x2 : Trc)), .raw (.int .u8 3)]) (r := .raw (.int .i64 x13)) (rsum_sh fuel x2 3 x13 hx13) rfl rfl rfl (stripL_cons (strip_c (clo_agg (Enc.clo _))) (stripL_cons rfl rfl)) (okTrimL_cons (okTrim_clo _ _ (clo_agg (Enc.clo _))) (okTrimL_cons rfl rfl)) (by dsimp only [aput, List.set]) ?_
           refine h_op (a := .ptr 2 0) rfl rfl rfl rfl (by dsimp only [aput, List.set]) ?_
           refine h_op (a := .list (List.length (x2.l : List En)) (Enc.cellsL (x2.l : List En)) .none) rfl rfl rfl rfl (by dsimp only [aput, List.set]) ?_
           obtain ⟨x14, hx14, h⟩ := bindE_e h
           refine h_call (args' := [.list (List.length (x2.l : List En)) (Enc.cellsL (x2.l : List En)) .none]) (r := .raw (.int .i64 x14)) (rat_sh fuel x2.l x14 hx14) rfl rfl rfl (stripL_cons (strip_l (Enc.cloL _)) rfl) (okTrimL_cons (okTrim_l (Enc.cloL _)) rfl) (by dsimp only [aput, List.set]) ?_
           refine h_op (a := .agg (Enc.cells (x2 : Trc))) rfl rfl rfl rfl (by dsimp only [aput, List.set]) ?_
           refine h_end ?_
           obtain ⟨x15, hx15, h⟩ := bindE_e h
           refine w_callc (args' := [.agg (Enc.cells (x2 : Trc))]) (r := .raw (.string (bs x15))) (rwrite_sh fuel x2 x15 hx15) rfl rfl (stripL_cons (strip_c (clo_agg (Enc.clo _))) rfl) (okTrimL_cons (okTrim_clo _ _ (clo_agg (Enc.clo _))) rfl) (by dsimp only [aput, List.set]) ?_
           refine w_op (a := .raw (.int .i64 x12)) rfl rfl rfl rfl (by dsimp only [aput, List.set]) ?_
           refine w_op (a := .raw (.int .i64 x13)) rfl rfl rfl rfl (by dsimp only [aput, List.set]) ?_
           refine w_op (a := .raw (.int .i64 x14)) rfl rfl rfl rfl (by dsimp only [aput, List.set]) ?_
           refine w_op (a := .raw (.string (bs x15))) rfl rfl rfl rfl (by dsimp only [aput, List.set]) ?_
           refine cut_done (o := or2) (x12, x13, x14, x15) h ?_
           exact wm_of [true, true, true, true, false, true, true, true, false, true, true, true, true, true, true, true, true, true, true, true, true, true, true, true, true, true, true, true, true, true, true, true, true, true, true, true, true, true, true, true, true, true, true, true, true, true, true, true, true, true, true, true, true, true, true, true, true, true, true, true, true, true, true, true, true, true, true, true, true, true, true, true, true, true, true, true, true, true, true, true, false, false, false, false, false, false, false, false, false, false, false, false, false, false, false, true, true, true, true, true, true, true, true, true, true, true, true, true, true, true, true, true, true, true, true, true] (by kernel_rfl) (by kernel_rfl)
          ·
           refine w_condF hc9 rfl ?_
           refine cut_done (o := or2) (0, 0, 0, ([] : List UInt8)) h ?_
           exact wm_of [true, true, true, true, false, true, true, true, false, true, true, true, true, true, true, true, true, true, true, true, true, true, true, true, true, true, true, true, true, true, true, true, true, true, true, true, true, true, true, true, true, true, true, true, true, true, true, true, true, true, true, true, true, true, true, true, true, true, true, true, true, true, true, true, true, true, true, true, true, true, true, true, true, true, true, true, true, true, true, true, false, false, false, false, false, false, false, false, false, false, false, false, false, false, false, true, true, true, true, true, true, true, true, true, true, true, true, true, true, true, true, true, true, true, true, true] (by kernel_rfl) (by kernel_rfl)
         ·
          intro j2 h
          refine w_start (by dsimp only [setAll, topAll, List.foldl, List.set]) rfl ?_
          refine w_seq (w_region ?_)
          refine w_op (a := .agg (Enc.cells ((Trc.mk x1 t.e) : Trc))) rfl rfl rfl rfl (by dsimp only [aput, List.set]) ?_
          obtain ⟨x16, hx16, h⟩ := bindE_e h
          refine w_callc (args' := [.agg (Enc.cells ((Trc.mk x1 t.e) : Trc))]) (r := .raw (.int .i64 x16)) (taken_sh fuel (Trc.mk x1 t.e) x16 hx16) rfl rfl (stripL_cons (strip_c (clo_agg (Enc.clo _))) rfl) (okTrimL_cons (okTrim_clo _ _ (clo_agg (Enc.clo _))) rfl) (by dsimp only [aput, List.set]) ?_
          refine w_op (a := .raw (.int .i64 j2.1)) rfl rfl rfl rfl (by dsimp only [aput, List.set]) ?_
          refine w_op (a := .raw (.bool (x16 == j2.1))) rfl rfl rfl rfl (by dsimp only [aput, List.set]) ?_
          refine bif_e h (fun hc10 h => ?_) (fun hc10 h => ?_)
          ·
           refine w_op (a := .raw (.bool true)) rfl rfl rfl (op_q (q_bool rfl hc10)) (by dsimp only [aput, List.set]) ?_
           refine w_met rfl rfl ?_
           refine w_op (a := .agg (Enc.cells ((Trc.mk x1 t.e) : Trc))) rfl rfl rfl rfl (by dsimp only [aput, List.set]) ?_
           refine w_met rfl rfl ?_
           obtain ⟨x17, hx17, h⟩ := bindE_e h
           refine w_callc (args' := [.agg (Enc.cells ((Trc.mk x1 t.e) : Trc))]) (r := .raw (.int .i64 x17)) (lost_sh fuel (Trc.mk x1 t.e) x17 hx17) rfl rfl (stripL_cons (strip_c (clo_agg (Enc.clo _))) rfl) (okTrimL_cons (okTrim_clo _ _ (clo_agg (Enc.clo _))) rfl) (by dsimp only [aput, List.set]) ?_
           refine w_met rfl rfl ?_
           refine w_op (a := .raw (.int .i64 j2.2.1)) rfl rfl rfl rfl (by dsimp only [aput, List.set]) ?_
           refine w_met rfl rfl ?_
           refine w_op (a := .raw (.bool (x17 == j2.2.1))) rfl rfl rfl rfl (by dsimp only [aput, List.set]) ?_
           refine w_op (a := .raw (.bool (x17 == j2.2.1))) rfl rfl rfl rfl (by dsimp only [aput, List.set]) ?_
           refine bif_e h (fun hc11 h => ?_) (fun hc11 h => ?_)
           ·
            refine w_op (a := .raw (.bool true)) rfl rfl rfl (op_q (q_bool rfl hc11)) (by dsimp only [aput, List.set]) ?_
            refine w_met rfl rfl ?_
            refine w_op (a := .agg (Enc.cells ((Trc.mk x1 t.e) : Trc))) rfl rfl rfl rfl (by dsimp only [aput, List.set]) ?_
            refine w_met rfl rfl ?_
            obtain ⟨x18, hx18, h⟩ := bindE_e h
            refine w_callc (args' := [.agg (Enc.cells ((Trc.mk x1 t.e) : Trc))]) (r := .raw (.int .i64 x18)) (at_sh fuel (Trc.mk x1 t.e) x18 hx18) rfl rfl (stripL_cons (strip_c (clo_agg (Enc.clo _))) rfl) (okTrimL_cons (okTrim_clo _ _ (clo_agg (Enc.clo _))) rfl) (by dsimp only [aput, List.set]) ?_
            refine w_met rfl rfl ?_
            refine w_op (a := .raw (.int .i64 j2.2.2.1)) rfl rfl rfl rfl (by dsimp only [aput, List.set]) ?_
            refine w_met rfl rfl ?_
            refine w_op (a := .raw (.bool (x18 == j2.2.2.1))) rfl rfl rfl rfl (by dsimp only [aput, List.set]) ?_
            refine w_op (a := .raw (.bool (x18 == j2.2.2.1))) rfl rfl rfl rfl (by dsimp only [aput, List.set]) ?_
            refine bif_e h (fun hc12 h => ?_) (fun hc12 h => ?_)
            ·
             refine w_op (a := .raw (.bool true)) rfl rfl rfl (op_q (q_bool rfl hc12)) (by dsimp only [aput, List.set]) ?_
             refine w_met rfl rfl ?_
             refine w_op (a := .raw (.string (bs x5.1))) rfl rfl rfl rfl (by dsimp only [aput, List.set]) ?_
             refine w_met rfl rfl ?_
             refine w_op (a := .raw (.string (bs j2.2.2.2))) rfl rfl rfl rfl (by dsimp only [aput, List.set]) ?_
             refine w_met rfl rfl ?_
             refine w_op (a := .raw (.bool (x5.1 == j2.2.2.2))) rfl rfl rfl (op_q (q_streq rfl rfl rfl)) (by dsimp only [aput, List.set]) ?_
             refine w_op (a := .raw (.bool (x5.1 == j2.2.2.2))) rfl rfl rfl rfl (by dsimp only [aput, List.set]) ?_
             refine w_op (a := .raw (.bool (x5.1 == j2.2.2.2))) rfl rfl rfl rfl (by dsimp only [aput, List.set]) ?_
             exact end_pureF (fun (r : Bool) => (.raw (.bool r) : AV)) h (a := .raw (.bool (x5.1 == j2.2.2.2))) rfl rfl rfl
            ·
             refine w_op (a := .raw (.bool false)) rfl rfl rfl (op_q (q_bool rfl hc12)) (by dsimp only [aput, List.set]) ?_
             refine w_pass rfl rfl (by decide) (by dsimp only [aput, List.set]) ?_
             refine w_pass rfl rfl (by decide) (by dsimp only [aput, List.set]) ?_
             refine w_pass rfl rfl (by decide) (by dsimp only [aput, List.set]) ?_
             refine w_op (a := .raw (.bool false)) rfl rfl rfl rfl (by dsimp only [aput, List.set]) ?_
             refine w_op (a := .raw (.bool false)) rfl rfl rfl rfl (by dsimp only [aput, List.set]) ?_
             exact end_pureF (fun (r : Bool) => (.raw (.bool r) : AV)) h (a := .raw (.bool false)) rfl rfl rfl
           ·
            refine w_op (a := .raw (.bool false)) rfl rfl rfl (op_q (q_bool rfl hc11)) (by dsimp only [aput, List.set]) ?_
            refine w_pass rfl rfl (by decide) (by dsimp only [aput, List.set]) ?_
            refine w_pass rfl rfl (by decide) (by dsimp only [aput, List.set]) ?_
            refine w_pass rfl rfl (by decide) (by dsimp only [aput, List.set]) ?_
            refine w_pass rfl rfl (by decide) (by dsimp only [aput, List.set]) ?_
            refine w_op (a := .raw (.bool false)) rfl rfl rfl rfl (by dsimp only [aput, List.set]) ?_
            refine w_op (a := .raw (.bool false)) rfl rfl rfl rfl (by dsimp only [aput, List.set]) ?_
            refine w_pass rfl rfl (by decide) (by dsimp only [aput, List.set]) ?_
            refine w_pass rfl rfl (by decide) (by dsimp only [aput, List.set]) ?_
            refine w_pass rfl rfl (by decide) (by dsimp only [aput, List.set]) ?_
            refine w_op (a := .raw (.bool false)) rfl rfl rfl rfl (by dsimp only [aput, List.set]) ?_
            refine w_op (a := .raw (.bool false)) rfl rfl rfl rfl (by dsimp only [aput, List.set]) ?_
            exact end_pureF (fun (r : Bool) => (.raw (.bool r) : AV)) h (a := .raw (.bool false)) rfl rfl rfl
          ·
           refine w_op (a := .raw (.bool false)) rfl rfl rfl (op_q (q_bool rfl hc10)) (by dsimp only [aput, List.set]) ?_
           refine w_pass rfl rfl (by decide) (by dsimp only [aput, List.set]) ?_
           refine w_pass rfl rfl (by decide) (by dsimp only [aput, List.set]) ?_
           refine w_pass rfl rfl (by decide) (by dsimp only [aput, List.set]) ?_
           refine w_pass rfl rfl (by decide) (by dsimp only [aput, List.set]) ?_
           refine w_op (a := .raw (.bool false)) rfl rfl rfl rfl (by dsimp only [aput, List.set]) ?_
           refine w_op (a := .raw (.bool false)) rfl rfl rfl rfl (by dsimp only [aput, List.set]) ?_
           refine w_pass rfl rfl (by decide) (by dsimp only [aput, List.set]) ?_
           refine w_pass rfl rfl (by decide) (by dsimp only [aput, List.set]) ?_
           refine w_pass rfl rfl (by decide) (by dsimp only [aput, List.set]) ?_
           refine w_pass rfl rfl (by decide) (by dsimp only [aput, List.set]) ?_
           refine w_op (a := .raw (.bool false)) rfl rfl rfl rfl (by dsimp only [aput, List.set]) ?_
           refine w_op (a := .raw (.bool false)) rfl rfl rfl rfl (by dsimp only [aput, List.set]) ?_
           refine w_pass rfl rfl (by decide) (by dsimp only [aput, List.set]) ?_
           refine w_pass rfl rfl (by decide) (by dsimp only [aput, List.set]) ?_
           refine w_pass rfl rfl (by decide) (by dsimp only [aput, List.set]) ?_
           refine w_op (a := .raw (.bool false)) rfl rfl rfl rfl (by dsimp only [aput, List.set]) ?_
           refine w_op (a := .raw (.bool false)) rfl rfl rfl rfl (by dsimp only [aput, List.set]) ?_
           exact end_pureF (fun (r : Bool) => (.raw (.bool r) : AV)) h (a := .raw (.bool false)) rfl rfl rfl
 ·
  obtain ⟨g3, h⟩ := chk_e h
  refine w_snd (r := .agg [.bsl 3 0 (List.length (Trc.mk x1 t.e).l) 4 false, .raw (.int .u8 ((Trc.mk x1 t.e).e.k)), .raw (.int .i64 ((Trc.mk x1 t.e).e.c))]) (σ' := ⟨[(27, (Enc.cells (t : Trc))), (27, (Enc.cells ((Trc.mk x1 t.e) : Trc))), (34, (Enc.cells (x2 : Trc))), (41, (Enc.cellsL ((Trc.mk x1 t.e).l : List En)))], [], [], 0, false⟩) (copy_cons (Trc.mk x1 t.e) (len_pos hc1) g3 3 _ rfl) rfl rfl ⟨rfl, rfl⟩ (by dsimp only [aput, List.set]) ?_
  refine w_opm (a := .ptr 4 0) (σ'' := ⟨[(27, (Enc.cells (t : Trc))), (27, (Enc.cells ((Trc.mk x1 t.e) : Trc))), (34, (Enc.cells (x2 : Trc))), (41, (Enc.cellsL ((Trc.mk x1 t.e).l : List En))), (27, [.list (List.length (([] : List En) : List En)) (Enc.cellsL (([] : List En) : List En)) .full, .raw (.int .u8 0), .raw (.int .i64 0)])], [], [], 0, false⟩) rfl rfl rfl rfl (by dsimp only [aput, List.set]) rfl ?_
  refine w_opm (σ'' := ⟨[(27, (Enc.cells (t : Trc))), (27, (Enc.cells ((Trc.mk x1 t.e) : Trc))), (34, (Enc.cells (x2 : Trc))), (41, (Enc.cellsL ((Trc.mk x1 t.e).l : List En))), (27, [.bsl 3 0 (List.length (Trc.mk x1 t.e).l) 4 false, .raw (.int .u8 ((Trc.mk x1 t.e).e.k)), .raw (.int .i64 ((Trc.mk x1 t.e).e.c))])], [], [], 0, false⟩) rfl rfl rfl (op_storeW (n := 3) rfl rfl rfl rfl rfl rfl rfl rfl (by decide)) (by dsimp only [aput, List.set]) rfl ?_
  refine w_seq ?_
  refine w_seq ?_
  refine w_draw (k0 := 0) (id := 7) 23 (by kernel_rfl) (by kernel_rfl) ?_
  refine h_op (a := .raw (.int .i64 x3.1)) rfl rfl rfl rfl (by dsimp only [aput, List.set]) ?_
  refine h_op (a := .raw (.int .i64 x4.1)) rfl rfl rfl rfl (by dsimp only [aput, List.set]) ?_
  refine h_op (a := .raw (.bool (x3.1 != x4.1))) rfl rfl rfl rfl (by dsimp only [aput, List.set]) ?_
  refine bif_e h (fun hc13 h => ?_) (fun hc13 h => ?_)
  ·
   refine h_op (a := .raw (.bool true)) rfl rfl rfl (q_bool rfl hc13) (by dsimp only [aput, List.set]) ?_
   refine h_pass rfl rfl rfl (by decide) (by dsimp only [aput, List.set]) ?_
   refine h_pass rfl rfl rfl (by decide) (by dsimp only [aput, List.set]) ?_
   refine h_pass rfl rfl rfl (by decide) (by dsimp only [aput, List.set]) ?_
   refine h_op (a := .raw (.bool true)) rfl rfl rfl rfl (by dsimp only [aput, List.set]) ?_
   refine h_op (a := .raw (.bool true)) rfl rfl rfl rfl (by dsimp only [aput, List.set]) ?_
   refine h_pass rfl rfl rfl (by decide) (by dsimp only [aput, List.set]) ?_
   refine h_pass rfl rfl rfl (by decide) (by dsimp only [aput, List.set]) ?_
   refine h_pass rfl rfl rfl (by decide) (by dsimp only [aput, List.set]) ?_
   refine h_op (a := .raw (.bool true)) rfl rfl rfl rfl (by dsimp only [aput, List.set]) ?_
   refine h_op (a := .raw (.bool true)) rfl rfl rfl rfl (by dsimp only [aput, List.set]) ?_
   refine h_pass rfl rfl rfl (by decide) (by dsimp only [aput, List.set]) ?_
   refine h_pass rfl rfl rfl (by decide) (by dsimp only [aput, List.set]) ?_
   refine h_pass rfl rfl rfl (by decide) (by dsimp only [aput, List.set]) ?_
   refine h_pass rfl rfl rfl (by decide) (by dsimp only [aput, List.set]) ?_
   refine h_op (a := .raw (.bool true)) rfl rfl rfl rfl (by dsimp only [aput, List.set]) ?_
   refine h_op (a := .raw (.bool true)) rfl rfl rfl rfl (by dsimp only [aput, List.set]) ?_
   refine h_pass rfl rfl rfl (by decide) (by dsimp only [aput, List.set]) ?_
   refine h_pass rfl rfl rfl (by decide) (by dsimp only [aput, List.set]) ?_
   refine h_pass rfl rfl rfl (by decide) (by dsimp only [aput, List.set]) ?_
   refine h_end ?_
   refine w_pass rfl rfl (by decide) (by dsimp only [aput, List.set]) ?_
   refine w_pass rfl rfl (by decide) (by dsimp only [aput, List.set]) ?_
   refine w_op (a := .raw (.bool true)) rfl rfl rfl rfl (by dsimp only [aput, List.set]) ?_
   refine w_true rfl ?_
   refine w_seq (w_region ?_)
   refine w_op (a := .raw (.bool false)) rfl rfl rfl rfl (by dsimp only [aput, List.set]) ?_
   exact end_pureF (fun (r : Bool) => (.raw (.bool r) : AV)) h (a := .raw (.bool false)) rfl rfl rfl
  ·
   refine h_op (a := .raw (.bool false)) rfl rfl rfl (q_bool rfl hc13) (by dsimp only [aput, List.set]) ?_
   refine h_met rfl rfl ?_
   refine h_op (a := .raw (.int .i64 x3.2)) rfl rfl rfl rfl (by dsimp only [aput, List.set]) ?_
   refine h_met rfl rfl ?_
   refine h_op (a := .raw (.int .i64 x4.2)) rfl rfl rfl rfl (by dsimp only [aput, List.set]) ?_
   refine h_met rfl rfl ?_
   refine h_op (a := .raw (.bool (x3.2 != x4.2))) rfl rfl rfl rfl (by dsimp only [aput, List.set]) ?_
   refine h_op (a := .raw (.bool (x3.2 != x4.2))) rfl rfl rfl rfl (by dsimp only [aput, List.set]) ?_
   refine bif_e h (fun hc14 h => ?_) (fun hc14 h => ?_)
   ·
    refine h_op (a := .raw (.bool true)) rfl rfl rfl (q_bool rfl hc14) (by dsimp only [aput, List.set]) ?_
    refine h_pass rfl rfl rfl (by decide) (by dsimp only [aput, List.set]) ?_
    refine h_pass rfl rfl rfl (by decide) (by dsimp only [aput, List.set]) ?_
    refine h_pass rfl rfl rfl (by decide) (by dsimp only [aput, List.set]) ?_
    refine h_op (a := .raw (.bool true)) rfl rfl rfl rfl (by dsimp only [aput, List.set]) ?_
    refine h_op (a := .raw (.bool true)) rfl rfl rfl rfl (by dsimp only [aput, List.set]) ?_
    refine h_pass rfl rfl rfl (by decide) (by dsimp only [aput, List.set]) ?_
    refine h_pass rfl rfl rfl (by decide) (by dsimp only [aput, List.set]) ?_
    refine h_pass rfl rfl rfl (by decide) (by dsimp only [aput, List.set]) ?_
    refine h_pass rfl rfl rfl (by decide) (by dsimp only [aput, List.set]) ?_
    refine h_op (a := .raw (.bool true)) rfl rfl rfl rfl (by dsimp only [aput, List.set]) ?_
    refine h_op (a := .raw (.bool true)) rfl rfl rfl rfl (by dsimp only [aput, List.set]) ?_
    refine h_pass rfl rfl rfl (by decide) (by dsimp only [aput, List.set]) ?_
    refine h_pass rfl rfl rfl (by decide) (by dsimp only [aput, List.set]) ?_
    refine h_pass rfl rfl rfl (by decide) (by dsimp only [aput, List.set]) ?_
    refine h_end ?_
    refine w_pass rfl rfl (by decide) (by dsimp only [aput, List.set]) ?_
    refine w_pass rfl rfl (by decide) (by dsimp only [aput, List.set]) ?_
    refine w_op (a := .raw (.bool true)) rfl rfl rfl rfl (by dsimp only [aput, List.set]) ?_
    refine w_true rfl ?_
    refine w_seq (w_region ?_)
    refine w_op (a := .raw (.bool false)) rfl rfl rfl rfl (by dsimp only [aput, List.set]) ?_
    exact end_pureF (fun (r : Bool) => (.raw (.bool r) : AV)) h (a := .raw (.bool false)) rfl rfl rfl
   ·
    refine h_op (a := .raw (.bool false)) rfl rfl rfl (q_bool rfl hc14) (by dsimp only [aput, List.set]) ?_
    refine h_met rfl rfl ?_
    refine h_op (a := .raw (.int .i64 x5.2)) rfl rfl rfl rfl (by dsimp only [aput, List.set]) ?_
    refine h_met rfl rfl ?_
    refine h_op (a := .raw (.int .i64 x4.2)) rfl rfl rfl rfl (by dsimp only [aput, List.set]) ?_
    refine h_met rfl rfl ?_
    refine h_op (a := .raw (.bool (x5.2 != x4.2))) rfl rfl rfl rfl (by dsimp only [aput, List.set]) ?_
    refine h_op (a := .raw (.bool (x5.2 != x4.2))) rfl rfl rfl rfl (by dsimp only [aput, List.set]) ?_
    refine bif_e h (fun hc15 h => ?_) (fun hc15 h => ?_)
    ·
     refine h_op (a := .raw (.bool true)) rfl rfl rfl (q_bool rfl hc15) (by dsimp only [aput, List.set]) ?_
     refine h_pass rfl rfl rfl (by decide) (by dsimp only [aput, List.set]) ?_
     refine h_pass rfl rfl rfl (by decide) (by dsimp only [aput, List.set]) ?_
     refine h_pass rfl rfl rfl (by decide) (by dsimp only [aput, List.set]) ?_
     refine h_pass rfl rfl rfl (by decide) (by dsimp only [aput, List.set]) ?_
     refine h_op (a := .raw (.bool true)) rfl rfl rfl rfl (by dsimp only [aput, List.set]) ?_
     refine h_op (a := .raw (.bool true)) rfl rfl rfl rfl (by dsimp only [aput, List.set]) ?_
     refine h_pass rfl rfl rfl (by decide) (by dsimp only [aput, List.set]) ?_
     refine h_pass rfl rfl rfl (by decide) (by dsimp only [aput, List.set]) ?_
     refine h_pass rfl rfl rfl (by decide) (by dsimp only [aput, List.set]) ?_
     refine h_end ?_
     refine w_pass rfl rfl (by decide) (by dsimp only [aput, List.set]) ?_
     refine w_pass rfl rfl (by decide) (by dsimp only [aput, List.set]) ?_
     refine w_op (a := .raw (.bool true)) rfl rfl rfl rfl (by dsimp only [aput, List.set]) ?_
     refine w_true rfl ?_
     refine w_seq (w_region ?_)
     refine w_op (a := .raw (.bool false)) rfl rfl rfl rfl (by dsimp only [aput, List.set]) ?_
     exact end_pureF (fun (r : Bool) => (.raw (.bool r) : AV)) h (a := .raw (.bool false)) rfl rfl rfl
    ·
     refine h_op (a := .raw (.bool false)) rfl rfl rfl (q_bool rfl hc15) (by dsimp only [aput, List.set]) ?_
     refine h_met rfl rfl ?_
     refine h_op (a := .agg [.bsl 3 0 (List.length (Trc.mk x1 t.e).l) 4 false, .raw (.int .u8 ((Trc.mk x1 t.e).e.k)), .raw (.int .i64 ((Trc.mk x1 t.e).e.c))]) rfl rfl rfl rfl (by dsimp only [aput, List.set]) ?_
     refine h_met rfl rfl ?_
     refine h_op (a := .agg (Enc.cells (x2 : Trc))) rfl rfl rfl rfl (by dsimp only [aput, List.set]) ?_
     refine h_met rfl rfl ?_
     obtain ⟨g4, h⟩ := chk_e h
     obtain ⟨x19, hx19, h⟩ := bindE_e h
     refine h_callf 1 (args' := [.agg (Enc.cells ((Trc.mk ((Trc.mk x1 t.e).l) (Ed.mk ((Trc.mk x1 t.e).e.k) ((Trc.mk x1 t.e).e.c))) : Trc)), .agg (Enc.cells (x2 : Trc))]) (r := .raw (.bool x19)) (lequal_sh fuel (Trc.mk ((Trc.mk x1 t.e).l) (Ed.mk ((Trc.mk x1 t.e).e.k) ((Trc.mk x1 t.e).e.c))) x2 x19 hx19) rfl rfl rfl (mapPtrL_cons' (mapPtr_agg' (mapPtrL_cons' (frz_bsl (α := En) (t := 41) (l := (Trc.mk x1 t.e).l) g4 rfl) (mapPtrL_cons' (mapPtr_clo' rfl) (mapPtrL_cons' (mapPtr_clo' rfl) mapPtrL_nil')))) (mapPtrL_cons' (mapPtr_clo' (clo_agg (Enc.clo _))) mapPtrL_nil')) rfl (by dsimp only [aput, List.set]) ?_
     refine h_met rfl rfl ?_
     refine h_op (a := .raw (.bool (!x19))) rfl rfl rfl rfl (by dsimp only [aput, List.set]) ?_
     refine h_op (a := .raw (.bool (!x19))) rfl rfl rfl rfl (by dsimp only [aput, List.set]) ?_
     refine bif_e h (fun hc16 h => ?_) (fun hc16 h => ?_)
     ·
      refine h_op (a := .raw (.bool true)) rfl rfl rfl (q_bool rfl hc16) (by dsimp only [aput, List.set]) ?_
      refine h_pass rfl rfl rfl (by decide) (by dsimp only [aput, List.set]) ?_
      refine h_pass rfl rfl rfl (by decide) (by dsimp only [aput, List.set]) ?_
      refine h_pass rfl rfl rfl (by decide) (by dsimp only [aput, List.set]) ?_
      refine h_end ?_
      refine w_pass rfl rfl (by decide) (by dsimp only [aput, List.set]) ?_
      refine w_pass rfl rfl (by decide) (by dsimp only [aput, List.set]) ?_
      refine w_op (a := .raw (.bool true)) rfl rfl rfl rfl (by dsimp only [aput, List.set]) ?_
      refine w_true rfl ?_
      refine w_seq (w_region ?_)
      refine w_op (a := .raw (.bool false)) rfl rfl rfl rfl (by dsimp only [aput, List.set]) ?_
      exact end_pureF (fun (r : Bool) => (.raw (.bool r) : AV)) h (a := .raw (.bool false)) rfl rfl rfl
     ·
      refine h_op (a := .raw (.bool false)) rfl rfl rfl (q_bool rfl hc16) (by dsimp only [aput, List.set]) ?_
      refine h_met rfl rfl ?_
      refine h_op (a := .agg (Enc.cells ((Trc.mk x1 t.e) : Trc))) rfl rfl rfl rfl (by dsimp only [aput, List.set]) ?_
      refine h_met rfl rfl ?_
      obtain ⟨x20, hx20, h⟩ := bindE_e h
      refine h_call (args' := [.agg (Enc.cells ((Trc.mk x1 t.e) : Trc))]) (r := .raw (.string (bs x20))) (sent_sh fuel (Trc.mk x1 t.e) x20 hx20) rfl rfl rfl (stripL_cons (strip_c (clo_agg (Enc.clo _))) rfl) (okTrimL_cons (okTrim_clo _ _ (clo_agg (Enc.clo _))) rfl) (by dsimp only [aput, List.set]) ?_
      refine h_met rfl rfl ?_
      refine h_op (a := .agg (Enc.cells (x2 : Trc))) rfl rfl rfl rfl (by dsimp only [aput, List.set]) ?_
      refine h_end ?_
      refine w_met rfl rfl ?_
      obtain ⟨x21, hx21, h⟩ := bindE_e h
      refine w_callc (args' := [.agg (Enc.cells (x2 : Trc))]) (r := .raw (.string (bs x21))) (rsent_sh fuel x2 x21 hx21) rfl rfl (stripL_cons (strip_c (clo_agg (Enc.clo _))) rfl) (okTrimL_cons (okTrim_clo _ _ (clo_agg (Enc.clo _))) rfl) (by dsimp only [aput, List.set]) ?_
      refine w_met rfl rfl ?_
      refine w_op (a := .raw (.bool (!(x20 == x21)))) rfl rfl rfl (op_q (q_strne rfl rfl rfl)) (by dsimp only [aput, List.set]) ?_
      refine w_op (a := .raw (.bool (!(x20 == x21)))) rfl rfl rfl rfl (by dsimp only [aput, List.set]) ?_
      refine bif_e h (fun hc17 h => ?_) (fun hc17 h => ?_)
      ·
       refine w_condT hc17 rfl ?_
       refine w_seq (w_region ?_)
       refine w_op (a := .raw (.bool false)) rfl rfl rfl rfl (by dsimp only [aput, List.set]) ?_
       exact end_pureF (fun (r : Bool) => (.raw (.bool r) : AV)) h (a := .raw (.bool false)) rfl rfl rfl
      ·
       refine w_condF hc17 rfl ?_
       refine w_cutF h [0, 1, 2, 5, 6, 7, 10, 11, 12, 13, 14, 15, 16, 17, 18, 19, 20, 21, 22, 23, 24, 25, 26, 27, 28, 29, 30, 31, 32, 33, 34, 35, 36, 37, 38, 39, 40, 41, 42, 43, 44, 45, 46, 47, 48, 49, 50, 51, 52, 53, 54, 55, 56, 57, 58, 59, 60, 61, 62, 63, 64, 65, 66, 67, 68, 69, 70, 71, 72, 73, 74, 75, 76, 77, 78, 79, 80, 81, 82, 83, 84, 85, 86, 87, 88, 89, 90, 91, 92, 93, 94, 95, 96, 97, 98, 99, 100, 101, 102, 103, 104, 105, 106, 107, 108, 109, 110, 111, 112, 113, 114, 115] (fun j3 => []) (fun j3 => ⟨[(27, (Enc.cells (t : Trc))), (27, (Enc.cells ((Trc.mk x1 t.e) : Trc))), (34, (Enc.cells (x2 : Trc))), (41, (Enc.cellsL (j3 : List En))), (27, [.bsl 3 0 (List.length (Trc.mk x1 t.e).l) 4 false, .raw (.int .u8 ((Trc.mk x1 t.e).e.k)), .raw (.int .i64 ((Trc.mk x1 t.e).e.c))])], [], [], 0, false⟩) ?_ ?_
       ·
        intro or3 h hr3
        refine w_seq (w_region ?_)
        refine w_op (a := .ptr 4 0) rfl rfl rfl rfl (by dsimp only [aput, List.set]) ?_
        refine w_op (a := .bsl 3 0 (List.length (Trc.mk x1 t.e).l) 4 false) rfl rfl rfl rfl (by dsimp only [aput, List.set]) ?_
        refine w_op (a := .raw (.int .i64 (((List.length (Trc.mk x1 t.e).l) : Nat) : Int))) rfl rfl rfl rfl (by dsimp only [aput, List.set]) ?_
        refine w_op (a := .raw (.int .i64 0)) rfl rfl rfl rfl (by dsimp only [aput, List.set]) ?_
        refine w_block ?_
        refine w_loopF h [0, 1, 2, 5, 6, 7, 10, 12, 13, 14, 15, 16, 17, 18, 19, 20, 21, 22, 23, 24, 25, 26, 27, 28, 29, 30, 31, 32, 33, 34, 35, 36, 37, 38, 39, 40, 41, 42, 43, 44, 45, 46, 47, 48, 49, 50, 51, 52, 53, 54, 55, 56, 57, 58, 59, 60, 61, 62, 63, 64, 65, 66, 67, 68, 69, 71, 72, 73, 74, 75, 76, 77, 78, 79, 80, 81, 82, 83, 84, 85, 86, 87, 88, 89, 90, 91, 92, 93, 94, 95, 96, 97, 98, 99, 100, 101, 102, 103, 104, 105, 106, 107, 108, 109, 110, 111, 112, 113, 114, 115] (fun s2 => [(71, .raw (.int .i64 s2.1))]) (fun s2 => ⟨[(27, (Enc.cells (t : Trc))), (27, (Enc.cells ((Trc.mk x1 t.e) : Trc))), (34, (Enc.cells (x2 : Trc))), (41, (Enc.cellsL (s2.2 : List En))), (27, [.bsl 3 0 (List.length (Trc.mk x1 t.e).l) 4 false, .raw (.int .u8 ((Trc.mk x1 t.e).e.k)), .raw (.int .i64 ((Trc.mk x1 t.e).e.c))])], [], [], 0, false⟩) ?_ ?_
        ·
         exact wm_of [false, false, false, true, true, false, false, false, true, true, false, true, false, false, false, false, false, false, false, false, false, false, false, false, false, false, false, false, false, false, false, false, false, false, false, false, false, false, false, false, false, false, false, false, false, false, false, false, false, false, false, false, false, false, false, false, false, false, false, false, false, false, false, false, false, false, false, false, false, false, true, true, false, false, false, false, false, false, false, false, false, false, false, false, false, false, false, false, false, false, false, false, false, false, false, false, false, false, false, false, false, false, false, false, false, false, false, false, false, false, false, false, false, false, false, false] (by kernel_rfl) (by kernel_rfl)
        ·
         intro s2 p2 h
         refine w_start (by dsimp only [setAll, topAll, List.foldl, List.set]) rfl ?_
         refine w_seq (w_region ?_)
         refine w_op (a := .raw (.bool (decide (s2.1 < (((List.length (Trc.mk x1 t.e).l) : Nat) : Int))))) rfl rfl rfl rfl (by dsimp only [aput, List.set]) ?_
         refine w_seq ?_
         refine bif_e h (fun hc18 h => ?_) (fun hc18 h => ?_)
         ·
          refine w_condT hc18 rfl ?_
          refine w_seq ?_
          refine w_block ?_
          refine w_seq (w_region ?_)
          refine w_op (a := .raw (.int .i64 s2.1)) rfl rfl rfl rfl (by dsimp only [aput, List.set]) ?_
          refine w_op (a := .raw (.int .i64 s2.1)) rfl rfl rfl rfl (by dsimp only [aput, List.set]) ?_
          refine w_region (k0 := 0) (id := 12) ?_
          refine w_op (a := .ptr 4 0) rfl rfl rfl rfl (by dsimp only [aput, List.set]) ?_
          refine w_op (a := .bsl 3 0 (List.length (Trc.mk x1 t.e).l) 4 false) rfl rfl rfl rfl (by dsimp only [aput, List.set]) ?_
          refine w_op (a := .raw (.int .i64 s2.1)) rfl rfl rfl rfl (by dsimp only [aput, List.set]) ?_
          obtain ⟨g5, h⟩ := chk_e h
          refine w_op (a := .ptr 3 (0 + Int.toNat s2.1 * 4)) rfl rfl rfl (op_q (q_idxB (α := En) g5 rfl rfl rfl rfl rfl)) (by dsimp only [aput, List.set]) ?_
          refine w_op (a := .ptr 3 (0 + Int.toNat s2.1 * 4 + 0)) rfl rfl rfl rfl (by dsimp only [aput, List.set]) ?_
          obtain ⟨g6, h⟩ := chk_e h
          obtain ⟨x22, hx22, h⟩ := letE_e h
          refine w_opm (σ'' := ⟨[(27, (Enc.cells (t : Trc))), (27, (Enc.cells ((Trc.mk x1 t.e) : Trc))), (34, (Enc.cells (x2 : Trc))), (41, (Enc.cellsL ((List.set s2.2 (Int.toNat s2.1) (En.mk 9 x22.fr x22.to x22.b)) : List En))), (27, [.bsl 3 0 (List.length (Trc.mk x1 t.e).l) 4 false, .raw (.int .u8 ((Trc.mk x1 t.e).e.k)), .raw (.int .i64 ((Trc.mk x1 t.e).e.c))])], [], [], 0, false⟩) rfl rfl rfl (op_storeB (α := En) (l := s2.2) (i := s2.1) (k := 0) (te := 41) (n := 1) (En.mk 9 x22.fr x22.to x22.b) g6 rfl rfl rfl rfl rfl rfl rfl (by decide) (by decide) (by rw [hx22]; rfl)) (by dsimp only [aput, List.set]) rfl ?_
          refine w_region (k0 := 0) (id := 13) ?_
          obtain ⟨g7, h⟩ := chk_e h
          refine w_op (a := .raw (.int .i64 (s2.1 + 1))) rfl rfl rfl (op_q (q_add rfl rfl rfl rfl g7.1 g7.2)) (by dsimp only [aput, List.set]) ?_
          refine w_op (a := .raw (.int .i64 (s2.1 + 1))) rfl rfl rfl rfl (by dsimp only [aput, List.set]) ?_
          refine loop_next (p := p2) ((s2.1 + 1), (List.set s2.2 (Int.toNat s2.1) (En.mk 9 x22.fr x22.to x22.b))) h ?_
          exact wm_of [false, false, false, true, true, false, false, false, true, true, false, true, false, false, false, false, false, false, false, false, false, false, false, false, false, false, false, false, false, false, false, false, false, false, false, false, false, false, false, false, false, false, false, false, false, false, false, false, false, false, false, false, false, false, false, false, false, false, false, false, false, false, false, false, false, false, false, false, false, false, true, true, false, false, false, false, false, false, false, false, false, false, false, false, false, false, false, false, false, false, false, false, false, false, false, false, false, false, false, false, false, false, false, false, false, false, false, false, false, false, false, false, false, false, false, false] (by kernel_rfl) (by kernel_rfl)
         ·
          refine w_condF hc18 rfl ?_
          refine loop_exit h (fun h => ?_)
          refine cut_done (o := or3) (s2.2) h ?_
          exact wm_of [false, false, false, true, true, false, false, false, true, true, false, false, false, false, false, false, false, false, false, false, false, false, false, false, false, false, false, false, false, false, false, false, false, false, false, false, false, false, false, false, false, false, false, false, false, false, false, false, false, false, false, false, false, false, false, false, false, false, false, false, false, false, false, false, false, false, false, false, false, false, false, false, false, false, false, false, false, false, false, false, false, false, false, false, false, false, false, false, false, false, false, false, false, false, false, false, false, false, false, false, false, false, false, false, false, false, false, false, false, false, false, false, false, false, false, false] (by kernel_rfl) (by kernel_rfl)
       ·
        intro j3 h
        refine w_start (by dsimp only [setAll, topAll, List.foldl, List.set]) rfl ?_
        refine w_seq ?_
        refine w_seq (w_region ?_)
        refine w_op (a := .agg (Enc.cells ((Trc.mk x1 t.e) : Trc))) rfl rfl rfl rfl (by dsimp only [aput, List.set]) ?_
        refine w_op (a := .agg (Enc.cells (x2 : Trc))) rfl rfl rfl rfl (by dsimp only [aput, List.set]) ?_
        obtain ⟨x23, hx23, h⟩ := bindE_e h
        refine w_callc (args' := [.agg (Enc.cells ((Trc.mk x1 t.e) : Trc)), .agg (Enc.cells (x2 : Trc))]) (r := .raw (.bool x23)) (lequal_sh fuel (Trc.mk x1 t.e) x2 x23 hx23) rfl rfl (stripL_cons (strip_c (clo_agg (Enc.clo _))) (stripL_cons (strip_c (clo_agg (Enc.clo _))) rfl)) (okTrimL_cons (okTrim_clo _ _ (clo_agg (Enc.clo _))) (okTrimL_cons (okTrim_clo _ _ (clo_agg (Enc.clo _))) rfl)) (by dsimp only [aput, List.set]) ?_
        refine w_op (a := .raw (.bool (!x23))) rfl rfl rfl rfl (by dsimp only [aput, List.set]) ?_
        refine bif_e h (fun hc19 h => ?_) (fun hc19 h => ?_)
        ·
         refine w_condT hc19 rfl ?_
         refine w_seq (w_region ?_)
         refine w_op (a := .raw (.bool false)) rfl rfl rfl rfl (by dsimp only [aput, List.set]) ?_
         exact end_pureF (fun (r : Bool) => (.raw (.bool r) : AV)) h (a := .raw (.bool false)) rfl rfl rfl
        ·
         refine w_condF hc19 rfl ?_
         refine w_seq (w_region ?_)
         refine w_op (a := .raw (.int .i64 0)) rfl rfl rfl rfl (by dsimp only [aput, List.set]) ?_
         refine w_op (a := .raw (.int .i64 0)) rfl rfl rfl rfl (by dsimp only [aput, List.set]) ?_
         refine w_op (a := .raw (.int .i64 0)) rfl rfl rfl rfl (by dsimp only [aput, List.set]) ?_
         refine w_op (a := .raw (.string (bs ([] : List UInt8)))) rfl rfl rfl rfl (by dsimp only [aput, List.set]) ?_
         refine w_cutF h [4, 8, 13, 14, 15, 16, 80, 81, 82, 83, 84, 85, 86, 87, 88, 89, 90, 91, 92, 93, 94] (fun j4 => [(13, .raw (.int .i64 j4.1)), (14, .raw (.int .i64 j4.2.1)), (15, .raw (.int .i64 j4.2.2.1)), (16, .raw (.string (bs j4.2.2.2)))]) (fun j4 => ⟨[(27, (Enc.cells (t : Trc))), (27, (Enc.cells ((Trc.mk x1 t.e) : Trc))), (34, (Enc.cells (x2 : Trc))), (41, (Enc.cellsL (j3 : List En))), (27, [.bsl 3 0 (List.length (Trc.mk x1 t.e).l) 4 false, .raw (.int .u8 ((Trc.mk x1 t.e).e.k)), .raw (.int .i64 ((Trc.mk x1 t.e).e.c))])], [], [], 0, false⟩) ?_ ?_
         ·
          intro or4 h hr4
          refine w_seq (w_region ?_)
          refine w_op (a := .raw (.int .i64 x4.2)) rfl rfl rfl rfl (by dsimp only [aput, List.set]) ?_
          refine w_op (a := .raw (.bool (x4.2 == 0))) rfl rfl rfl rfl (by dsimp only [aput, List.set]) ?_
          refine bif_e h (fun hc20 h => ?_) (fun hc20 h => ?_)
          ·
           refine w_condT hc20 rfl ?_
           refine w_draw (k0 := 0) (id := 18) 8 (by kernel_rfl) (by kernel_rfl) ?_
           refine h_op (a := .agg (Enc.cells (x2 : Trc))) rfl rfl rfl rfl (by dsimp only [aput, List.set]) ?_
           obtain ⟨x24, hx24, h⟩ := bindE_e h
           refine h_call (args' := [.agg (Enc.cells (x2 : Trc)), .raw (.int .u8 2)]) (r := .raw (.int .i64 x24)) (rsum_sh fuel x2 2 x24 hx24) rfl rfl rfl (stripL_cons (strip_c (clo_agg (Enc.clo _))) (stripL_cons rfl rfl)) (okTrimL_cons (okTrim_clo _ _ (clo_agg (Enc.clo _))) (okTrimL_cons rfl rfl)) (by dsimp only [aput, List.set]) ?_
           refine h_op (a := .agg (Enc.cells (x2 : Trc))) rfl rfl rfl rfl (by dsimp only [aput, List.set]) ?_
           obtain ⟨x25, hx25, h⟩ := bindE_e h
           refine h_call (args' := [.agg (Enc.cells (x2 : Trc)), .raw (.int .u8 3)]) (r := .raw (.int .i64 x25)) (rsum_sh fuel x2 3 x25 hx25) rfl rfl rfl (stripL_cons (strip_c (clo_agg (Enc.clo _))) (stripL_cons rfl rfl)) (okTrimL_cons (okTrim_clo _ _ (clo_agg (Enc.clo _))) (okTrimL_cons rfl rfl)) (by dsimp only [aput, List.set]) ?_
           refine h_op (a := .ptr 2 0) rfl rfl rfl rfl (by dsimp only [aput, List.set]) ?_
           refine h_op (a := .list (List.length (x2.l : List En)) (Enc.cellsL (x2.l : List En)) .none) rfl rfl rfl rfl (by dsimp only [aput, List.set]) ?_
           obtain ⟨x26, hx26, h⟩ := bindE_e h
           refine h_call (args' := [.list (List.length (x2.l : List En)) (Enc.cellsL (x2.l : List En)) .none]) (r := .raw (.int .i64 x26)) (rat_sh fuel x2.l x26 hx26) rfl rfl rfl (stripL_cons (strip_l (Enc.cloL _)) rfl) (okTrimL_cons (okTrim_l (Enc.cloL _)) rfl) (by dsimp only [aput, List.set]) ?_
           refine h_op (a := .agg (Enc.cells (x2 : Trc))) rfl rfl rfl rfl (by dsimp only [aput, List.set]) ?_
           refine h_end ?_
           obtain ⟨x27, hx27, h⟩ := bindE_e h
           refine w_callc (args' := [.agg (Enc.cells (x2 : Trc))]) (r := .raw (.string (bs x27))) (rwrite_sh fuel x2 x27 hx27) rfl rfl (stripL_cons (strip_c (clo_agg (Enc.clo _))) rfl) (okTrimL_cons (okTrim_clo _ _ (clo_agg (Enc.clo _))) rfl) (by dsimp only [aput, List.set]) ?_
           refine w_op (a := .raw (.int .i64 x24)) rfl rfl rfl rfl (by dsimp only [aput, List.set]) ?_
           refine w_op (a := .raw (.int .i64 x25)) rfl rfl rfl rfl (by dsimp only [aput, List.set]) ?_
           refine w_op (a := .raw (.int .i64 x26)) rfl rfl rfl rfl (by dsimp only [aput, List.set]) ?_
           refine w_op (a := .raw (.string (bs x27))) rfl rfl rfl rfl (by dsimp only [aput, List.set]) ?_
           refine cut_done (o := or4) (x24, x25, x26, x27) h ?_
           exact wm_of [true, true, true, true, false, true, true, true, false, true, true, true, true, true, true, true, true, true, true, true, true, true, true, true, true, true, true, true, true, true, true, true, true, true, true, true, true, true, true, true, true, true, true, true, true, true, true, true, true, true, true, true, true, true, true, true, true, true, true, true, true, true, true, true, true, true, true, true, true, true, true, true, true, true, true, true, true, true, true, true, false, false, false, false, false, false, false, false, false, false, false, false, false, false, false, true, true, true, true, true, true, true, true, true, true, true, true, true, true, true, true, true, true, true, true, true] (by kernel_rfl) (by kernel_rfl)
          ·
           refine w_condF hc20 rfl ?_
           refine cut_done (o := or4) (0, 0, 0, ([] : List UInt8)) h ?_
           exact wm_of [true, true, true, true, false, true, true, true, false, true, true, true, true, true, true, true, true, true, true, true, true, true, true, true, true, true, true, true, true, true, true, true, true, true, true, true, true, true, true, true, true, true, true, true, true, true, true, true, true, true, true, true, true, true, true, true, true, true, true, true, true, true, true, true, true, true, true, true, true, true, true, true, true, true, true, true, true, true, true, true, false, false, false, false, false, false, false, false, false, false, false, false, false, false, false, true, true, true, true, true, true, true, true, true, true, true, true, true, true, true, true, true, true, true, true, true] (by kernel_rfl) (by kernel_rfl)
         ·
          intro j4 h
          refine w_start (by dsimp only [setAll, topAll, List.foldl, List.set]) rfl ?_
          refine w_seq (w_region ?_)
          refine w_op (a := .agg (Enc.cells ((Trc.mk x1 t.e) : Trc))) rfl rfl rfl rfl (by dsimp only [aput, List.set]) ?_
          obtain ⟨x28, hx28, h⟩ := bindE_e h
          refine w_callc (args' := [.agg (Enc.cells ((Trc.mk x1 t.e) : Trc))]) (r := .raw (.int .i64 x28)) (taken_sh fuel (Trc.mk x1 t.e) x28 hx28) rfl rfl (stripL_cons (strip_c (clo_agg (Enc.clo _))) rfl) (okTrimL_cons (okTrim_clo _ _ (clo_agg (Enc.clo _))) rfl) (by dsimp only [aput, List.set]) ?_
          refine w_op (a := .raw (.int .i64 j4.1)) rfl rfl rfl rfl (by dsimp only [aput, List.set]) ?_
          refine w_op (a := .raw (.bool (x28 == j4.1))) rfl rfl rfl rfl (by dsimp only [aput, List.set]) ?_
          refine bif_e h (fun hc21 h => ?_) (fun hc21 h => ?_)
          ·
           refine w_op (a := .raw (.bool true)) rfl rfl rfl (op_q (q_bool rfl hc21)) (by dsimp only [aput, List.set]) ?_
           refine w_met rfl rfl ?_
           refine w_op (a := .agg (Enc.cells ((Trc.mk x1 t.e) : Trc))) rfl rfl rfl rfl (by dsimp only [aput, List.set]) ?_
           refine w_met rfl rfl ?_
           obtain ⟨x29, hx29, h⟩ := bindE_e h
           refine w_callc (args' := [.agg (Enc.cells ((Trc.mk x1 t.e) : Trc))]) (r := .raw (.int .i64 x29)) (lost_sh fuel (Trc.mk x1 t.e) x29 hx29) rfl rfl (stripL_cons (strip_c (clo_agg (Enc.clo _))) rfl) (okTrimL_cons (okTrim_clo _ _ (clo_agg (Enc.clo _))) rfl) (by dsimp only [aput, List.set]) ?_
           refine w_met rfl rfl ?_
           refine w_op (a := .raw (.int .i64 j4.2.1)) rfl rfl rfl rfl (by dsimp only [aput, List.set]) ?_
           refine w_met rfl rfl ?_
           refine w_op (a := .raw (.bool (x29 == j4.2.1))) rfl rfl rfl rfl (by dsimp only [aput, List.set]) ?_
           refine w_op (a := .raw (.bool (x29 == j4.2.1))) rfl rfl rfl rfl (by dsimp only [aput, List.set]) ?_
           refine bif_e h (fun hc22 h => ?_) (fun hc22 h => ?_)
           ·
            refine w_op (a := .raw (.bool true)) rfl rfl rfl (op_q (q_bool rfl hc22)) (by dsimp only [aput, List.set]) ?_
            refine w_met rfl rfl ?_
            refine w_op (a := .agg (Enc.cells ((Trc.mk x1 t.e) : Trc))) rfl rfl rfl rfl (by dsimp only [aput, List.set]) ?_
            refine w_met rfl rfl ?_
            obtain ⟨x30, hx30, h⟩ := bindE_e h
            refine w_callc (args' := [.agg (Enc.cells ((Trc.mk x1 t.e) : Trc))]) (r := .raw (.int .i64 x30)) (at_sh fuel (Trc.mk x1 t.e) x30 hx30) rfl rfl (stripL_cons (strip_c (clo_agg (Enc.clo _))) rfl) (okTrimL_cons (okTrim_clo _ _ (clo_agg (Enc.clo _))) rfl) (by dsimp only [aput, List.set]) ?_
            refine w_met rfl rfl ?_
            refine w_op (a := .raw (.int .i64 j4.2.2.1)) rfl rfl rfl rfl (by dsimp only [aput, List.set]) ?_
            refine w_met rfl rfl ?_
            refine w_op (a := .raw (.bool (x30 == j4.2.2.1))) rfl rfl rfl rfl (by dsimp only [aput, List.set]) ?_
            refine w_op (a := .raw (.bool (x30 == j4.2.2.1))) rfl rfl rfl rfl (by dsimp only [aput, List.set]) ?_
            refine bif_e h (fun hc23 h => ?_) (fun hc23 h => ?_)
            ·
             refine w_op (a := .raw (.bool true)) rfl rfl rfl (op_q (q_bool rfl hc23)) (by dsimp only [aput, List.set]) ?_
             refine w_met rfl rfl ?_
             refine w_op (a := .raw (.string (bs x5.1))) rfl rfl rfl rfl (by dsimp only [aput, List.set]) ?_
             refine w_met rfl rfl ?_
             refine w_op (a := .raw (.string (bs j4.2.2.2))) rfl rfl rfl rfl (by dsimp only [aput, List.set]) ?_
             refine w_met rfl rfl ?_
             refine w_op (a := .raw (.bool (x5.1 == j4.2.2.2))) rfl rfl rfl (op_q (q_streq rfl rfl rfl)) (by dsimp only [aput, List.set]) ?_
             refine w_op (a := .raw (.bool (x5.1 == j4.2.2.2))) rfl rfl rfl rfl (by dsimp only [aput, List.set]) ?_
             refine w_op (a := .raw (.bool (x5.1 == j4.2.2.2))) rfl rfl rfl rfl (by dsimp only [aput, List.set]) ?_
             exact end_pureF (fun (r : Bool) => (.raw (.bool r) : AV)) h (a := .raw (.bool (x5.1 == j4.2.2.2))) rfl rfl rfl
            ·
             refine w_op (a := .raw (.bool false)) rfl rfl rfl (op_q (q_bool rfl hc23)) (by dsimp only [aput, List.set]) ?_
             refine w_pass rfl rfl (by decide) (by dsimp only [aput, List.set]) ?_
             refine w_pass rfl rfl (by decide) (by dsimp only [aput, List.set]) ?_
             refine w_pass rfl rfl (by decide) (by dsimp only [aput, List.set]) ?_
             refine w_op (a := .raw (.bool false)) rfl rfl rfl rfl (by dsimp only [aput, List.set]) ?_
             refine w_op (a := .raw (.bool false)) rfl rfl rfl rfl (by dsimp only [aput, List.set]) ?_
             exact end_pureF (fun (r : Bool) => (.raw (.bool r) : AV)) h (a := .raw (.bool false)) rfl rfl rfl
           ·
            refine w_op (a := .raw (.bool false)) rfl rfl rfl (op_q (q_bool rfl hc22)) (by dsimp only [aput, List.set]) ?_
            refine w_pass rfl rfl (by decide) (by dsimp only [aput, List.set]) ?_
            refine w_pass rfl rfl (by decide) (by dsimp only [aput, List.set]) ?_
            refine w_pass rfl rfl (by decide) (by dsimp only [aput, List.set]) ?_
            refine w_pass rfl rfl (by decide) (by dsimp only [aput, List.set]) ?_
            refine w_op (a := .raw (.bool false)) rfl rfl rfl rfl (by dsimp only [aput, List.set]) ?_
            refine w_op (a := .raw (.bool false)) rfl rfl rfl rfl (by dsimp only [aput, List.set]) ?_
            refine w_pass rfl rfl (by decide) (by dsimp only [aput, List.set]) ?_
            refine w_pass rfl rfl (by decide) (by dsimp only [aput, List.set]) ?_
            refine w_pass rfl rfl (by decide) (by dsimp only [aput, List.set]) ?_
            refine w_op (a := .raw (.bool false)) rfl rfl rfl rfl (by dsimp only [aput, List.set]) ?_
            refine w_op (a := .raw (.bool false)) rfl rfl rfl rfl (by dsimp only [aput, List.set]) ?_
            exact end_pureF (fun (r : Bool) => (.raw (.bool r) : AV)) h (a := .raw (.bool false)) rfl rfl rfl
          ·
           refine w_op (a := .raw (.bool false)) rfl rfl rfl (op_q (q_bool rfl hc21)) (by dsimp only [aput, List.set]) ?_
           refine w_pass rfl rfl (by decide) (by dsimp only [aput, List.set]) ?_
           refine w_pass rfl rfl (by decide) (by dsimp only [aput, List.set]) ?_
           refine w_pass rfl rfl (by decide) (by dsimp only [aput, List.set]) ?_
           refine w_pass rfl rfl (by decide) (by dsimp only [aput, List.set]) ?_
           refine w_op (a := .raw (.bool false)) rfl rfl rfl rfl (by dsimp only [aput, List.set]) ?_
           refine w_op (a := .raw (.bool false)) rfl rfl rfl rfl (by dsimp only [aput, List.set]) ?_
           refine w_pass rfl rfl (by decide) (by dsimp only [aput, List.set]) ?_
           refine w_pass rfl rfl (by decide) (by dsimp only [aput, List.set]) ?_
           refine w_pass rfl rfl (by decide) (by dsimp only [aput, List.set]) ?_
           refine w_pass rfl rfl (by decide) (by dsimp only [aput, List.set]) ?_
           refine w_op (a := .raw (.bool false)) rfl rfl rfl rfl (by dsimp only [aput, List.set]) ?_
           refine w_op (a := .raw (.bool false)) rfl rfl rfl rfl (by dsimp only [aput, List.set]) ?_
           refine w_pass rfl rfl (by decide) (by dsimp only [aput, List.set]) ?_
           refine w_pass rfl rfl (by decide) (by dsimp only [aput, List.set]) ?_
           refine w_pass rfl rfl (by decide) (by dsimp only [aput, List.set]) ?_
           refine w_op (a := .raw (.bool false)) rfl rfl rfl rfl (by dsimp only [aput, List.set]) ?_
           refine w_op (a := .raw (.bool false)) rfl rfl rfl rfl (by dsimp only [aput, List.set]) ?_
           exact end_pureF (fun (r : Bool) => (.raw (.bool r) : AV)) h (a := .raw (.bool false)) rfl rfl rfl
def F_tracetells (fuel : Nat) (t : Trc) : Option Bool :=
  (bindE (F_few fuel t) (fun x1 => (bif (!x1) then (some true) else (bindE (F_tells fuel t) (fun x2 => (bif x2 then (some true) else (some false)))))))
theorem ent4 : Ent Tryz.prog 4 := enters_of Tryz.func4 (by kernel_rfl) rfl
set_option maxRecDepth 100000 in
set_option maxHeartbeats 4000000 in
theorem tracetells_sh (fuel : Nat) (t : Trc) (r : Bool) (h : F_tracetells fuel t = some r) : Pure (ITP Tryz.prog) Tryz.prog 4 [.agg (Enc.cells (t : Trc))] (.raw (.bool r)) := by
 obtain ⟨d, hd⟩ : ∃ d, Tryz.f4.body = some d := ⟨_, rfl⟩
 refine pure_of mix Tryz.func4 hd ent4 ?_
 cases hd
 unfold F_tracetells at h
 refine w_start (by dsimp only [abeginS, Tryz.f4, List.length_cons, List.length_nil, Nat.zero_add, Nat.reduceAdd, Nat.reduceSub, List.replicate, List.cons_append, List.nil_append]) (by dsimp only [St.empty]) ?_
 refine w_seq (w_region ?_)
 refine w_opm (a := .ptr 0 0) (σ'' := ⟨[(27, (Enc.cells (t : Trc)))], [], [], 0, false⟩) rfl rfl rfl rfl (by dsimp only [aput, List.set]) rfl ?_
 refine w_op (a := .raw (.bool false)) rfl rfl rfl rfl (by dsimp only [aput, List.set]) ?_
 refine w_seq (w_region ?_)
 refine w_op (a := .agg (Enc.cells (t : Trc))) rfl rfl rfl rfl (by dsimp only [aput, List.set]) ?_
 obtain ⟨x1, hx1, h⟩ := bindE_e h
 refine w_callc (args' := [.agg (Enc.cells (t : Trc))]) (r := .raw (.bool x1)) (few_sh fuel t x1 hx1) rfl rfl (stripL_cons (strip_c (clo_agg (Enc.clo _))) rfl) (okTrimL_cons (okTrim_clo _ _ (clo_agg (Enc.clo _))) rfl) (by dsimp only [aput, List.set]) ?_
 refine w_op (a := .raw (.bool (!x1))) rfl rfl rfl rfl (by dsimp only [aput, List.set]) ?_
 refine bif_e h (fun hc1 h => ?_) (fun hc1 h => ?_)
 ·
  refine w_op (a := .raw (.bool true)) rfl rfl rfl (op_q (q_bool rfl hc1)) (by dsimp only [aput, List.set]) ?_
  refine w_pass rfl rfl (by decide) (by dsimp only [aput, List.set]) ?_
  refine w_pass rfl rfl (by decide) (by dsimp only [aput, List.set]) ?_
  refine w_op (a := .raw (.bool true)) rfl rfl rfl rfl (by dsimp only [aput, List.set]) ?_
  refine w_op (a := .raw (.bool true)) rfl rfl rfl rfl (by dsimp only [aput, List.set]) ?_
  refine w_met rfl rfl ?_
  refine w_callc (args' := []) (r := .raw (.bool true)) awake_pure rfl rfl rfl rfl (by dsimp only [aput, List.set]) ?_
  refine w_op (a := .raw (.bool true)) rfl rfl rfl rfl (by dsimp only [aput, List.set]) ?_
  refine w_op (a := .raw (.bool true)) rfl rfl rfl rfl (by dsimp only [aput, List.set]) ?_
  exact end_pureF (fun (r : Bool) => (.raw (.bool r) : AV)) h (a := .raw (.bool true)) rfl rfl rfl
 ·
  refine w_op (a := .raw (.bool false)) rfl rfl rfl (op_q (q_bool rfl hc1)) (by dsimp only [aput, List.set]) ?_
  refine w_met rfl rfl ?_
  refine w_op (a := .agg (Enc.cells (t : Trc))) rfl rfl rfl rfl (by dsimp only [aput, List.set]) ?_
  refine w_met rfl rfl ?_
  obtain ⟨x2, hx2, h⟩ := bindE_e h
  refine w_callc (args' := [.agg (Enc.cells (t : Trc))]) (r := .raw (.bool x2)) (tells_sh fuel t x2 hx2) rfl rfl (stripL_cons (strip_c (clo_agg (Enc.clo _))) rfl) (okTrimL_cons (okTrim_clo _ _ (clo_agg (Enc.clo _))) rfl) (by dsimp only [aput, List.set]) ?_
  refine w_op (a := .raw (.bool x2)) rfl rfl rfl rfl (by dsimp only [aput, List.set]) ?_
  refine bif_e h (fun hc2 h => ?_) (fun hc2 h => ?_)
  ·
   refine w_op (a := .raw (.bool true)) rfl rfl rfl (op_q (q_bool rfl hc2)) (by dsimp only [aput, List.set]) ?_
   refine w_met rfl rfl ?_
   refine w_callc (args' := []) (r := .raw (.bool true)) awake_pure rfl rfl rfl rfl (by dsimp only [aput, List.set]) ?_
   refine w_op (a := .raw (.bool true)) rfl rfl rfl rfl (by dsimp only [aput, List.set]) ?_
   refine w_op (a := .raw (.bool true)) rfl rfl rfl rfl (by dsimp only [aput, List.set]) ?_
   exact end_pureF (fun (r : Bool) => (.raw (.bool r) : AV)) h (a := .raw (.bool true)) rfl rfl rfl
  ·
   refine w_op (a := .raw (.bool false)) rfl rfl rfl (op_q (q_bool rfl hc2)) (by dsimp only [aput, List.set]) ?_
   refine w_pass rfl rfl (by decide) (by dsimp only [aput, List.set]) ?_
   refine w_op (a := .raw (.bool false)) rfl rfl rfl rfl (by dsimp only [aput, List.set]) ?_
   refine w_op (a := .raw (.bool false)) rfl rfl rfl rfl (by dsimp only [aput, List.set]) ?_
   exact end_pureF (fun (r : Bool) => (.raw (.bool r) : AV)) h (a := .raw (.bool false)) rfl rfl rfl
end Go.Ab

