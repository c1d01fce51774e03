/-
  trace: TraceDiffers.
-/
import Derived.Test.YtcdmdnadilafhaaDoorZtW5
import Derived.Test.YtcdmdnadilafhaaDoorZtW3
set_option linter.unusedSimpArgs false
set_option linter.unusedVariables false
namespace Go.Ab
open Go Go.RowKit Go.Fwd Go.Proofs
theorem F_copys_eq (t : Trc) (g : List.length t.l * 40 ≤ 140737488355328) : F_copys t = some () := chk_i g rfl
theorem copy_cons (t : Trc) (h0 : 0 < t.l.length) (g : List.length t.l * 40 ≤ 140737488355328) (n : Nat) (σ : St) (hσ : σ.boxes.length = n) : Snd (ITP Tryd.prog) Tryd.prog 25 [.agg (Enc.cells t)] σ (.agg [.bsl n 0 (List.length t.l) 4 false, .raw (.int .u8 t.e.k), .raw (.int .i64 t.e.c)]) { σ with boxes := σ.boxes ++ [(43, Enc.cellsL t.l)] } := by
  subst hσ
  have h := snd_lift (itp_mono _) (copys_s0 t h0 (F_copys_eq t g)) (args := [.agg (Enc.cells t)]) (by rw [stripL, strip_c (clo_agg (Enc.clo t))]; rfl) (by rw [okTrimL, okTrim_clo _ _ (clo_agg (Enc.clo t))]; rfl) σ
  simpa [mapK, mapKL, shz, shBoxes, mapKL_clo _ _ _ (Enc.cloL t.l)] using h
def F_tracediffers (fuel : Nat) (l : (List Sme)) (en : Int) (code : Int) (at0 : Int) (how : Int) : Option Bool :=
  (bindE (F_made fuel l en code) (fun x1 => (bif ((List.length x1.l : Int) == 0) then (bindE (F_copy x1) (fun x2 => (bindE (F_same fuel x2 x1) (fun x3 => (bif (!x3) then (bindE (F_same fuel x2 x1) (fun x4 => (bif x4 then (some true) else (some false)))) else (bindE (F_same fuel x2 x1) (fun x5 => (bif x5 then (some true) else (some false))))))))) else (chk (List.length x1.l * 40 ≤ 140737488355328) (bindE (F_same fuel (Trc.mk x1.l (Ed.mk x1.e.k x1.e.c)) x1) (fun x6 => (bif (!x6) then (bindE (F_same fuel (Trc.mk x1.l (Ed.mk x1.e.k x1.e.c)) x1) (fun x7 => (bif x7 then (some true) else (some false)))) else (chk (-9223372036854775808 ≤ at0 ∧ at0 < 9223372036854775808) (chk ((0 ≤ at0 ∧ at0 < 9223372036854775808) ∧ 0 < (List.length x1.l : Int)) (cutE (τ := Int × Trc) (bif ((Int.tmod how 4) == 0) then (chk (0 ≤ (Int.tmod at0 (List.length x1.l : Int)) ∧ (Int.tmod at0 (List.length x1.l : Int)) < (((List.length x1.l) : Nat) : Int)) (chk (0 ≤ (Int.tmod at0 (List.length x1.l : Int)) ∧ (Int.tmod at0 (List.length x1.l : Int)) < (List.length x1.l : Int)) (letE (ix x1.l (Int.tmod at0 (List.length x1.l : Int))) (fun x8 => (chk (List.length x8.b + List.length ([120] : List UInt8) ≤ 9223372036854775807) (chk (0 ≤ (Int.tmod at0 (List.length x1.l : Int)) ∧ (Int.tmod at0 (List.length x1.l : Int)) < (((List.length x1.l) : Nat) : Int)) (chk (0 ≤ (Int.tmod at0 (List.length x1.l : Int)) ∧ (Int.tmod at0 (List.length x1.l : Int)) < (List.length x1.l : Int)) (letE (ix x1.l (Int.tmod at0 (List.length x1.l : Int))) (fun x9 => (chk (List.length (List.set x1.l (Int.toNat (Int.tmod at0 (List.length x1.l : Int))) (En.mk x9.k x9.fr x9.to (x8.b ++ ([120] : List UInt8)))) = (List.length x1.l)) (some (Sum.inl ((Int.tmod at0 (List.length x1.l : Int)), (Trc.mk (List.set x1.l (Int.toNat (Int.tmod at0 (List.length x1.l : Int))) (En.mk x9.k x9.fr x9.to (x8.b ++ ([120] : List UInt8)))) (Ed.mk x1.e.k x1.e.c))))))))))))))) else (bif ((Int.tmod how 4) == 1) then (chk (0 ≤ (Int.tmod at0 (List.length x1.l : Int)) ∧ (Int.tmod at0 (List.length x1.l : Int)) < (((List.length x1.l) : Nat) : Int)) (chk (0 ≤ (Int.tmod at0 (List.length x1.l : Int)) ∧ (Int.tmod at0 (List.length x1.l : Int)) < (List.length x1.l : Int)) (letE (ix x1.l (Int.tmod at0 (List.length x1.l : Int))) (fun x10 => (chk (0 ≤ (Int.tmod at0 (List.length x1.l : Int)) ∧ (Int.tmod at0 (List.length x1.l : Int)) < (((List.length x1.l) : Nat) : Int)) (chk (0 ≤ (Int.tmod at0 (List.length x1.l : Int)) ∧ (Int.tmod at0 (List.length x1.l : Int)) < (List.length x1.l : Int)) (letE (ix x1.l (Int.tmod at0 (List.length x1.l : Int))) (fun x11 => (chk (List.length (List.set x1.l (Int.toNat (Int.tmod at0 (List.length x1.l : Int))) (En.mk (IntKind.u8.wrap (1 + (Int.tmod x10.k 3))) x11.fr x11.to x11.b)) = (List.length x1.l)) (some (Sum.inl ((Int.tmod at0 (List.length x1.l : Int)), (Trc.mk (List.set x1.l (Int.toNat (Int.tmod at0 (List.length x1.l : Int))) (En.mk (IntKind.u8.wrap (1 + (Int.tmod x10.k 3))) x11.fr x11.to x11.b)) (Ed.mk x1.e.k x1.e.c)))))))))))))) else (bif ((Int.tmod how 4) == 2) then (chk (List.length x1.l = (List.length x1.l) ∧ 0 < (List.length x1.l) ∧ 0 < List.length [(En.mk 1 0 0 [])] ∧ ((List.length x1.l) + List.length [(En.mk 1 0 0 [])]) * 40 ≤ 140737488355328) (chk (List.length (x1.l ++ [(En.mk 1 0 0 [])]) = ((List.length x1.l) + List.length [(En.mk 1 0 0 [])])) (some (Sum.inl ((List.length x1.l : Int), (Trc.mk (x1.l ++ [(En.mk 1 0 0 [])]) (Ed.mk x1.e.k x1.e.c))))))) else (bif ((Int.tmod how 4) == 3) then (chk (-9223372036854775808 ≤ (x1.e.c + 1) ∧ (x1.e.c + 1) < 9223372036854775808) (some (Sum.inl ((List.length x1.l : Int), (Trc.mk x1.l (Ed.mk x1.e.k (x1.e.c + 1))))))) else (some (Sum.inl ((Int.tmod at0 (List.length x1.l : Int)), (Trc.mk x1.l (Ed.mk x1.e.k x1.e.c))))))))) (fun j1 => (bindE (F_differ fuel x1 j1.2) (fun x12 => (bindE (F_differ fuel j1.2 x1) (fun x13 => (bindE (F_differ fuel x1 x1) (fun x14 => (bif x12.2 then (bif x13.2 then (bif (!x14.2) then (bif (x12.1 == j1.1) then (bif (x13.1 == j1.1) then (bif (x14.1 == 0) then (bindE (F_same fuel x1 j1.2) (fun x15 => (bif (!x15) then (some true) else (some false)))) else (some false)) else (some false)) else (some false)) else (some false)) else (some false)) else (some false)))))))))))))))))))
theorem ent7 : Ent Tryd.prog 7 := enters_of Tryd.func7 (by kernel_rfl) rfl
set_option maxRecDepth 100000 in
set_option maxHeartbeats 16000000 in
theorem tracediffers_sh (fuel : Nat) (l : (List Sme)) (en : Int) (code : Int) (at0 : Int) (how : Int) (r : Bool) (h : F_tracediffers fuel l en code at0 how = some r) : Pure (ITP Tryd.prog) Tryd.prog 7 [.list (List.length (l : List Sme)) (Enc.cellsL (l : List Sme)) .none, .raw (.int .u8 en), .raw (.int .u8 code), .raw (.int .u8 at0), .raw (.int .u8 how)] (.raw (.bool r)) := by
 obtain ⟨d, hd⟩ : ∃ d, Tryd.f7.body = some d := ⟨_, rfl⟩
 refine pure_of mix Tryd.func7 hd ent7 ?_
 cases hd
 unfold F_tracediffers at h
 refine w_start (by dsimp only [abeginS, Tryd.f7, List.length_cons, List.length_nil, Nat.zero_add, Nat.reduceAdd, Nat.reduceSub, List.replicate, List.cons_append, List.nil_append]) (by dsimp only [St.empty]) ?_
 refine w_seq (w_region ?_)
 refine w_op (a := .raw (.bool false)) rfl rfl rfl rfl (by dsimp only [aput, List.set]) ?_
 refine w_seq (w_region ?_)
 refine w_op (a := .list (List.length (l : List Sme)) (Enc.cellsL (l : List Sme)) .none) rfl rfl rfl rfl (by dsimp only [aput, List.set]) ?_
 refine w_op (a := .raw (.int .u8 en)) rfl rfl rfl rfl (by dsimp only [aput, List.set]) ?_
 refine w_op (a := .raw (.int .u8 code)) rfl rfl rfl rfl (by dsimp only [aput, List.set]) ?_
 obtain ⟨x1, hx1, h⟩ := bindE_e h
 refine w_callc (args' := [.list (List.length (l : List Sme)) (Enc.cellsL (l : List Sme)) .none, .raw (.int .u8 en), .raw (.int .u8 code)]) (r := .agg (Enc.cells (x1 : Trc))) (made_sh fuel l en code x1 hx1) rfl rfl (stripL_cons (strip_l (Enc.cloL _)) (stripL_cons rfl (stripL_cons rfl rfl))) (okTrimL_cons (okTrim_l (Enc.cloL _)) (okTrimL_cons rfl (okTrimL_cons rfl rfl))) (by dsimp only [aput, List.set]) ?_
 refine w_opm (a := .ptr 0 0) (σ'' := ⟨[(26, [.list 0 [] .full, .raw (.int .u8 0), .raw (.int .i64 0)])], [], [], 0, false⟩) rfl rfl rfl rfl (by dsimp only [aput, List.set]) rfl ?_
 refine w_opm (σ'' := ⟨[(26, (Enc.cells (x1 : Trc)))], [], [], 0, false⟩) rfl rfl rfl (op_storeW (n := 3) rfl rfl rfl rfl rfl rfl rfl rfl (by decide)) (by dsimp only [aput, List.set]) rfl ?_
 refine w_seq (w_region ?_)
 refine w_op (a := .agg (Enc.cells (x1 : Trc))) rfl rfl rfl rfl (by dsimp only [aput, List.set]) ?_
 refine bif_e h (fun hc1 h => ?_) (fun hc1 h => ?_)
 ·
  obtain ⟨x2, hx2, h⟩ := bindE_e h
  refine w_callc (args' := [.agg (Enc.cells (x1 : Trc))]) (r := .agg (Enc.cells (x2 : Trc))) (copy_sh x1 x2 hx2) rfl rfl (stripL_cons (strip_c (clo_agg (Enc.clo _))) rfl) (okTrimL_cons (okTrim_clo _ _ (clo_agg (Enc.clo _))) rfl) (by dsimp only [aput, List.set]) ?_
  refine w_opm (a := .ptr 1 0) (σ'' := ⟨[(26, (Enc.cells (x1 : Trc))), (26, [.list 0 [] .full, .raw (.int .u8 0), .raw (.int .i64 0)])], [], [], 0, false⟩) rfl rfl rfl rfl (by dsimp only [aput, List.set]) rfl ?_
  refine w_opm (σ'' := ⟨[(26, (Enc.cells (x1 : Trc))), (26, (Enc.cells (x2 : Trc)))], [], [], 0, false⟩) rfl rfl rfl (op_storeW (n := 3) rfl rfl rfl rfl rfl rfl rfl rfl (by decide)) (by dsimp only [aput, List.set]) rfl ?_
  refine w_seq ?_
  refine w_seq (w_region ?_)
  refine w_op (a := .agg (Enc.cells (x2 : Trc))) rfl rfl rfl rfl (by dsimp only [aput, List.set]) ?_
  refine w_op (a := .agg (Enc.cells (x1 : Trc))) rfl rfl rfl rfl (by dsimp only [aput, List.set]) ?_
  obtain ⟨x3, hx3, h⟩ := bindE_e h
  refine w_callc (args' := [.agg (Enc.cells (x2 : Trc)), .agg (Enc.cells (x1 : Trc))]) (r := .raw (.bool x3)) (same_sh fuel x2 x1 x3 hx3) rfl rfl (stripL_cons (strip_c (clo_agg (Enc.clo _))) (stripL_cons (strip_c (clo_agg (Enc.clo _))) rfl)) (okTrimL_cons (okTrim_clo _ _ (clo_agg (Enc.clo _))) (okTrimL_cons (okTrim_clo _ _ (clo_agg (Enc.clo _))) rfl)) (by dsimp only [aput, List.set]) ?_
  refine w_op (a := .raw (.bool (!x3))) rfl rfl rfl rfl (by dsimp only [aput, List.set]) ?_
  refine bif_e h (fun hc2 h => ?_) (fun hc2 h => ?_)
  ·
   refine w_op (a := .raw (.bool true)) rfl rfl rfl (op_q (q_bool rfl hc2)) (by dsimp only [aput, List.set]) ?_
   refine w_pass rfl rfl (by decide) (by dsimp only [aput, List.set]) ?_
   refine w_pass rfl rfl (by decide) (by dsimp only [aput, List.set]) ?_
   refine w_pass rfl rfl (by decide) (by dsimp only [aput, List.set]) ?_
   refine w_pass rfl rfl (by decide) (by dsimp only [aput, List.set]) ?_
   refine w_op (a := .raw (.bool true)) rfl rfl rfl rfl (by dsimp only [aput, List.set]) ?_
   refine w_true rfl ?_
   refine w_seq (w_region ?_)
   refine w_op (a := .agg (Enc.cells (x2 : Trc))) rfl rfl rfl rfl (by dsimp only [aput, List.set]) ?_
   refine w_op (a := .agg (Enc.cells (x1 : Trc))) rfl rfl rfl rfl (by dsimp only [aput, List.set]) ?_
   obtain ⟨x4, hx4, h⟩ := bindE_e h
   refine w_callc (args' := [.agg (Enc.cells (x2 : Trc)), .agg (Enc.cells (x1 : Trc))]) (r := .raw (.bool x4)) (same_sh fuel x2 x1 x4 hx4) rfl rfl (stripL_cons (strip_c (clo_agg (Enc.clo _))) (stripL_cons (strip_c (clo_agg (Enc.clo _))) rfl)) (okTrimL_cons (okTrim_clo _ _ (clo_agg (Enc.clo _))) (okTrimL_cons (okTrim_clo _ _ (clo_agg (Enc.clo _))) rfl)) (by dsimp only [aput, List.set]) ?_
   refine bif_e h (fun hc3 h => ?_) (fun hc3 h => ?_)
   ·
    refine w_op (a := .raw (.bool true)) rfl rfl rfl (op_q (q_bool rfl hc3)) (by dsimp only [aput, List.set]) ?_
    refine w_met rfl rfl ?_
    refine w_callc (args' := []) (r := .raw (.bool true)) awake_pure rfl rfl rfl rfl (by dsimp only [aput, List.set]) ?_
    refine w_op (a := .raw (.bool true)) rfl rfl rfl rfl (by dsimp only [aput, List.set]) ?_
    refine w_op (a := .raw (.bool true)) rfl rfl rfl rfl (by dsimp only [aput, List.set]) ?_
    exact end_pureF (fun (r : Bool) => (.raw (.bool r) : AV)) h (a := .raw (.bool true)) rfl rfl rfl
   ·
    refine w_op (a := .raw (.bool false)) rfl rfl rfl (op_q (q_bool rfl hc3)) (by dsimp only [aput, List.set]) ?_
    refine w_pass rfl rfl (by decide) (by dsimp only [aput, List.set]) ?_
    refine w_op (a := .raw (.bool false)) rfl rfl rfl rfl (by dsimp only [aput, List.set]) ?_
    refine w_op (a := .raw (.bool false)) rfl rfl rfl rfl (by dsimp only [aput, List.set]) ?_
    exact end_pureF (fun (r : Bool) => (.raw (.bool r) : AV)) h (a := .raw (.bool false)) rfl rfl rfl
  ·
   refine w_op (a := .raw (.bool false)) rfl rfl rfl (op_q (q_bool rfl hc2)) (by dsimp only [aput, List.set]) ?_
   refine w_met rfl rfl ?_
   refine w_op (a := .ptr 0 0) rfl rfl rfl rfl (by dsimp only [aput, List.set]) ?_
   refine w_met rfl rfl ?_
   refine w_op (a := .list (List.length (x1.l : List En)) (Enc.cellsL (x1.l : List En)) .none) rfl rfl rfl rfl (by dsimp only [aput, List.set]) ?_
   refine w_met rfl rfl ?_
   refine w_op (a := .raw (.int .i64 (List.length x1.l : Int))) rfl rfl rfl rfl (by dsimp only [aput, List.set]) ?_
   refine w_met rfl rfl ?_
   refine w_op (a := .raw (.bool ((List.length x1.l : Int) == 0))) rfl rfl rfl rfl (by dsimp only [aput, List.set]) ?_
   refine w_op (a := .raw (.bool ((List.length x1.l : Int) == 0))) rfl rfl rfl rfl (by dsimp only [aput, List.set]) ?_
   refine w_condT hc1 rfl ?_
   refine w_seq (w_region ?_)
   refine w_op (a := .agg (Enc.cells (x2 : Trc))) rfl rfl rfl rfl (by dsimp only [aput, List.set]) ?_
   refine w_op (a := .agg (Enc.cells (x1 : Trc))) rfl rfl rfl rfl (by dsimp only [aput, List.set]) ?_
   obtain ⟨x5, hx5, h⟩ := bindE_e h
   refine w_callc (args' := [.agg (Enc.cells (x2 : Trc)), .agg (Enc.cells (x1 : Trc))]) (r := .raw (.bool x5)) (same_sh fuel x2 x1 x5 hx5) rfl rfl (stripL_cons (strip_c (clo_agg (Enc.clo _))) (stripL_cons (strip_c (clo_agg (Enc.clo _))) rfl)) (okTrimL_cons (okTrim_clo _ _ (clo_agg (Enc.clo _))) (okTrimL_cons (okTrim_clo _ _ (clo_agg (Enc.clo _))) rfl)) (by dsimp only [aput, List.set]) ?_
   refine bif_e h (fun hc4 h => ?_) (fun hc4 h => ?_)
   ·
    refine w_op (a := .raw (.bool true)) rfl rfl rfl (op_q (q_bool rfl hc4)) (by dsimp only [aput, List.set]) ?_
    refine w_met rfl rfl ?_
    refine w_callc (args' := []) (r := .raw (.bool true)) awake_pure rfl rfl rfl rfl (by dsimp only [aput, List.set]) ?_
    refine w_op (a := .raw (.bool true)) rfl rfl rfl rfl (by dsimp only [aput, List.set]) ?_
    refine w_op (a := .raw (.bool true)) rfl rfl rfl rfl (by dsimp only [aput, List.set]) ?_
    exact end_pureF (fun (r : Bool) => (.raw (.bool r) : AV)) h (a := .raw (.bool true)) rfl rfl rfl
   ·
    refine w_op (a := .raw (.bool false)) rfl rfl rfl (op_q (q_bool rfl hc4)) (by dsimp only [aput, List.set]) ?_
    refine w_pass rfl rfl (by decide) (by dsimp only [aput, List.set]) ?_
    refine w_op (a := .raw (.bool false)) rfl rfl rfl rfl (by dsimp only [aput, List.set]) ?_
    refine w_op (a := .raw (.bool false)) rfl rfl rfl rfl (by dsimp only [aput, List.set]) ?_
    exact end_pureF (fun (r : Bool) => (.raw (.bool r) : AV)) h (a := .raw (.bool false)) rfl rfl rfl
 ·
  obtain ⟨g1, h⟩ := chk_e h
  refine w_snd (r := .agg [.bsl 1 0 (List.length x1.l) 4 false, .raw (.int .u8 x1.e.k), .raw (.int .i64 x1.e.c)]) (σ' := ⟨[(26, (Enc.cells (x1 : Trc))), (43, (Enc.cellsL (x1.l : List En)))], [], [], 0, false⟩) (copy_cons x1 (len_pos hc1) g1 1 _ rfl) rfl rfl ⟨rfl, rfl⟩ (by dsimp only [aput, List.set]) ?_
  refine w_opm (a := .ptr 2 0) (σ'' := ⟨[(26, (Enc.cells (x1 : Trc))), (43, (Enc.cellsL (x1.l : List En))), (26, [.list 0 [] .full, .raw (.int .u8 0), .raw (.int .i64 0)])], [], [], 0, false⟩) rfl rfl rfl rfl (by dsimp only [aput, List.set]) rfl ?_
  refine w_opm (σ'' := ⟨[(26, (Enc.cells (x1 : Trc))), (43, (Enc.cellsL (x1.l : List En))), (26, [.bsl 1 0 (List.length x1.l) 4 false, .raw (.int .u8 x1.e.k), .raw (.int .i64 x1.e.c)])], [], [], 0, false⟩) rfl rfl rfl (op_storeW (n := 3) rfl rfl rfl rfl rfl rfl rfl rfl (by decide)) (by dsimp only [aput, List.set]) rfl ?_
  refine w_seq ?_
  refine w_seq (w_region ?_)
  refine w_op (a := .agg [.bsl 1 0 (List.length x1.l) 4 false, .raw (.int .u8 x1.e.k), .raw (.int .i64 x1.e.c)]) rfl rfl rfl rfl (by dsimp only [aput, List.set]) ?_
  refine w_op (a := .agg (Enc.cells (x1 : Trc))) rfl rfl rfl rfl (by dsimp only [aput, List.set]) ?_
  obtain ⟨x6, hx6, h⟩ := bindE_e h
  refine w_callf 1 (args' := [.agg (Enc.cells ((Trc.mk x1.l (Ed.mk x1.e.k x1.e.c)) : Trc)), .agg (Enc.cells (x1 : Trc))]) (r := .raw (.bool x6)) (same_sh fuel (Trc.mk x1.l (Ed.mk x1.e.k x1.e.c)) x1 x6 hx6) rfl rfl (mapPtrL_cons' (mapPtr_agg' (mapPtrL_cons' (frz_bsl (α := En) (t := 43) (l := x1.l) rfl rfl) (mapPtrL_cons' (mapPtr_clo' rfl) (mapPtrL_cons' (mapPtr_clo' rfl) mapPtrL_nil')))) (mapPtrL_cons' (mapPtr_clo' (clo_agg (Enc.clo _))) mapPtrL_nil')) rfl (by dsimp only [aput, List.set]) ?_
  refine w_op (a := .raw (.bool (!x6))) rfl rfl rfl rfl (by dsimp only [aput, List.set]) ?_
  refine bif_e h (fun hc5 h => ?_) (fun hc5 h => ?_)
  ·
   refine w_op (a := .raw (.bool true)) rfl rfl rfl (op_q (q_bool rfl hc5)) (by dsimp only [aput, List.set]) ?_
   refine w_pass rfl rfl (by decide) (by dsimp only [aput, List.set]) ?_
   refine w_pass rfl rfl (by decide) (by dsimp only [aput, List.set]) ?_
   refine w_pass rfl rfl (by decide) (by dsimp only [aput, List.set]) ?_
   refine w_pass rfl rfl (by decide) (by dsimp only [aput, List.set]) ?_
   refine w_op (a := .raw (.bool true)) rfl rfl rfl rfl (by dsimp only [aput, List.set]) ?_
   refine w_true rfl ?_
   refine w_seq (w_region ?_)
   refine w_op (a := .agg [.bsl 1 0 (List.length x1.l) 4 false, .raw (.int .u8 x1.e.k), .raw (.int .i64 x1.e.c)]) rfl rfl rfl rfl (by dsimp only [aput, List.set]) ?_
   refine w_op (a := .agg (Enc.cells (x1 : Trc))) rfl rfl rfl rfl (by dsimp only [aput, List.set]) ?_
   obtain ⟨x7, hx7, h⟩ := bindE_e h
   refine w_callf 1 (args' := [.agg (Enc.cells ((Trc.mk x1.l (Ed.mk x1.e.k x1.e.c)) : Trc)), .agg (Enc.cells (x1 : Trc))]) (r := .raw (.bool x7)) (same_sh fuel (Trc.mk x1.l (Ed.mk x1.e.k x1.e.c)) x1 x7 hx7) rfl rfl (mapPtrL_cons' (mapPtr_agg' (mapPtrL_cons' (frz_bsl (α := En) (t := 43) (l := x1.l) rfl rfl) (mapPtrL_cons' (mapPtr_clo' rfl) (mapPtrL_cons' (mapPtr_clo' rfl) mapPtrL_nil')))) (mapPtrL_cons' (mapPtr_clo' (clo_agg (Enc.clo _))) mapPtrL_nil')) rfl (by dsimp only [aput, List.set]) ?_
   refine bif_e h (fun hc6 h => ?_) (fun hc6 h => ?_)
   ·
    refine w_op (a := .raw (.bool true)) rfl rfl rfl (op_q (q_bool rfl hc6)) (by dsimp only [aput, List.set]) ?_
    refine w_met rfl rfl ?_
    refine w_callc (args' := []) (r := .raw (.bool true)) awake_pure rfl rfl rfl rfl (by dsimp only [aput, List.set]) ?_
    refine w_op (a := .raw (.bool true)) rfl rfl rfl rfl (by dsimp only [aput, List.set]) ?_
    refine w_op (a := .raw (.bool true)) rfl rfl rfl rfl (by dsimp only [aput, List.set]) ?_
    exact end_pureF (fun (r : Bool) => (.raw (.bool r) : AV)) h (a := .raw (.bool true)) rfl rfl rfl
   ·
    refine w_op (a := .raw (.bool false)) rfl rfl rfl (op_q (q_bool rfl hc6)) (by dsimp only [aput, List.set]) ?_
    refine w_pass rfl rfl (by decide) (by dsimp only [aput, List.set]) ?_
    refine w_op (a := .raw (.bool false)) rfl rfl rfl rfl (by dsimp only [aput, List.set]) ?_
    refine w_op (a := .raw (.bool false)) rfl rfl rfl rfl (by dsimp only [aput, List.set]) ?_
    exact end_pureF (fun (r : Bool) => (.raw (.bool r) : AV)) h (a := .raw (.bool false)) rfl rfl rfl
  ·
   refine w_op (a := .raw (.bool false)) rfl rfl rfl (op_q (q_bool rfl hc5)) (by dsimp only [aput, List.set]) ?_
   refine w_met rfl rfl ?_
   refine w_op (a := .ptr 0 0) rfl rfl rfl rfl (by dsimp only [aput, List.set]) ?_
   refine w_met rfl rfl ?_
   refine w_op (a := .list (List.length (x1.l : List En)) (Enc.cellsL (x1.l : List En)) .none) rfl rfl rfl rfl (by dsimp only [aput, List.set]) ?_
   refine w_met rfl rfl ?_
   refine w_op (a := .raw (.int .i64 (List.length x1.l : Int))) rfl rfl rfl rfl (by dsimp only [aput, List.set]) ?_
   refine w_met rfl rfl ?_
   refine w_op (a := .raw (.bool ((List.length x1.l : Int) == 0))) rfl rfl rfl rfl (by dsimp only [aput, List.set]) ?_
   refine w_op (a := .raw (.bool ((List.length x1.l : Int) == 0))) rfl rfl rfl rfl (by dsimp only [aput, List.set]) ?_
   refine w_condF hc1 rfl ?_
   refine w_seq (w_region ?_)
   refine w_op (a := .raw (.int .u8 at0)) rfl rfl rfl rfl (by dsimp only [aput, List.set]) ?_
   obtain ⟨g2, h⟩ := chk_e h
   refine w_op (a := .raw (.int .i64 at0)) rfl rfl rfl (op_q (q_conv64 g2 rfl rfl rfl)) (by dsimp only [aput, List.set]) ?_
   refine w_op (a := .ptr 0 0) rfl rfl rfl rfl (by dsimp only [aput, List.set]) ?_
   refine w_op (a := .list (List.length (x1.l : List En)) (Enc.cellsL (x1.l : List En)) .none) rfl rfl rfl rfl (by dsimp only [aput, List.set]) ?_
   refine w_op (a := .raw (.int .i64 (List.length x1.l : Int))) rfl rfl rfl rfl (by dsimp only [aput, List.set]) ?_
   obtain ⟨g3, h⟩ := chk_e h
   refine w_op (a := .raw (.int .i64 (Int.tmod at0 (List.length x1.l : Int)))) rfl rfl rfl (op_q (q_rem64 g3 rfl rfl rfl)) (by dsimp only [aput, List.set]) ?_
   refine w_op (a := .raw (.int .i64 (Int.tmod at0 (List.length x1.l : Int)))) rfl rfl rfl rfl (by dsimp only [aput, List.set]) ?_
   refine w_cutF h [0, 1, 2, 3, 4, 5, 6, 7, 8, 9, 10, 12, 13, 14, 15, 16, 17, 18, 19, 20, 21, 22, 23, 24, 25, 26, 27, 28, 29, 30, 31, 32, 33, 34, 35, 36, 37, 38, 39, 40, 41, 42, 43, 44, 45, 46, 47, 48, 49, 50, 51, 52, 53, 54, 55, 56, 57, 58, 59, 60, 61, 62, 63, 64, 65, 66, 67, 68, 69, 70, 71, 72, 73, 74, 75, 76, 77, 78, 79, 80, 81, 82, 83, 84, 85, 86, 87, 88, 89, 90, 91, 92, 93, 94, 95, 96, 97, 98, 99, 100, 101, 102, 103, 104, 105, 106, 107, 108, 109, 110, 111, 112, 113, 114, 115, 116, 117, 118, 119, 120, 121, 122, 123, 124, 125, 126, 127, 128, 129, 130, 131, 132, 133, 134, 135, 136, 137, 138, 139, 140, 141, 142, 143, 144, 145, 146] (fun j1 => [(12, .ptr 1 0), (13, .raw (.int .i64 j1.1))]) (fun j1 => ⟨[(26, (Enc.cells (x1 : Trc))), (26, (Enc.cells (j1.2 : Trc)))], [], [], 0, false⟩) ?_ ?_
   ·
    intro or1 h hr1
    refine w_seq (w_region ?_)
    refine w_op (a := .raw (.int .u8 how)) rfl rfl rfl rfl (by dsimp only [aput, List.set]) ?_
    refine w_op (a := .raw (.int .u8 (Int.tmod how 4))) rfl rfl rfl rfl (by dsimp only [aput, List.set]) ?_
    refine w_block ?_
    refine w_seq (w_region ?_)
    refine w_op (a := .raw (.bool ((Int.tmod how 4) == 0))) rfl rfl rfl rfl (by dsimp only [aput, List.set]) ?_
    refine w_op (a := .raw (.bool ((Int.tmod how 4) == 0))) rfl rfl rfl rfl (by dsimp only [aput, List.set]) ?_
    refine bif_e h (fun hc7 h => ?_) (fun hc7 h => ?_)
    ·
     refine w_condT hc7 rfl ?_
     refine w_region (k0 := 0) (id := 8) ?_
     refine w_op (a := .ptr 2 0) rfl rfl rfl rfl (by dsimp only [aput, List.set]) ?_
     refine w_op (a := .bsl 1 0 (List.length x1.l) 4 false) rfl rfl rfl rfl (by dsimp only [aput, List.set]) ?_
     refine w_op (a := .raw (.int .i64 (Int.tmod at0 (List.length x1.l : Int)))) rfl rfl rfl rfl (by dsimp only [aput, List.set]) ?_
     obtain ⟨g4, h⟩ := chk_e h
     refine w_op (a := .ptr 1 (0 + Int.toNat (Int.tmod at0 (List.length x1.l : Int)) * 4)) rfl rfl rfl (op_q (q_idxB (α := En) g4 rfl rfl rfl rfl rfl)) (by dsimp only [aput, List.set]) ?_
     refine w_op (a := .ptr 1 (0 + Int.toNat (Int.tmod at0 (List.length x1.l : Int)) * 4 + 3)) rfl rfl rfl rfl (by dsimp only [aput, List.set]) ?_
     obtain ⟨g5, h⟩ := chk_e h
     obtain ⟨x8, hx8, h⟩ := letE_e h
     refine w_op (a := .raw (.string (bs x8.b))) rfl rfl rfl (op_q (by rw [← hx8]; exact (q_loadB (α := En) (l := x1.l) (i := (Int.tmod at0 (List.length x1.l : Int))) (k := 3) (te := 43) g5 rfl rfl rfl rfl))) (by dsimp only [aput, List.set]) ?_
     obtain ⟨g6, h⟩ := chk_e h
     refine w_op (a := .raw (.string (bs (x8.b ++ ([120] : List UInt8))))) rfl rfl rfl (op_q (q_stradd g6 rfl rfl rfl)) (by dsimp only [aput, List.set]) ?_
     obtain ⟨g7, h⟩ := chk_e h
     refine w_op (a := .ptr 1 (0 + Int.toNat (Int.tmod at0 (List.length x1.l : Int)) * 4)) rfl rfl rfl (op_q (q_idxB (α := En) g7 rfl rfl rfl rfl rfl)) (by dsimp only [aput, List.set]) ?_
     refine w_op (a := .ptr 1 (0 + Int.toNat (Int.tmod at0 (List.length x1.l : Int)) * 4 + 3)) rfl rfl rfl rfl (by dsimp only [aput, List.set]) ?_
     obtain ⟨g8, h⟩ := chk_e h
     obtain ⟨x9, hx9, h⟩ := letE_e h
     refine w_opm (σ'' := ⟨[(26, (Enc.cells (x1 : Trc))), (43, (Enc.cellsL ((List.set x1.l (Int.toNat (Int.tmod at0 (List.length x1.l : Int))) (En.mk x9.k x9.fr x9.to (x8.b ++ ([120] : List UInt8)))) : List En))), (26, [.bsl 1 0 (List.length x1.l) 4 false, .raw (.int .u8 x1.e.k), .raw (.int .i64 x1.e.c)])], [], [], 0, false⟩) rfl rfl rfl (op_storeB (α := En) (l := x1.l) (i := (Int.tmod at0 (List.length x1.l : Int))) (k := 3) (te := 43) (n := 1) (En.mk x9.k x9.fr x9.to (x8.b ++ ([120] : List UInt8))) g8 rfl rfl rfl rfl rfl rfl rfl (by decide) (by decide) (by rw [hx9]; rfl)) (by dsimp only [aput, List.set]) rfl ?_
     obtain ⟨g9, h⟩ := chk_e h
     refine cut_done (o := or1) ((Int.tmod at0 (List.length x1.l : Int)), (Trc.mk (List.set x1.l (Int.toNat (Int.tmod at0 (List.length x1.l : Int))) (En.mk x9.k x9.fr x9.to (x8.b ++ ([120] : List UInt8)))) (Ed.mk x1.e.k x1.e.c))) h ?_
     exact wm_keep [false, false, false, false, false, false, false, false, false, false, false, true, true, true, false, false, false, false, false, false, false, false, false, false, false, false, false, false, false, false, false, false, false, false, false, false, false, false, false, false, false, false, false, false, false, false, false, false, false, false, false, false, false, false, false, false, false, false, false, false, false, false, false, false, false, false, false, false, false, false, false, false, false, false, false, false, false, false, false, false, false, false, false, false, false, false, false, false, false, false, false, false, false, false, false, false, false, false, false, false, false, false, false, false, false, false, false, false, false, false, false, false, false, false, false, false, false, false, false, false, false, false, false, false, false, false, false, false, false, false, false, false, false, false, false, false, false, false, false, false, false, false, false, false, false, false, false] 0 [] [0, 2] 1 (Nat.le_refl _) rfl (by dsimp only [setAll, topAll, List.foldl, List.set]; exact (fgK_f (fgK_f (fgK_f (fgK_f (fgK_f (fgK_f (fgK_f (fgK_f (fgK_f (fgK_f (fgK_f (fgK_t rfl (fgK_t rfl (fgK_t (mapK_clo _ _ _ rfl) (fgK_f (fgK_f (fgK_f (fgK_f (fgK_f (fgK_f (fgK_f (fgK_f (fgK_f (fgK_f (fgK_f (fgK_f (fgK_f (fgK_f (fgK_f (fgK_f (fgK_f (fgK_f (fgK_f (fgK_f (fgK_f (fgK_f (fgK_f (fgK_f (fgK_f (fgK_f (fgK_f (fgK_f (fgK_f (fgK_f (fgK_f (fgK_f (fgK_f (fgK_f (fgK_f (fgK_f (fgK_f (fgK_f (fgK_f (fgK_f (fgK_f (fgK_f (fgK_f (fgK_f (fgK_f (fgK_f (fgK_f (fgK_f (fgK_f (fgK_f (fgK_f (fgK_f (fgK_f (fgK_f (fgK_f (fgK_f (fgK_f (fgK_f (fgK_f (fgK_f (fgK_f (fgK_f (fgK_f (fgK_f (fgK_f (fgK_f (fgK_f (fgK_f (fgK_f (fgK_f (fgK_f (fgK_f (fgK_f (fgK_f (fgK_f (fgK_f (fgK_f (fgK_f (fgK_f (fgK_f (fgK_f (fgK_f (fgK_f (fgK_f (fgK_f (fgK_f (fgK_f (fgK_f (fgK_f (fgK_f (fgK_f (fgK_f (fgK_f (fgK_f (fgK_f (fgK_f (fgK_f (fgK_f (fgK_f (fgK_f (fgK_f (fgK_f (fgK_f (fgK_f (fgK_f (fgK_f (fgK_f (fgK_f (fgK_f (fgK_f (fgK_f (fgK_f (fgK_f (fgK_f (fgK_f (fgK_f (fgK_f (fgK_f (fgK_f (fgK_f (fgK_f (fgK_f (fgK_f (fgK_f (fgK_f (fgK_f (fgK_f (fgK_f (fgK_f (fgK_f (fgK_f (fgK_f (fgK_f fgK_nil)))))))))))))))))))))))))))))))))))))))))))))))))))))))))))))))))))))))))))))))))))))))))))))))))))))))))))))))))))))))))))))))))))))))))))))))))))) (keep_of (keep_cons rfl (mapKL_clo _ _ _ (Enc.clo _)) (keep_cons rfl (mapKL_cons' (kz_bsl (α := En) (t := 43) (l := (List.set x1.l (Int.toNat (Int.tmod at0 (List.length x1.l : Int))) (En.mk x9.k x9.fr x9.to (x8.b ++ ([120] : List UInt8))))) g9 rfl rfl) (mapKL_cons' (mapK_clo _ _ _ rfl) (mapKL_cons' (mapK_clo _ _ _ rfl) mapKL_nil'))) keep_nil)) rfl)
    ·
     refine w_condF hc7 rfl ?_
     refine w_seq (w_region ?_)
     refine w_op (a := .raw (.bool ((Int.tmod how 4) == 1))) rfl rfl rfl rfl (by dsimp only [aput, List.set]) ?_
     refine w_op (a := .raw (.bool ((Int.tmod how 4) == 1))) rfl rfl rfl rfl (by dsimp only [aput, List.set]) ?_
     refine bif_e h (fun hc8 h => ?_) (fun hc8 h => ?_)
     ·
      refine w_condT hc8 rfl ?_
      refine w_draw (id := 10) 11 (by kernel_rfl) (by kernel_rfl) ?_
      refine h_op (a := .ptr 2 0) rfl rfl rfl rfl (by dsimp only [aput, List.set]) ?_
      refine h_op (a := .bsl 1 0 (List.length x1.l) 4 false) rfl rfl rfl rfl (by dsimp only [aput, List.set]) ?_
      refine h_op (a := .raw (.int .i64 (Int.tmod at0 (List.length x1.l : Int)))) rfl rfl rfl rfl (by dsimp only [aput, List.set]) ?_
      refine h_op (a := .ptr 2 0) rfl rfl rfl rfl (by dsimp only [aput, List.set]) ?_
      refine h_op (a := .bsl 1 0 (List.length x1.l) 4 false) rfl rfl rfl rfl (by dsimp only [aput, List.set]) ?_
      refine h_op (a := .raw (.int .i64 (Int.tmod at0 (List.length x1.l : Int)))) rfl rfl rfl rfl (by dsimp only [aput, List.set]) ?_
      obtain ⟨g10, h⟩ := chk_e h
      refine h_op (a := .ptr 1 (0 + Int.toNat (Int.tmod at0 (List.length x1.l : Int)) * 4)) rfl rfl rfl (q_idxB (α := En) g10 rfl rfl rfl rfl rfl) (by dsimp only [aput, List.set]) ?_
      refine h_op (a := .ptr 1 (0 + Int.toNat (Int.tmod at0 (List.length x1.l : Int)) * 4 + 0)) rfl rfl rfl rfl (by dsimp only [aput, List.set]) ?_
      obtain ⟨g11, h⟩ := chk_e h
      obtain ⟨x10, hx10, h⟩ := letE_e h
      refine h_op (a := .raw (.int .u8 x10.k)) rfl rfl rfl (by rw [← hx10]; exact (q_loadB (α := En) (l := x1.l) (i := (Int.tmod at0 (List.length x1.l : Int))) (k := 0) (te := 43) g11 rfl rfl rfl rfl)) (by dsimp only [aput, List.set]) ?_
      refine h_op (a := .raw (.int .u8 (Int.tmod x10.k 3))) rfl rfl rfl rfl (by dsimp only [aput, List.set]) ?_
      refine h_op (a := .raw (.int .u8 (IntKind.u8.wrap (1 + (Int.tmod x10.k 3))))) rfl rfl rfl rfl (by dsimp only [aput, List.set]) ?_
      refine h_end ?_
      obtain ⟨g12, h⟩ := chk_e h
      refine w_op (a := .ptr 1 (0 + Int.toNat (Int.tmod at0 (List.length x1.l : Int)) * 4)) rfl rfl rfl (op_q (q_idxB (α := En) g12 rfl rfl rfl rfl rfl)) (by dsimp only [aput, List.set]) ?_
      refine w_op (a := .ptr 1 (0 + Int.toNat (Int.tmod at0 (List.length x1.l : Int)) * 4 + 0)) rfl rfl rfl rfl (by dsimp only [aput, List.set]) ?_
      obtain ⟨g13, h⟩ := chk_e h
      obtain ⟨x11, hx11, h⟩ := letE_e h
      refine w_opm (σ'' := ⟨[(26, (Enc.cells (x1 : Trc))), (43, (Enc.cellsL ((List.set x1.l (Int.toNat (Int.tmod at0 (List.length x1.l : Int))) (En.mk (IntKind.u8.wrap (1 + (Int.tmod x10.k 3))) x11.fr x11.to x11.b)) : List En))), (26, [.bsl 1 0 (List.length x1.l) 4 false, .raw (.int .u8 x1.e.k), .raw (.int .i64 x1.e.c)])], [], [], 0, false⟩) rfl rfl rfl (op_storeB (α := En) (l := x1.l) (i := (Int.tmod at0 (List.length x1.l : Int))) (k := 0) (te := 43) (n := 1) (En.mk (IntKind.u8.wrap (1 + (Int.tmod x10.k 3))) x11.fr x11.to x11.b) g13 rfl rfl rfl rfl rfl rfl rfl (by decide) (by decide) (by rw [hx11]; rfl)) (by dsimp only [aput, List.set]) rfl ?_
      obtain ⟨g14, h⟩ := chk_e h
      refine cut_done (o := or1) ((Int.tmod at0 (List.length x1.l : Int)), (Trc.mk (List.set x1.l (Int.toNat (Int.tmod at0 (List.length x1.l : Int))) (En.mk (IntKind.u8.wrap (1 + (Int.tmod x10.k 3))) x11.fr x11.to x11.b)) (Ed.mk x1.e.k x1.e.c))) h ?_
      exact wm_keep [false, false, false, false, false, false, false, false, false, false, false, true, true, true, false, false, false, false, false, false, false, false, false, false, false, false, false, false, false, false, false, false, false, false, false, false, false, false, false, false, false, false, false, false, false, false, false, false, false, false, false, false, false, false, false, false, false, false, false, false, false, false, false, false, false, false, false, false, false, false, false, false, false, false, false, false, false, false, false, false, false, false, false, false, false, false, false, false, false, false, false, false, false, false, false, false, false, false, false, false, false, false, false, false, false, false, false, false, false, false, false, false, false, false, false, false, false, false, false, false, false, false, false, false, false, false, false, false, false, false, false, false, false, false, false, false, false, false, false, false, false, false, false, false, false, false, false] 0 [] [0, 2] 1 (Nat.le_refl _) rfl (by dsimp only [setAll, topAll, List.foldl, List.set]; exact (fgK_f (fgK_f (fgK_f (fgK_f (fgK_f (fgK_f (fgK_f (fgK_f (fgK_f (fgK_f (fgK_f (fgK_t rfl (fgK_t rfl (fgK_t (mapK_clo _ _ _ rfl) (fgK_f (fgK_f (fgK_f (fgK_f (fgK_f (fgK_f (fgK_f (fgK_f (fgK_f (fgK_f (fgK_f (fgK_f (fgK_f (fgK_f (fgK_f (fgK_f (fgK_f (fgK_f (fgK_f (fgK_f (fgK_f (fgK_f (fgK_f (fgK_f (fgK_f (fgK_f (fgK_f (fgK_f (fgK_f (fgK_f (fgK_f (fgK_f (fgK_f (fgK_f (fgK_f (fgK_f (fgK_f (fgK_f (fgK_f (fgK_f (fgK_f (fgK_f (fgK_f (fgK_f (fgK_f (fgK_f (fgK_f (fgK_f (fgK_f (fgK_f (fgK_f (fgK_f (fgK_f (fgK_f (fgK_f (fgK_f (fgK_f (fgK_f (fgK_f (fgK_f (fgK_f (fgK_f (fgK_f (fgK_f (fgK_f (fgK_f (fgK_f (fgK_f (fgK_f (fgK_f (fgK_f (fgK_f (fgK_f (fgK_f (fgK_f (fgK_f (fgK_f (fgK_f (fgK_f (fgK_f (fgK_f (fgK_f (fgK_f (fgK_f (fgK_f (fgK_f (fgK_f (fgK_f (fgK_f (fgK_f (fgK_f (fgK_f (fgK_f (fgK_f (fgK_f (fgK_f (fgK_f (fgK_f (fgK_f (fgK_f (fgK_f (fgK_f (fgK_f (fgK_f (fgK_f (fgK_f (fgK_f (fgK_f (fgK_f (fgK_f (fgK_f (fgK_f (fgK_f (fgK_f (fgK_f (fgK_f (fgK_f (fgK_f (fgK_f (fgK_f (fgK_f (fgK_f (fgK_f (fgK_f (fgK_f (fgK_f (fgK_f (fgK_f (fgK_f (fgK_f (fgK_f (fgK_f (fgK_f fgK_nil)))))))))))))))))))))))))))))))))))))))))))))))))))))))))))))))))))))))))))))))))))))))))))))))))))))))))))))))))))))))))))))))))))))))))))))))))))) (keep_of (keep_cons rfl (mapKL_clo _ _ _ (Enc.clo _)) (keep_cons rfl (mapKL_cons' (kz_bsl (α := En) (t := 43) (l := (List.set x1.l (Int.toNat (Int.tmod at0 (List.length x1.l : Int))) (En.mk (IntKind.u8.wrap (1 + (Int.tmod x10.k 3))) x11.fr x11.to x11.b))) g14 rfl rfl) (mapKL_cons' (mapK_clo _ _ _ rfl) (mapKL_cons' (mapK_clo _ _ _ rfl) mapKL_nil'))) keep_nil)) rfl)
     ·
      refine w_condF hc8 rfl ?_
      refine w_seq (w_region ?_)
      refine w_op (a := .raw (.bool ((Int.tmod how 4) == 2))) rfl rfl rfl rfl (by dsimp only [aput, List.set]) ?_
      refine w_op (a := .raw (.bool ((Int.tmod how 4) == 2))) rfl rfl rfl rfl (by dsimp only [aput, List.set]) ?_
      refine bif_e h (fun hc9 h => ?_) (fun hc9 h => ?_)
      ·
       refine w_condT hc9 rfl ?_
       refine w_seq (w_region ?_)
       refine w_op (a := .ptr 2 0) rfl rfl rfl rfl (by dsimp only [aput, List.set]) ?_
       refine w_op (a := .bsl 1 0 (List.length x1.l) 4 false) rfl rfl rfl rfl (by dsimp only [aput, List.set]) ?_
       refine w_op (a := .agg (Enc.cells ((En.mk 1 0 0 []) : En))) rfl rfl rfl rfl (by dsimp only [aput, List.set]) ?_
       refine w_op (a := .list (List.length ([(En.mk 1 0 0 [])] : List En)) (Enc.cellsL ([(En.mk 1 0 0 [])] : List En)) .full) rfl rfl rfl (op_q (q_lit (α := En) (l := [(En.mk 1 0 0 [])]) (cs := Enc.cells ((En.mk 1 0 0 []) : En) ++ []) rfl (by rw [Enc.cons, Enc.nil]))) (by dsimp only [aput, List.set]) ?_
       obtain ⟨g15, h⟩ := chk_e h
       refine w_opB (a := .bsl 3 0 ((List.length x1.l) + List.length [(En.mk 1 0 0 [])]) 4 false) (σ'' := ⟨[(26, (Enc.cells (x1 : Trc))), (43, (Enc.cellsL (([] : List En) : List En))), (26, [.bsl 1 0 (List.length x1.l) 4 false, .raw (.int .u8 x1.e.k), .raw (.int .i64 x1.e.c)]), (43, (Enc.cellsL ((x1.l ++ [(En.mk 1 0 0 [])]) : List En)))], [], [], 0, false⟩) rfl rfl rfl (opB_bsl (α := En) (l := x1.l) (r := [(En.mk 1 0 0 [])]) (by' := 40) g15 rfl rfl rfl rfl rfl rfl rfl rfl rfl rfl rfl rfl ⟨rfl, by decide⟩) (by dsimp only [aput, List.set]) rfl ?_
       refine w_op (a := .ptr 2 0) rfl rfl rfl rfl (by dsimp only [aput, List.set]) ?_
       refine w_opm (σ'' := ⟨[(26, (Enc.cells (x1 : Trc))), (43, (Enc.cellsL (([] : List En) : List En))), (26, [.bsl 3 0 ((List.length x1.l) + List.length [(En.mk 1 0 0 [])]) 4 false, .raw (.int .u8 x1.e.k), .raw (.int .i64 x1.e.c)]), (43, (Enc.cellsL ((x1.l ++ [(En.mk 1 0 0 [])]) : List En)))], [], [], 0, false⟩) rfl rfl rfl (op_store (n := 1) rfl rfl rfl rfl rfl ⟨rfl, rfl, Nat.le_of_ble_eq_true rfl, by decide⟩) (by dsimp only [aput, List.set]) rfl ?_
       refine w_region (k0 := 0) (id := 13) ?_
       refine w_op (a := .ptr 0 0) rfl rfl rfl rfl (by dsimp only [aput, List.set]) ?_
       refine w_op (a := .list (List.length (x1.l : List En)) (Enc.cellsL (x1.l : List En)) .none) rfl rfl rfl rfl (by dsimp only [aput, List.set]) ?_
       refine w_op (a := .raw (.int .i64 (List.length x1.l : Int))) rfl rfl rfl rfl (by dsimp only [aput, List.set]) ?_
       refine w_op (a := .raw (.int .i64 (List.length x1.l : Int))) rfl rfl rfl rfl (by dsimp only [aput, List.set]) ?_
       obtain ⟨g16, h⟩ := chk_e h
       refine cut_done (o := or1) ((List.length x1.l : Int), (Trc.mk (x1.l ++ [(En.mk 1 0 0 [])]) (Ed.mk x1.e.k x1.e.c))) h ?_
       exact wm_keep [false, false, false, false, false, false, false, false, false, false, false, true, true, true, false, false, false, false, false, false, false, false, false, false, false, false, false, false, false, false, false, false, false, false, false, false, false, false, false, false, false, false, false, false, false, false, false, false, false, false, false, false, false, false, false, false, false, false, false, false, false, false, false, false, false, false, false, false, false, false, false, false, false, false, false, false, false, false, false, false, false, false, false, false, false, false, false, false, false, false, false, false, false, false, false, false, false, false, false, false, false, false, false, false, false, false, false, false, false, false, false, false, false, false, false, false, false, false, false, false, false, false, false, false, false, false, false, false, false, false, false, false, false, false, false, false, false, false, false, false, false, false, false, false, false, false, false] 0 [] [0, 2] 1 (Nat.le_refl _) rfl (by dsimp only [setAll, topAll, List.foldl, List.set]; exact (fgK_f (fgK_f (fgK_f (fgK_f (fgK_f (fgK_f (fgK_f (fgK_f (fgK_f (fgK_f (fgK_f (fgK_t rfl (fgK_t rfl (fgK_t (mapK_clo _ _ _ rfl) (fgK_f (fgK_f (fgK_f (fgK_f (fgK_f (fgK_f (fgK_f (fgK_f (fgK_f (fgK_f (fgK_f (fgK_f (fgK_f (fgK_f (fgK_f (fgK_f (fgK_f (fgK_f (fgK_f (fgK_f (fgK_f (fgK_f (fgK_f (fgK_f (fgK_f (fgK_f (fgK_f (fgK_f (fgK_f (fgK_f (fgK_f (fgK_f (fgK_f (fgK_f (fgK_f (fgK_f (fgK_f (fgK_f (fgK_f (fgK_f (fgK_f (fgK_f (fgK_f (fgK_f (fgK_f (fgK_f (fgK_f (fgK_f (fgK_f (fgK_f (fgK_f (fgK_f (fgK_f (fgK_f (fgK_f (fgK_f (fgK_f (fgK_f (fgK_f (fgK_f (fgK_f (fgK_f (fgK_f (fgK_f (fgK_f (fgK_f (fgK_f (fgK_f (fgK_f (fgK_f (fgK_f (fgK_f (fgK_f (fgK_f (fgK_f (fgK_f (fgK_f (fgK_f (fgK_f (fgK_f (fgK_f (fgK_f (fgK_f (fgK_f (fgK_f (fgK_f (fgK_f (fgK_f (fgK_f (fgK_f (fgK_f (fgK_f (fgK_f (fgK_f (fgK_f (fgK_f (fgK_f (fgK_f (fgK_f (fgK_f (fgK_f (fgK_f (fgK_f (fgK_f (fgK_f (fgK_f (fgK_f (fgK_f (fgK_f (fgK_f (fgK_f (fgK_f (fgK_f (fgK_f (fgK_f (fgK_f (fgK_f (fgK_f (fgK_f (fgK_f (fgK_f (fgK_f (fgK_f (fgK_f (fgK_f (fgK_f (fgK_f (fgK_f (fgK_f (fgK_f (fgK_f (fgK_f (fgK_f fgK_nil)))))))))))))))))))))))))))))))))))))))))))))))))))))))))))))))))))))))))))))))))))))))))))))))))))))))))))))))))))))))))))))))))))))))))))))))))))) (keep_of (keep_cons rfl (mapKL_clo _ _ _ (Enc.clo _)) (keep_cons rfl (mapKL_cons' (kz_bsl (α := En) (t := 43) (l := (x1.l ++ [(En.mk 1 0 0 [])])) g16 rfl rfl) (mapKL_cons' (mapK_clo _ _ _ rfl) (mapKL_cons' (mapK_clo _ _ _ rfl) mapKL_nil'))) keep_nil)) rfl)
      ·
       refine w_condF hc9 rfl ?_
       refine w_seq (w_region ?_)
       refine w_op (a := .raw (.bool ((Int.tmod how 4) == 3))) rfl rfl rfl rfl (by dsimp only [aput, List.set]) ?_
       refine w_op (a := .raw (.bool ((Int.tmod how 4) == 3))) rfl rfl rfl rfl (by dsimp only [aput, List.set]) ?_
       refine bif_e h (fun hc10 h => ?_) (fun hc10 h => ?_)
       ·
        refine w_condT hc10 rfl ?_
        refine w_seq (w_region ?_)
        refine w_op (a := .ptr 2 1) rfl rfl rfl rfl (by dsimp only [aput, List.set]) ?_
        refine w_op (a := .ptr 2 2) rfl rfl rfl rfl (by dsimp only [aput, List.set]) ?_
        refine w_op (a := .raw (.int .i64 x1.e.c)) rfl rfl rfl rfl (by dsimp only [aput, List.set]) ?_
        obtain ⟨g17, h⟩ := chk_e h
        refine w_op (a := .raw (.int .i64 (x1.e.c + 1))) rfl rfl rfl (op_q (q_add rfl rfl rfl rfl g17.1 g17.2)) (by dsimp only [aput, List.set]) ?_
        refine w_op (a := .ptr 2 1) rfl rfl rfl rfl (by dsimp only [aput, List.set]) ?_
        refine w_op (a := .ptr 2 2) rfl rfl rfl rfl (by dsimp only [aput, List.set]) ?_
        refine w_opm (σ'' := ⟨[(26, (Enc.cells (x1 : Trc))), (43, (Enc.cellsL (x1.l : List En))), (26, [.bsl 1 0 (List.length x1.l) 4 false, .raw (.int .u8 x1.e.k), .raw (.int .i64 (x1.e.c + 1))])], [], [], 0, false⟩) rfl rfl rfl (op_store (n := 1) rfl rfl rfl rfl rfl ⟨rfl, rfl, Nat.le_of_ble_eq_true rfl, by decide⟩) (by dsimp only [aput, List.set]) rfl ?_
        refine w_region (k0 := 0) (id := 16) ?_
        refine w_op (a := .ptr 0 0) rfl rfl rfl rfl (by dsimp only [aput, List.set]) ?_
        refine w_op (a := .list (List.length (x1.l : List En)) (Enc.cellsL (x1.l : List En)) .none) rfl rfl rfl rfl (by dsimp only [aput, List.set]) ?_
        refine w_op (a := .raw (.int .i64 (List.length x1.l : Int))) rfl rfl rfl rfl (by dsimp only [aput, List.set]) ?_
        refine w_op (a := .raw (.int .i64 (List.length x1.l : Int))) rfl rfl rfl rfl (by dsimp only [aput, List.set]) ?_
        refine cut_done (o := or1) ((List.length x1.l : Int), (Trc.mk x1.l (Ed.mk x1.e.k (x1.e.c + 1)))) h ?_
        exact wm_keep [false, false, false, false, false, false, false, false, false, false, false, true, true, true, false, false, false, false, false, false, false, false, false, false, false, false, false, false, false, false, false, false, false, false, false, false, false, false, false, false, false, false, false, false, false, false, false, false, false, false, false, false, false, false, false, false, false, false, false, false, false, false, false, false, false, false, false, false, false, false, false, false, false, false, false, false, false, false, false, false, false, false, false, false, false, false, false, false, false, false, false, false, false, false, false, false, false, false, false, false, false, false, false, false, false, false, false, false, false, false, false, false, false, false, false, false, false, false, false, false, false, false, false, false, false, false, false, false, false, false, false, false, false, false, false, false, false, false, false, false, false, false, false, false, false, false, false] 0 [] [0, 2] 1 (Nat.le_refl _) rfl (by dsimp only [setAll, topAll, List.foldl, List.set]; exact (fgK_f (fgK_f (fgK_f (fgK_f (fgK_f (fgK_f (fgK_f (fgK_f (fgK_f (fgK_f (fgK_f (fgK_t rfl (fgK_t rfl (fgK_t (mapK_clo _ _ _ rfl) (fgK_f (fgK_f (fgK_f (fgK_f (fgK_f (fgK_f (fgK_f (fgK_f (fgK_f (fgK_f (fgK_f (fgK_f (fgK_f (fgK_f (fgK_f (fgK_f (fgK_f (fgK_f (fgK_f (fgK_f (fgK_f (fgK_f (fgK_f (fgK_f (fgK_f (fgK_f (fgK_f (fgK_f (fgK_f (fgK_f (fgK_f (fgK_f (fgK_f (fgK_f (fgK_f (fgK_f (fgK_f (fgK_f (fgK_f (fgK_f (fgK_f (fgK_f (fgK_f (fgK_f (fgK_f (fgK_f (fgK_f (fgK_f (fgK_f (fgK_f (fgK_f (fgK_f (fgK_f (fgK_f (fgK_f (fgK_f (fgK_f (fgK_f (fgK_f (fgK_f (fgK_f (fgK_f (fgK_f (fgK_f (fgK_f (fgK_f (fgK_f (fgK_f (fgK_f (fgK_f (fgK_f (fgK_f (fgK_f (fgK_f (fgK_f (fgK_f (fgK_f (fgK_f (fgK_f (fgK_f (fgK_f (fgK_f (fgK_f (fgK_f (fgK_f (fgK_f (fgK_f (fgK_f (fgK_f (fgK_f (fgK_f (fgK_f (fgK_f (fgK_f (fgK_f (fgK_f (fgK_f (fgK_f (fgK_f (fgK_f (fgK_f (fgK_f (fgK_f (fgK_f (fgK_f (fgK_f (fgK_f (fgK_f (fgK_f (fgK_f (fgK_f (fgK_f (fgK_f (fgK_f (fgK_f (fgK_f (fgK_f (fgK_f (fgK_f (fgK_f (fgK_f (fgK_f (fgK_f (fgK_f (fgK_f (fgK_f (fgK_f (fgK_f (fgK_f (fgK_f (fgK_f (fgK_f (fgK_f fgK_nil)))))))))))))))))))))))))))))))))))))))))))))))))))))))))))))))))))))))))))))))))))))))))))))))))))))))))))))))))))))))))))))))))))))))))))))))))))) (keep_of (keep_cons rfl (mapKL_clo _ _ _ (Enc.clo _)) (keep_cons rfl (mapKL_cons' (kz_bsl (α := En) (t := 43) (l := x1.l) rfl rfl rfl) (mapKL_cons' (mapK_clo _ _ _ rfl) (mapKL_cons' (mapK_clo _ _ _ rfl) mapKL_nil'))) keep_nil)) rfl)
       ·
        refine w_condF hc10 rfl ?_
        refine cut_done (o := or1) ((Int.tmod at0 (List.length x1.l : Int)), (Trc.mk x1.l (Ed.mk x1.e.k x1.e.c))) h ?_
        exact wm_keep [false, false, false, false, false, false, false, false, false, false, false, true, true, true, false, false, false, false, false, false, false, false, false, false, false, false, false, false, false, false, false, false, false, false, false, false, false, false, false, false, false, false, false, false, false, false, false, false, false, false, false, false, false, false, false, false, false, false, false, false, false, false, false, false, false, false, false, false, false, false, false, false, false, false, false, false, false, false, false, false, false, false, false, false, false, false, false, false, false, false, false, false, false, false, false, false, false, false, false, false, false, false, false, false, false, false, false, false, false, false, false, false, false, false, false, false, false, false, false, false, false, false, false, false, false, false, false, false, false, false, false, false, false, false, false, false, false, false, false, false, false, false, false, false, false, false, false] 0 [] [0, 2] 1 (Nat.le_refl _) rfl (by dsimp only [setAll, topAll, List.foldl, List.set]; exact (fgK_f (fgK_f (fgK_f (fgK_f (fgK_f (fgK_f (fgK_f (fgK_f (fgK_f (fgK_f (fgK_f (fgK_t rfl (fgK_t rfl (fgK_t (mapK_clo _ _ _ rfl) (fgK_f (fgK_f (fgK_f (fgK_f (fgK_f (fgK_f (fgK_f (fgK_f (fgK_f (fgK_f (fgK_f (fgK_f (fgK_f (fgK_f (fgK_f (fgK_f (fgK_f (fgK_f (fgK_f (fgK_f (fgK_f (fgK_f (fgK_f (fgK_f (fgK_f (fgK_f (fgK_f (fgK_f (fgK_f (fgK_f (fgK_f (fgK_f (fgK_f (fgK_f (fgK_f (fgK_f (fgK_f (fgK_f (fgK_f (fgK_f (fgK_f (fgK_f (fgK_f (fgK_f (fgK_f (fgK_f (fgK_f (fgK_f (fgK_f (fgK_f (fgK_f (fgK_f (fgK_f (fgK_f (fgK_f (fgK_f (fgK_f (fgK_f (fgK_f (fgK_f (fgK_f (fgK_f (fgK_f (fgK_f (fgK_f (fgK_f (fgK_f (fgK_f (fgK_f (fgK_f (fgK_f (fgK_f (fgK_f (fgK_f (fgK_f (fgK_f (fgK_f (fgK_f (fgK_f (fgK_f (fgK_f (fgK_f (fgK_f (fgK_f (fgK_f (fgK_f (fgK_f (fgK_f (fgK_f (fgK_f (fgK_f (fgK_f (fgK_f (fgK_f (fgK_f (fgK_f (fgK_f (fgK_f (fgK_f (fgK_f (fgK_f (fgK_f (fgK_f (fgK_f (fgK_f (fgK_f (fgK_f (fgK_f (fgK_f (fgK_f (fgK_f (fgK_f (fgK_f (fgK_f (fgK_f (fgK_f (fgK_f (fgK_f (fgK_f (fgK_f (fgK_f (fgK_f (fgK_f (fgK_f (fgK_f (fgK_f (fgK_f (fgK_f (fgK_f (fgK_f (fgK_f (fgK_f (fgK_f fgK_nil)))))))))))))))))))))))))))))))))))))))))))))))))))))))))))))))))))))))))))))))))))))))))))))))))))))))))))))))))))))))))))))))))))))))))))))))))))) (keep_of (keep_cons rfl (mapKL_clo _ _ _ (Enc.clo _)) (keep_cons rfl (mapKL_cons' (kz_bsl (α := En) (t := 43) (l := x1.l) rfl rfl rfl) (mapKL_cons' (mapK_clo _ _ _ rfl) (mapKL_cons' (mapK_clo _ _ _ rfl) mapKL_nil'))) keep_nil)) rfl)
   ·
    intro j1 h
    refine w_start (by dsimp only [setAll, topAll, List.foldl, List.set]) rfl ?_
    refine w_seq (w_region ?_)
    refine w_op (a := .agg (Enc.cells (x1 : Trc))) rfl rfl rfl rfl (by dsimp only [aput, List.set]) ?_
    refine w_op (a := .agg (Enc.cells (j1.2 : Trc))) rfl rfl rfl rfl (by dsimp only [aput, List.set]) ?_
    obtain ⟨x12, hx12, h⟩ := bindE_e h
    refine w_callc (args' := [.agg (Enc.cells (x1 : Trc)), .agg (Enc.cells (j1.2 : Trc))]) (r := .tup [.raw (.int .i64 x12.1), .raw (.bool x12.2)]) (differ_sh fuel x1 j1.2 x12 hx12) rfl rfl (stripL_cons (strip_c (clo_agg (Enc.clo _))) (stripL_cons (strip_c (clo_agg (Enc.clo _))) rfl)) (okTrimL_cons (okTrim_clo _ _ (clo_agg (Enc.clo _))) (okTrimL_cons (okTrim_clo _ _ (clo_agg (Enc.clo _))) rfl)) (by dsimp only [aput, List.set]) ?_
    refine w_op (a := .tup [.raw (.int .i64 x12.1), .raw (.bool x12.2)]) rfl rfl rfl rfl (by dsimp only [aput, List.set]) ?_
    refine w_op (a := .raw (.int .i64 x12.1)) rfl rfl rfl rfl (by dsimp only [aput, List.set]) ?_
    refine w_op (a := .raw (.bool x12.2)) rfl rfl rfl rfl (by dsimp only [aput, List.set]) ?_
    refine w_op (a := .raw (.int .i64 x12.1)) rfl rfl rfl rfl (by dsimp only [aput, List.set]) ?_
    refine w_op (a := .raw (.bool x12.2)) rfl rfl rfl rfl (by dsimp only [aput, List.set]) ?_
    refine w_seq (w_region ?_)
    refine w_op (a := .agg (Enc.cells (j1.2 : Trc))) rfl rfl rfl rfl (by dsimp only [aput, List.set]) ?_
    refine w_op (a := .agg (Enc.cells (x1 : Trc))) rfl rfl rfl rfl (by dsimp only [aput, List.set]) ?_
    obtain ⟨x13, hx13, h⟩ := bindE_e h
    refine w_callc (args' := [.agg (Enc.cells (j1.2 : Trc)), .agg (Enc.cells (x1 : Trc))]) (r := .tup [.raw (.int .i64 x13.1), .raw (.bool x13.2)]) (differ_sh fuel j1.2 x1 x13 hx13) rfl rfl (stripL_cons (strip_c (clo_agg (Enc.clo _))) (stripL_cons (strip_c (clo_agg (Enc.clo _))) rfl)) (okTrimL_cons (okTrim_clo _ _ (clo_agg (Enc.clo _))) (okTrimL_cons (okTrim_clo _ _ (clo_agg (Enc.clo _))) rfl)) (by dsimp only [aput, List.set]) ?_
    refine w_op (a := .tup [.raw (.int .i64 x13.1), .raw (.bool x13.2)]) rfl rfl rfl rfl (by dsimp only [aput, List.set]) ?_
    refine w_op (a := .raw (.int .i64 x13.1)) rfl rfl rfl rfl (by dsimp only [aput, List.set]) ?_
    refine w_op (a := .raw (.bool x13.2)) rfl rfl rfl rfl (by dsimp only [aput, List.set]) ?_
    refine w_op (a := .raw (.int .i64 x13.1)) rfl rfl rfl rfl (by dsimp only [aput, List.set]) ?_
    refine w_op (a := .raw (.bool x13.2)) rfl rfl rfl rfl (by dsimp only [aput, List.set]) ?_
    refine w_seq (w_region ?_)
    refine w_op (a := .agg (Enc.cells (x1 : Trc))) rfl rfl rfl rfl (by dsimp only [aput, List.set]) ?_
    refine w_op (a := .agg (Enc.cells (x1 : Trc))) rfl rfl rfl rfl (by dsimp only [aput, List.set]) ?_
    obtain ⟨x14, hx14, h⟩ := bindE_e h
    refine w_callc (args' := [.agg (Enc.cells (x1 : Trc)), .agg (Enc.cells (x1 : Trc))]) (r := .tup [.raw (.int .i64 x14.1), .raw (.bool x14.2)]) (differ_sh fuel x1 x1 x14 hx14) rfl rfl (stripL_cons (strip_c (clo_agg (Enc.clo _))) (stripL_cons (strip_c (clo_agg (Enc.clo _))) rfl)) (okTrimL_cons (okTrim_clo _ _ (clo_agg (Enc.clo _))) (okTrimL_cons (okTrim_clo _ _ (clo_agg (Enc.clo _))) rfl)) (by dsimp only [aput, List.set]) ?_
    refine w_op (a := .tup [.raw (.int .i64 x14.1), .raw (.bool x14.2)]) rfl rfl rfl rfl (by dsimp only [aput, List.set]) ?_
    refine w_op (a := .raw (.int .i64 x14.1)) rfl rfl rfl rfl (by dsimp only [aput, List.set]) ?_
    refine w_op (a := .raw (.bool x14.2)) rfl rfl rfl rfl (by dsimp only [aput, List.set]) ?_
    refine w_op (a := .raw (.int .i64 x14.1)) rfl rfl rfl rfl (by dsimp only [aput, List.set]) ?_
    refine w_op (a := .raw (.bool x14.2)) rfl rfl rfl rfl (by dsimp only [aput, List.set]) ?_
    refine w_seq (w_region ?_)
    refine w_op (a := .raw (.bool x12.2)) rfl rfl rfl rfl (by dsimp only [aput, List.set]) ?_
    refine bif_e h (fun hc11 h => ?_) (fun hc11 h => ?_)
    ·
     refine w_op (a := .raw (.bool true)) rfl rfl rfl (op_q (q_bool rfl hc11)) (by dsimp only [aput, List.set]) ?_
     refine w_met rfl rfl ?_
     refine w_op (a := .raw (.bool x13.2)) rfl rfl rfl rfl (by dsimp only [aput, List.set]) ?_
     refine w_op (a := .raw (.bool x13.2)) rfl rfl rfl rfl (by dsimp only [aput, List.set]) ?_
     refine bif_e h (fun hc12 h => ?_) (fun hc12 h => ?_)
     ·
      refine w_op (a := .raw (.bool true)) rfl rfl rfl (op_q (q_bool rfl hc12)) (by dsimp only [aput, List.set]) ?_
      refine w_met rfl rfl ?_
      refine w_op (a := .raw (.bool x14.2)) rfl rfl rfl rfl (by dsimp only [aput, List.set]) ?_
      refine w_met rfl rfl ?_
      refine w_op (a := .raw (.bool (!x14.2))) rfl rfl rfl rfl (by dsimp only [aput, List.set]) ?_
      refine w_op (a := .raw (.bool (!x14.2))) rfl rfl rfl rfl (by dsimp only [aput, List.set]) ?_
      refine bif_e h (fun hc13 h => ?_) (fun hc13 h => ?_)
      ·
       refine w_op (a := .raw (.bool true)) rfl rfl rfl (op_q (q_bool rfl hc13)) (by dsimp only [aput, List.set]) ?_
       refine w_met rfl rfl ?_
       refine w_op (a := .raw (.int .i64 x12.1)) rfl rfl rfl rfl (by dsimp only [aput, List.set]) ?_
       refine w_met rfl rfl ?_
       refine w_op (a := .raw (.int .i64 j1.1)) rfl rfl rfl rfl (by dsimp only [aput, List.set]) ?_
       refine w_met rfl rfl ?_
       refine w_op (a := .raw (.bool (x12.1 == j1.1))) rfl rfl rfl rfl (by dsimp only [aput, List.set]) ?_
       refine w_op (a := .raw (.bool (x12.1 == j1.1))) rfl rfl rfl rfl (by dsimp only [aput, List.set]) ?_
       refine bif_e h (fun hc14 h => ?_) (fun hc14 h => ?_)
       ·
        refine w_op (a := .raw (.bool true)) rfl rfl rfl (op_q (q_bool rfl hc14)) (by dsimp only [aput, List.set]) ?_
        refine w_met rfl rfl ?_
        refine w_op (a := .raw (.int .i64 x13.1)) rfl rfl rfl rfl (by dsimp only [aput, List.set]) ?_
        refine w_met rfl rfl ?_
        refine w_op (a := .raw (.int .i64 j1.1)) rfl rfl rfl rfl (by dsimp only [aput, List.set]) ?_
        refine w_met rfl rfl ?_
        refine w_op (a := .raw (.bool (x13.1 == j1.1))) rfl rfl rfl rfl (by dsimp only [aput, List.set]) ?_
        refine w_op (a := .raw (.bool (x13.1 == j1.1))) rfl rfl rfl rfl (by dsimp only [aput, List.set]) ?_
        refine bif_e h (fun hc15 h => ?_) (fun hc15 h => ?_)
        ·
         refine w_op (a := .raw (.bool true)) rfl rfl rfl (op_q (q_bool rfl hc15)) (by dsimp only [aput, List.set]) ?_
         refine w_met rfl rfl ?_
         refine w_op (a := .raw (.int .i64 x14.1)) rfl rfl rfl rfl (by dsimp only [aput, List.set]) ?_
         refine w_met rfl rfl ?_
         refine w_op (a := .raw (.bool (x14.1 == 0))) rfl rfl rfl rfl (by dsimp only [aput, List.set]) ?_
         refine w_op (a := .raw (.bool (x14.1 == 0))) rfl rfl rfl rfl (by dsimp only [aput, List.set]) ?_
         refine bif_e h (fun hc16 h => ?_) (fun hc16 h => ?_)
         ·
          refine w_op (a := .raw (.bool true)) rfl rfl rfl (op_q (q_bool rfl hc16)) (by dsimp only [aput, List.set]) ?_
          refine w_met rfl rfl ?_
          refine w_op (a := .agg (Enc.cells (x1 : Trc))) rfl rfl rfl rfl (by dsimp only [aput, List.set]) ?_
          refine w_met rfl rfl ?_
          refine w_op (a := .agg (Enc.cells (j1.2 : Trc))) rfl rfl rfl rfl (by dsimp only [aput, List.set]) ?_
          refine w_met rfl rfl ?_
          obtain ⟨x15, hx15, h⟩ := bindE_e h
          refine w_callc (args' := [.agg (Enc.cells (x1 : Trc)), .agg (Enc.cells (j1.2 : Trc))]) (r := .raw (.bool x15)) (same_sh fuel x1 j1.2 x15 hx15) rfl rfl (stripL_cons (strip_c (clo_agg (Enc.clo _))) (stripL_cons (strip_c (clo_agg (Enc.clo _))) rfl)) (okTrimL_cons (okTrim_clo _ _ (clo_agg (Enc.clo _))) (okTrimL_cons (okTrim_clo _ _ (clo_agg (Enc.clo _))) rfl)) (by dsimp only [aput, List.set]) ?_
          refine w_met rfl rfl ?_
          refine w_op (a := .raw (.bool (!x15))) rfl rfl rfl rfl (by dsimp only [aput, List.set]) ?_
          refine w_op (a := .raw (.bool (!x15))) rfl rfl rfl rfl (by dsimp only [aput, List.set]) ?_
          refine bif_e h (fun hc17 h => ?_) (fun hc17 h => ?_)
          ·
           refine w_op (a := .raw (.bool true)) rfl rfl rfl (op_q (q_bool rfl hc17)) (by dsimp only [aput, List.set]) ?_
           refine w_met rfl rfl ?_
           refine w_callc (args' := []) (r := .raw (.bool true)) awake_pure rfl rfl rfl rfl (by dsimp only [aput, List.set]) ?_
           refine w_op (a := .raw (.bool true)) rfl rfl rfl rfl (by dsimp only [aput, List.set]) ?_
           refine w_op (a := .raw (.bool true)) rfl rfl rfl rfl (by dsimp only [aput, List.set]) ?_
           exact end_pureF (fun (r : Bool) => (.raw (.bool r) : AV)) h (a := .raw (.bool true)) rfl rfl rfl
          ·
           refine w_op (a := .raw (.bool false)) rfl rfl rfl (op_q (q_bool rfl hc17)) (by dsimp only [aput, List.set]) ?_
           refine w_pass rfl rfl (by decide) (by dsimp only [aput, List.set]) ?_
           refine w_op (a := .raw (.bool false)) rfl rfl rfl rfl (by dsimp only [aput, List.set]) ?_
           refine w_op (a := .raw (.bool false)) rfl rfl rfl rfl (by dsimp only [aput, List.set]) ?_
           exact end_pureF (fun (r : Bool) => (.raw (.bool r) : AV)) h (a := .raw (.bool false)) rfl rfl rfl
         ·
          refine w_op (a := .raw (.bool false)) rfl rfl rfl (op_q (q_bool rfl hc16)) (by dsimp only [aput, List.set]) ?_
          refine w_pass rfl rfl (by decide) (by dsimp only [aput, List.set]) ?_
          refine w_pass rfl rfl (by decide) (by dsimp only [aput, List.set]) ?_
          refine w_pass rfl rfl (by decide) (by dsimp only [aput, List.set]) ?_
          refine w_pass rfl rfl (by decide) (by dsimp only [aput, List.set]) ?_
          refine w_op (a := .raw (.bool false)) rfl rfl rfl rfl (by dsimp only [aput, List.set]) ?_
          refine w_op (a := .raw (.bool false)) rfl rfl rfl rfl (by dsimp only [aput, List.set]) ?_
          refine w_pass rfl rfl (by decide) (by dsimp only [aput, List.set]) ?_
          refine w_op (a := .raw (.bool false)) rfl rfl rfl rfl (by dsimp only [aput, List.set]) ?_
          refine w_op (a := .raw (.bool false)) rfl rfl rfl rfl (by dsimp only [aput, List.set]) ?_
          exact end_pureF (fun (r : Bool) => (.raw (.bool r) : AV)) h (a := .raw (.bool false)) rfl rfl rfl
        ·
         refine w_op (a := .raw (.bool false)) rfl rfl rfl (op_q (q_bool rfl hc15)) (by dsimp only [aput, List.set]) ?_
         refine w_pass rfl rfl (by decide) (by dsimp only [aput, List.set]) ?_
         refine w_pass rfl rfl (by decide) (by dsimp only [aput, List.set]) ?_
         refine w_op (a := .raw (.bool false)) rfl rfl rfl rfl (by dsimp only [aput, List.set]) ?_
         refine w_op (a := .raw (.bool false)) rfl rfl rfl rfl (by dsimp only [aput, List.set]) ?_
         refine w_pass rfl rfl (by decide) (by dsimp only [aput, List.set]) ?_
         refine w_pass rfl rfl (by decide) (by dsimp only [aput, List.set]) ?_
         refine w_pass rfl rfl (by decide) (by dsimp only [aput, List.set]) ?_
         refine w_pass rfl rfl (by decide) (by dsimp only [aput, List.set]) ?_
         refine w_op (a := .raw (.bool false)) rfl rfl rfl rfl (by dsimp only [aput, List.set]) ?_
         refine w_op (a := .raw (.bool false)) rfl rfl rfl rfl (by dsimp only [aput, List.set]) ?_
         refine w_pass rfl rfl (by decide) (by dsimp only [aput, List.set]) ?_
         refine w_op (a := .raw (.bool false)) rfl rfl rfl rfl (by dsimp only [aput, List.set]) ?_
         refine w_op (a := .raw (.bool false)) rfl rfl rfl rfl (by dsimp only [aput, List.set]) ?_
         exact end_pureF (fun (r : Bool) => (.raw (.bool r) : AV)) h (a := .raw (.bool false)) rfl rfl rfl
       ·
        refine w_op (a := .raw (.bool false)) rfl rfl rfl (op_q (q_bool rfl hc14)) (by dsimp only [aput, List.set]) ?_
        refine w_pass rfl rfl (by decide) (by dsimp only [aput, List.set]) ?_
        refine w_pass rfl rfl (by decide) (by dsimp only [aput, List.set]) ?_
        refine w_pass rfl rfl (by decide) (by dsimp only [aput, List.set]) ?_
        refine w_op (a := .raw (.bool false)) rfl rfl rfl rfl (by dsimp only [aput, List.set]) ?_
        refine w_op (a := .raw (.bool false)) rfl rfl rfl rfl (by dsimp only [aput, List.set]) ?_
        refine w_pass rfl rfl (by decide) (by dsimp only [aput, List.set]) ?_
        refine w_pass rfl rfl (by decide) (by dsimp only [aput, List.set]) ?_
        refine w_op (a := .raw (.bool false)) rfl rfl rfl rfl (by dsimp only [aput, List.set]) ?_
        refine w_op (a := .raw (.bool false)) rfl rfl rfl rfl (by dsimp only [aput, List.set]) ?_
        refine w_pass rfl rfl (by decide) (by dsimp only [aput, List.set]) ?_
        refine w_pass rfl rfl (by decide) (by dsimp only [aput, List.set]) ?_
        refine w_pass rfl rfl (by decide) (by dsimp only [aput, List.set]) ?_
        refine w_pass rfl rfl (by decide) (by dsimp only [aput, List.set]) ?_
        refine w_op (a := .raw (.bool false)) rfl rfl rfl rfl (by dsimp only [aput, List.set]) ?_
        refine w_op (a := .raw (.bool false)) rfl rfl rfl rfl (by dsimp only [aput, List.set]) ?_
        refine w_pass rfl rfl (by decide) (by dsimp only [aput, List.set]) ?_
        refine w_op (a := .raw (.bool false)) rfl rfl rfl rfl (by dsimp only [aput, List.set]) ?_
        refine w_op (a := .raw (.bool false)) rfl rfl rfl rfl (by dsimp only [aput, List.set]) ?_
        exact end_pureF (fun (r : Bool) => (.raw (.bool r) : AV)) h (a := .raw (.bool false)) rfl rfl rfl
      ·
       refine w_op (a := .raw (.bool false)) rfl rfl rfl (op_q (q_bool rfl hc13)) (by dsimp only [aput, List.set]) ?_
       refine w_pass rfl rfl (by decide) (by dsimp only [aput, List.set]) ?_
       refine w_pass rfl rfl (by decide) (by dsimp only [aput, List.set]) ?_
       refine w_pass rfl rfl (by decide) (by dsimp only [aput, List.set]) ?_
       refine w_op (a := .raw (.bool false)) rfl rfl rfl rfl (by dsimp only [aput, List.set]) ?_
       refine w_op (a := .raw (.bool false)) rfl rfl rfl rfl (by dsimp only [aput, List.set]) ?_
       refine w_pass rfl rfl (by decide) (by dsimp only [aput, List.set]) ?_
       refine w_pass rfl rfl (by decide) (by dsimp only [aput, List.set]) ?_
       refine w_pass rfl rfl (by decide) (by dsimp only [aput, List.set]) ?_
       refine w_op (a := .raw (.bool false)) rfl rfl rfl rfl (by dsimp only [aput, List.set]) ?_
       refine w_op (a := .raw (.bool false)) rfl rfl rfl rfl (by dsimp only [aput, List.set]) ?_
       refine w_pass rfl rfl (by decide) (by dsimp only [aput, List.set]) ?_
       refine w_pass rfl rfl (by decide) (by dsimp only [aput, List.set]) ?_
       refine w_op (a := .raw (.bool false)) rfl rfl rfl rfl (by dsimp only [aput, List.set]) ?_
       refine w_op (a := .raw (.bool false)) rfl rfl rfl rfl (by dsimp only [aput, List.set]) ?_
       refine w_pass rfl rfl (by decide) (by dsimp only [aput, List.set]) ?_
       refine w_pass rfl rfl (by decide) (by dsimp only [aput, List.set]) ?_
       refine w_pass rfl rfl (by decide) (by dsimp only [aput, List.set]) ?_
       refine w_pass rfl rfl (by decide) (by dsimp only [aput, List.set]) ?_
       refine w_op (a := .raw (.bool false)) rfl rfl rfl rfl (by dsimp only [aput, List.set]) ?_
       refine w_op (a := .raw (.bool false)) rfl rfl rfl rfl (by dsimp only [aput, List.set]) ?_
       refine w_pass rfl rfl (by decide) (by dsimp only [aput, List.set]) ?_
       refine w_op (a := .raw (.bool false)) rfl rfl rfl rfl (by dsimp only [aput, List.set]) ?_
       refine w_op (a := .raw (.bool false)) rfl rfl rfl rfl (by dsimp only [aput, List.set]) ?_
       exact end_pureF (fun (r : Bool) => (.raw (.bool r) : AV)) h (a := .raw (.bool false)) rfl rfl rfl
     ·
      refine w_op (a := .raw (.bool false)) rfl rfl rfl (op_q (q_bool rfl hc12)) (by dsimp only [aput, List.set]) ?_
      refine w_pass rfl rfl (by decide) (by dsimp only [aput, List.set]) ?_
      refine w_pass rfl rfl (by decide) (by dsimp only [aput, List.set]) ?_
      refine w_op (a := .raw (.bool false)) rfl rfl rfl rfl (by dsimp only [aput, List.set]) ?_
      refine w_op (a := .raw (.bool false)) rfl rfl rfl rfl (by dsimp only [aput, List.set]) ?_
      refine w_pass rfl rfl (by decide) (by dsimp only [aput, List.set]) ?_
      refine w_pass rfl rfl (by decide) (by dsimp only [aput, List.set]) ?_
      refine w_pass rfl rfl (by decide) (by dsimp only [aput, List.set]) ?_
      refine w_op (a := .raw (.bool false)) rfl rfl rfl rfl (by dsimp only [aput, List.set]) ?_
      refine w_op (a := .raw (.bool false)) rfl rfl rfl rfl (by dsimp only [aput, List.set]) ?_
      refine w_pass rfl rfl (by decide) (by dsimp only [aput, List.set]) ?_
      refine w_pass rfl rfl (by decide) (by dsimp only [aput, List.set]) ?_
      refine w_pass rfl rfl (by decide) (by dsimp only [aput, List.set]) ?_
      refine w_op (a := .raw (.bool false)) rfl rfl rfl rfl (by dsimp only [aput, List.set]) ?_
      refine w_op (a := .raw (.bool false)) rfl rfl rfl rfl (by dsimp only [aput, List.set]) ?_
      refine w_pass rfl rfl (by decide) (by dsimp only [aput, List.set]) ?_
      refine w_pass rfl rfl (by decide) (by dsimp only [aput, List.set]) ?_
      refine w_op (a := .raw (.bool false)) rfl rfl rfl rfl (by dsimp only [aput, List.set]) ?_
      refine w_op (a := .raw (.bool false)) rfl rfl rfl rfl (by dsimp only [aput, List.set]) ?_
      refine w_pass rfl rfl (by decide) (by dsimp only [aput, List.set]) ?_
      refine w_pass rfl rfl (by decide) (by dsimp only [aput, List.set]) ?_
      refine w_pass rfl rfl (by decide) (by dsimp only [aput, List.set]) ?_
      refine w_pass rfl rfl (by decide) (by dsimp only [aput, List.set]) ?_
      refine w_op (a := .raw (.bool false)) rfl rfl rfl rfl (by dsimp only [aput, List.set]) ?_
      refine w_op (a := .raw (.bool false)) rfl rfl rfl rfl (by dsimp only [aput, List.set]) ?_
      refine w_pass rfl rfl (by decide) (by dsimp only [aput, List.set]) ?_
      refine w_op (a := .raw (.bool false)) rfl rfl rfl rfl (by dsimp only [aput, List.set]) ?_
      refine w_op (a := .raw (.bool false)) rfl rfl rfl rfl (by dsimp only [aput, List.set]) ?_
      exact end_pureF (fun (r : Bool) => (.raw (.bool r) : AV)) h (a := .raw (.bool false)) rfl rfl rfl
    ·
     refine w_op (a := .raw (.bool false)) rfl rfl rfl (op_q (q_bool rfl hc11)) (by dsimp only [aput, List.set]) ?_
     refine w_pass rfl rfl (by decide) (by dsimp only [aput, List.set]) ?_
     refine w_op (a := .raw (.bool false)) rfl rfl rfl rfl (by dsimp only [aput, List.set]) ?_
     refine w_op (a := .raw (.bool false)) rfl rfl rfl rfl (by dsimp only [aput, List.set]) ?_
     refine w_pass rfl rfl (by decide) (by dsimp only [aput, List.set]) ?_
     refine w_pass rfl rfl (by decide) (by dsimp only [aput, List.set]) ?_
     refine w_op (a := .raw (.bool false)) rfl rfl rfl rfl (by dsimp only [aput, List.set]) ?_
     refine w_op (a := .raw (.bool false)) rfl rfl rfl rfl (by dsimp only [aput, List.set]) ?_
     refine w_pass rfl rfl (by decide) (by dsimp only [aput, List.set]) ?_
     refine w_pass rfl rfl (by decide) (by dsimp only [aput, List.set]) ?_
     refine w_pass rfl rfl (by decide) (by dsimp only [aput, List.set]) ?_
     refine w_op (a := .raw (.bool false)) rfl rfl rfl rfl (by dsimp only [aput, List.set]) ?_
     refine w_op (a := .raw (.bool false)) rfl rfl rfl rfl (by dsimp only [aput, List.set]) ?_
     refine w_pass rfl rfl (by decide) (by dsimp only [aput, List.set]) ?_
     refine w_pass rfl rfl (by decide) (by dsimp only [aput, List.set]) ?_
     refine w_pass rfl rfl (by decide) (by dsimp only [aput, List.set]) ?_
     refine w_op (a := .raw (.bool false)) rfl rfl rfl rfl (by dsimp only [aput, List.set]) ?_
     refine w_op (a := .raw (.bool false)) rfl rfl rfl rfl (by dsimp only [aput, List.set]) ?_
     refine w_pass rfl rfl (by decide) (by dsimp only [aput, List.set]) ?_
     refine w_pass rfl rfl (by decide) (by dsimp only [aput, List.set]) ?_
     refine w_op (a := .raw (.bool false)) rfl rfl rfl rfl (by dsimp only [aput, List.set]) ?_
     refine w_op (a := .raw (.bool false)) rfl rfl rfl rfl (by dsimp only [aput, List.set]) ?_
     refine w_pass rfl rfl (by decide) (by dsimp only [aput, List.set]) ?_
     refine w_pass rfl rfl (by decide) (by dsimp only [aput, List.set]) ?_
     refine w_pass rfl rfl (by decide) (by dsimp only [aput, List.set]) ?_
     refine w_pass rfl rfl (by decide) (by dsimp only [aput, List.set]) ?_
     refine w_op (a := .raw (.bool false)) rfl rfl rfl rfl (by dsimp only [aput, List.set]) ?_
     refine w_op (a := .raw (.bool false)) rfl rfl rfl rfl (by dsimp only [aput, List.set]) ?_
     refine w_pass rfl rfl (by decide) (by dsimp only [aput, List.set]) ?_
     refine w_op (a := .raw (.bool false)) rfl rfl rfl rfl (by dsimp only [aput, List.set]) ?_
     refine w_op (a := .raw (.bool false)) rfl rfl rfl rfl (by dsimp only [aput, List.set]) ?_
     exact end_pureF (fun (r : Bool) => (.raw (.bool r) : AV)) h (a := .raw (.bool false)) rfl rfl rfl
end Go.Ab
