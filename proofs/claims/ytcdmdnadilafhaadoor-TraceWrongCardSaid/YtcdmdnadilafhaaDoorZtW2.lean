/-
  trace: Made.
-/
import Derived.Test.YtcdmdnadilafhaaDoorZtPl
import Derived.Test.YtcdmdnadilafhaaDoorZtQs
set_option linter.unusedSimpArgs false
set_option linter.unusedVariables false
namespace Go.Ab
open Go Go.RowKit Go.Fwd Go.Proofs
def F_made (fuel : Nat) (l : (List Sme)) (en : Int) (code : Int) : Option Trc :=
  (cutE (τ := Trc) (chk (0 ≤ 0 ∧ 0 ≤ (min (List.length l : Int) 40) ∧ (min (List.length l : Int) 40) ≤ (List.length l : Int)) (loopE (β := Int × Int × Trc) (fun s1 => (bif (decide (s1.2.1 < (List.length (sub l 0 (min (List.length l : Int) 40)) : Int))) then (cutE (τ := Int × Trc) (chk (0 ≤ s1.2.1 ∧ s1.2.1 < (List.length (sub l 0 (min (List.length l : Int) 40)) : Int)) (letE (ix (sub l 0 (min (List.length l : Int) 40)) s1.2.1) (fun x1 => (chk (-9223372036854775808 ≤ (Int.tmod x1.far 20) ∧ (Int.tmod x1.far 20) < 9223372036854775808) (cutE (τ := Int × Trc) (bif ((Int.tmod x1.k 3) == 0) then (chk (0 ≤ 0 ∧ 0 ≤ (min (List.length x1.b : Int) 20) ∧ (min (List.length x1.b : Int) 20) ≤ (List.length x1.b : Int)) (chk ((List.length s1.2.2.l + List.length [(En.mk 1 0 0 (sub x1.b 0 (min (List.length x1.b : Int) 20)))]) * 40 ≤ 140737488355328) (some (Sum.inr (Sum.inl (s1.1, (Trc.mk (s1.2.2.l ++ [(En.mk 1 0 0 (sub x1.b 0 (min (List.length x1.b : Int) 20)))]) (Ed.mk s1.2.2.e.k s1.2.2.e.c)))))))) else (bif ((Int.tmod x1.k 3) == 1) then (chk (-9223372036854775808 ≤ (s1.1 + (Int.tmod x1.far 20)) ∧ (s1.1 + (Int.tmod x1.far 20)) < 9223372036854775808) (chk ((List.length s1.2.2.l + List.length [(En.mk 2 s1.1 (s1.1 + (Int.tmod x1.far 20)) [])]) * 40 ≤ 140737488355328) (some (Sum.inl ((Int.tmod x1.far 20), (Trc.mk (s1.2.2.l ++ [(En.mk 2 s1.1 (s1.1 + (Int.tmod x1.far 20)) [])]) (Ed.mk s1.2.2.e.k s1.2.2.e.c))))))) else (chk (-9223372036854775808 ≤ ((Int.tmod x1.far 20) + 1) ∧ ((Int.tmod x1.far 20) + 1) < 9223372036854775808) (chk (-9223372036854775808 ≤ (s1.1 + ((Int.tmod x1.far 20) + 1)) ∧ (s1.1 + ((Int.tmod x1.far 20) + 1)) < 9223372036854775808) (chk ((List.length s1.2.2.l + List.length [(En.mk 3 s1.1 (s1.1 + ((Int.tmod x1.far 20) + 1)) [])]) * 40 ≤ 140737488355328) (some (Sum.inl (((Int.tmod x1.far 20) + 1), (Trc.mk (s1.2.2.l ++ [(En.mk 3 s1.1 (s1.1 + ((Int.tmod x1.far 20) + 1)) [])]) (Ed.mk s1.2.2.e.k s1.2.2.e.c)))))))))) (fun j3 => (chk (-9223372036854775808 ≤ (s1.1 + j3.1) ∧ (s1.1 + j3.1) < 9223372036854775808) (some (Sum.inl ((s1.1 + j3.1), (Trc.mk j3.2.l (Ed.mk j3.2.e.k j3.2.e.c)))))))))))) (fun j2 => (chk (-9223372036854775808 ≤ (s1.2.1 + 1) ∧ (s1.2.1 + 1) < 9223372036854775808) (some (Sum.inl (j2.1, (s1.2.1 + 1), (Trc.mk j2.2.l (Ed.mk j2.2.e.k j2.2.e.c)))))))) else (some (Sum.inr (Sum.inl ((Trc.mk s1.2.2.l (Ed.mk s1.2.2.e.k s1.2.2.e.c)))))))) fuel (0, 0, (Trc.mk ([] : List En) (Ed.mk 0 0))))) (fun j1 => (cutE (τ := Trc) (bif ((IntKind.u8.wrap (1 + (Int.tmod en 5))) == 2) then (chk (-9223372036854775808 ≤ code ∧ code < 9223372036854775808) (some (Sum.inl ((Trc.mk j1.l (Ed.mk (IntKind.u8.wrap (1 + (Int.tmod en 5))) code)))))) else (some (Sum.inl ((Trc.mk j1.l (Ed.mk (IntKind.u8.wrap (1 + (Int.tmod en 5))) j1.e.c)))))) (fun j4 => (some (Trc.mk j4.l (Ed.mk j4.e.k j4.e.c)))))))
theorem ent14 : Ent Tryd.prog 14 := enters_of Tryd.func14 (by kernel_rfl) rfl
set_option maxRecDepth 100000 in
set_option maxHeartbeats 4000000 in
theorem made_sh (fuel : Nat) (l : (List Sme)) (en : Int) (code : Int) (r : Trc) (h : F_made fuel l en code = some r) : Pure (ITP Tryd.prog) Tryd.prog 14 [.list (List.length (l : List Sme)) (Enc.cellsL (l : List Sme)) .none, .raw (.int .u8 en), .raw (.int .u8 code)] (.agg (Enc.cells (r : Trc))) := by
 obtain ⟨d, hd⟩ : ∃ d, Tryd.f14.body = some d := ⟨_, rfl⟩
 refine pure_of mix Tryd.func14 hd ent14 ?_
 cases hd
 unfold F_made at h
 refine w_start (by dsimp only [abeginS, Tryd.f14, List.length_cons, List.length_nil, Nat.zero_add, Nat.reduceAdd, Nat.reduceSub, List.replicate, List.cons_append, List.nil_append]) (by dsimp only [St.empty]) ?_
 refine w_seq (w_region ?_)
 refine w_opm (a := .ptr 0 0) (σ'' := ⟨[(26, [.list 0 [] .full, .raw (.int .u8 0), .raw (.int .i64 0)])], [], [], 0, false⟩) rfl rfl rfl rfl (by dsimp only [aput, List.set]) rfl ?_
 refine w_seq (w_region ?_)
 refine w_opm (a := .ptr 1 0) (σ'' := ⟨[(26, [.list 0 [] .full, .raw (.int .u8 0), .raw (.int .i64 0)]), (26, [.list (List.length (([] : List En) : List En)) (Enc.cellsL (([] : List En) : List En)) .full, .raw (.int .u8 0), .raw (.int .i64 0)])], [], [], 0, false⟩) rfl rfl rfl rfl (by dsimp only [aput, List.set]) rfl ?_
 refine w_seq (w_region ?_)
 refine w_op (a := .raw (.int .i64 0)) rfl rfl rfl rfl (by dsimp only [aput, List.set]) ?_
 refine w_cutF h [0, 3, 4, 5, 8, 9, 10, 11, 12, 13, 14, 15, 16, 17, 18, 19, 20, 21, 22, 23, 24, 25, 26, 27, 28, 29, 30, 31, 32, 33, 34, 35, 36, 37, 38, 39, 40, 41, 42, 43, 44, 45, 46, 47, 48, 49, 50, 51, 52, 53, 54, 55, 56, 57, 58, 59, 60, 61, 62, 63, 64, 65, 66, 67, 68, 69, 70, 71, 72, 73, 74, 75, 76, 77, 78, 79, 80, 81, 82, 83, 84, 85, 86] (fun j1 => []) (fun j1 => (ownSt [(26, [.list 0 [] .full, .raw (.int .u8 0), .raw (.int .i64 0)]), (26, [(ownAV (List.length (j1.l : List En)) (Enc.cellsL (j1.l : List En))), .raw (.int .u8 j1.e.k), .raw (.int .i64 j1.e.c)])] 43 (List.length (j1.l : List En)) 4)) ?_ ?_
 ·
  intro or1 h hr1
  refine w_seq (w_region ?_)
  refine w_op (a := .list (List.length (l : List Sme)) (Enc.cellsL (l : List Sme)) .none) rfl rfl rfl rfl (by dsimp only [aput, List.set]) ?_
  refine w_op (a := .list (List.length (l : List Sme)) (Enc.cellsL (l : List Sme)) .none) rfl rfl rfl rfl (by dsimp only [aput, List.set]) ?_
  refine w_op (a := .raw (.int .i64 (List.length l : Int))) rfl rfl rfl rfl (by dsimp only [aput, List.set]) ?_
  refine w_op (a := .raw (.int .i64 (min (List.length l : Int) 40))) rfl rfl rfl (op_q (q_min rfl rfl rfl rfl rfl)) (by dsimp only [aput, List.set]) ?_
  obtain ⟨g1, h⟩ := chk_e h
  refine w_qs (.list (List.length ((sub l 0 (min (List.length l : Int) 40)) : List Sme)) (Enc.cellsL ((sub l 0 (min (List.length l : Int) 40)) : List Sme)) .none) rfl rfl rfl (q_sub_H (α := Sme) (l := l) g1 rfl rfl rfl rfl rfl) (strip_sub _ _ _) (by dsimp only [aput, List.set]) ?_
  refine w_op (a := .raw (.int .i64 (List.length (sub l 0 (min (List.length l : Int) 40)) : Int))) rfl rfl rfl rfl (by dsimp only [aput, List.set]) ?_
  refine w_op (a := .raw (.int .i64 0)) rfl rfl rfl rfl (by dsimp only [aput, List.set]) ?_
  refine w_block ?_
  refine w_loopF h [0, 3, 4, 5, 8, 9, 10, 11, 12, 13, 14, 15, 18, 19, 20, 21, 22, 23, 24, 25, 26, 27, 28, 29, 30, 31, 32, 33, 34, 35, 36, 37, 38, 39, 40, 41, 42, 43, 44, 45, 46, 47, 48, 49, 50, 51, 52, 53, 54, 55, 56, 57, 58, 59, 60, 61, 62, 63, 64, 65, 66, 67, 68, 69, 70, 71, 72, 73, 74, 75, 76, 77, 78, 79, 80, 81, 82, 83, 84, 85, 86] (fun s1 => [(8, .raw (.int .i64 s1.1)), (18, .raw (.int .i64 s1.2.1))]) (fun s1 => (ownSt [(26, [.list 0 [] .full, .raw (.int .u8 0), .raw (.int .i64 0)]), (26, [(ownAV (List.length (s1.2.2.l : List En)) (Enc.cellsL (s1.2.2.l : List En))), .raw (.int .u8 s1.2.2.e.k), .raw (.int .i64 s1.2.2.e.c)])] 43 (List.length (s1.2.2.l : List En)) 4)) ?_ ?_
  ·
   exact wm_of [false, true, true, false, false, false, true, true, true, false, false, false, false, false, false, false, true, true, true, false, false, false, false, false, false, false, false, false, false, false, false, false, false, false, false, false, false, false, false, false, false, false, false, false, false, false, false, false, false, false, false, false, false, false, false, false, false, false, false, false, false, false, false, false, false, false, false, false, false, false, false, false, false, false, false, false, false, false, false, false, false, false, false, false, false, false, false] (by kernel_rfl) (by kernel_rfl)
  ·
   intro s1 p1 h
   refine w_start (by dsimp only [setAll, topAll, List.foldl, List.set]) rfl ?_
   refine w_seq (w_region ?_)
   refine w_op (a := .raw (.bool (decide (s1.2.1 < (List.length (sub l 0 (min (List.length l : Int) 40)) : Int))))) rfl rfl rfl rfl (by dsimp only [aput, List.set]) ?_
   refine w_seq ?_
   refine bif_e h (fun hc1 h => ?_) (fun hc1 h => ?_)
   ·
    refine w_condT hc1 rfl ?_
    refine w_cutF h [8, 10, 11, 19, 20, 21, 22, 23, 24, 25, 26, 27, 28, 29, 30, 31, 32, 33, 34, 35, 36, 37, 38, 39, 40, 41, 42, 43, 44, 45, 46, 47, 48, 49, 50, 51, 52, 53, 54, 55, 56, 57, 58, 59, 60, 61, 62, 63, 64, 65, 66, 67, 68, 69, 70, 71] (fun j2 => [(8, .raw (.int .i64 j2.1))]) (fun j2 => (ownSt [(26, [.list 0 [] .full, .raw (.int .u8 0), .raw (.int .i64 0)]), (26, [(ownAV (List.length (j2.2.l : List En)) (Enc.cellsL (j2.2.l : List En))), .raw (.int .u8 j2.2.e.k), .raw (.int .i64 j2.2.e.c)])] 43 (List.length (j2.2.l : List En)) 4)) ?_ ?_
    ·
     intro or2 h hr2
     refine w_block ?_
     refine w_seq (w_region ?_)
     obtain ⟨g2, h⟩ := chk_e h
     obtain ⟨x1, hx1, h⟩ := letE_e h
     refine w_op (a := .iptr (Enc.cells x1 ++ Enc.cellsL (List.drop (Int.toNat s1.2.1 + 1) (sub l 0 (min (List.length l : Int) 40))))) rfl rfl rfl (op_q (by rw [← hx1]; exact (q_idx (α := Sme) (l := (sub l 0 (min (List.length l : Int) 40))) g2 rfl rfl rfl rfl rfl))) (by dsimp only [aput, List.set]) ?_
     refine w_op (a := .agg (Enc.cells (x1 : Sme))) rfl rfl rfl rfl (by dsimp only [aput, List.set]) ?_
     refine w_opm (a := .ptr 2 0) (σ'' := (ownSt [(26, [.list 0 [] .full, .raw (.int .u8 0), .raw (.int .i64 0)]), (26, [(ownAV (List.length (s1.2.2.l : List En)) (Enc.cellsL (s1.2.2.l : List En))), .raw (.int .u8 s1.2.2.e.k), .raw (.int .i64 s1.2.2.e.c)]), (68, [.raw (.int .u8 0), .raw (.int .u8 0), .list 0 [] .full])] 43 (List.length (s1.2.2.l : List En)) 4)) rfl rfl rfl rfl (by dsimp only [aput, List.set]) rfl ?_
     refine w_opm (σ'' := (ownSt [(26, [.list 0 [] .full, .raw (.int .u8 0), .raw (.int .i64 0)]), (26, [(ownAV (List.length (s1.2.2.l : List En)) (Enc.cellsL (s1.2.2.l : List En))), .raw (.int .u8 s1.2.2.e.k), .raw (.int .i64 s1.2.2.e.c)]), (68, (Enc.cells (x1 : Sme)))] 43 (List.length (s1.2.2.l : List En)) 4)) rfl rfl rfl (op_storeW (n := 3) rfl rfl rfl rfl rfl rfl rfl rfl (by decide)) (by dsimp only [aput, List.set]) rfl ?_
     refine w_seq (w_region ?_)
     refine w_op (a := .ptr 2 1) rfl rfl rfl rfl (by dsimp only [aput, List.set]) ?_
     refine w_op (a := .raw (.int .u8 x1.far)) rfl rfl rfl rfl (by dsimp only [aput, List.set]) ?_
     refine w_op (a := .raw (.int .u8 (Int.tmod x1.far 20))) rfl rfl rfl rfl (by dsimp only [aput, List.set]) ?_
     obtain ⟨g3, h⟩ := chk_e h
     refine w_op (a := .raw (.int .i64 (Int.tmod x1.far 20))) rfl rfl rfl (op_q (q_conv64 g3 rfl rfl rfl)) (by dsimp only [aput, List.set]) ?_
     refine w_op (a := .raw (.int .i64 (Int.tmod x1.far 20))) rfl rfl rfl rfl (by dsimp only [aput, List.set]) ?_
     refine w_cutF h [10, 11, 19, 20, 21, 22, 23, 24, 25, 26, 27, 28, 29, 30, 31, 32, 33, 34, 35, 36, 37, 38, 39, 40, 41, 42, 43, 44, 45, 46, 47, 48, 49, 50, 51, 52, 53, 54, 55, 56, 57, 58, 59, 60, 61, 62, 63, 64, 65, 66, 67, 68] (fun j3 => [(11, .raw (.int .i64 j3.1))]) (fun j3 => (ownSt [(26, [.list 0 [] .full, .raw (.int .u8 0), .raw (.int .i64 0)]), (26, [(ownAV (List.length (j3.2.l : List En)) (Enc.cellsL (j3.2.l : List En))), .raw (.int .u8 j3.2.e.k), .raw (.int .i64 j3.2.e.c)]), (68, (Enc.cells (x1 : Sme)))] 43 (List.length (j3.2.l : List En)) 4)) ?_ ?_
     ·
      intro or3 h hr3
      refine w_seq (w_region ?_)
      refine w_op (a := .ptr 2 0) rfl rfl rfl rfl (by dsimp only [aput, List.set]) ?_
      refine w_op (a := .raw (.int .u8 x1.k)) rfl rfl rfl rfl (by dsimp only [aput, List.set]) ?_
      refine w_op (a := .raw (.int .u8 (Int.tmod x1.k 3))) rfl rfl rfl rfl (by dsimp only [aput, List.set]) ?_
      refine w_block ?_
      refine w_seq (w_region ?_)
      refine w_op (a := .raw (.bool ((Int.tmod x1.k 3) == 0))) rfl rfl rfl rfl (by dsimp only [aput, List.set]) ?_
      refine w_op (a := .raw (.bool ((Int.tmod x1.k 3) == 0))) rfl rfl rfl rfl (by dsimp only [aput, List.set]) ?_
      refine bif_e h (fun hc2 h => ?_) (fun hc2 h => ?_)
      ·
       refine w_condT hc2 rfl ?_
       refine w_seq ?_
       refine w_draw (id := 11) 12 (by kernel_rfl) (by kernel_rfl) ?_
       refine h_op (a := .ptr 1 0) rfl rfl rfl rfl (by dsimp only [aput, List.set]) ?_
       refine h_op (a := (ownAV (List.length (s1.2.2.l : List En)) (Enc.cellsL (s1.2.2.l : List En)))) rfl rfl rfl rfl (by dsimp only [aput, List.set]) ?_
       refine h_op (a := .ptr 2 2) rfl rfl rfl rfl (by dsimp only [aput, List.set]) ?_
       refine h_op (a := .list (List.length (x1.b : List UInt8)) (Enc.cellsL (x1.b : List UInt8)) .none) rfl rfl rfl rfl (by dsimp only [aput, List.set]) ?_
       refine h_op (a := .ptr 2 2) rfl rfl rfl rfl (by dsimp only [aput, List.set]) ?_
       refine h_op (a := .list (List.length (x1.b : List UInt8)) (Enc.cellsL (x1.b : List UInt8)) .none) rfl rfl rfl rfl (by dsimp only [aput, List.set]) ?_
       refine h_op (a := .raw (.int .i64 (List.length x1.b : Int))) rfl rfl rfl rfl (by dsimp only [aput, List.set]) ?_
       refine h_op (a := .raw (.int .i64 (min (List.length x1.b : Int) 20))) rfl rfl rfl (q_min rfl rfl rfl rfl rfl) (by dsimp only [aput, List.set]) ?_
       obtain ⟨g4, h⟩ := chk_e h
       refine h_opS (a := .list (List.length ((sub x1.b 0 (min (List.length x1.b : Int) 20)) : List UInt8)) (Enc.cellsL ((sub x1.b 0 (min (List.length x1.b : Int) 20)) : List UInt8)) .none) rfl rfl rfl (q_sub_H (α := UInt8) (l := x1.b) g4 rfl rfl rfl rfl rfl) (strip_sub _ _ _) (by dsimp only [aput, List.set]) ?_
       refine h_op (a := .raw (.string (bs (sub x1.b 0 (min (List.length x1.b : Int) 20))))) rfl rfl rfl (q_bstr (l := (sub x1.b 0 (min (List.length x1.b : Int) 20))) rfl rfl ⟨rfl, rfl⟩ rfl) (by dsimp only [aput, List.set]) ?_
       refine h_op (a := .agg (Enc.cells ((En.mk 1 0 0 (sub x1.b 0 (min (List.length x1.b : Int) 20))) : En))) rfl rfl rfl rfl (by dsimp only [aput, List.set]) ?_
       refine h_op (a := .list (List.length ([(En.mk 1 0 0 (sub x1.b 0 (min (List.length x1.b : Int) 20)))] : List En)) (Enc.cellsL ([(En.mk 1 0 0 (sub x1.b 0 (min (List.length x1.b : Int) 20)))] : List En)) .full) rfl rfl rfl (q_lit (α := En) (l := [(En.mk 1 0 0 (sub x1.b 0 (min (List.length x1.b : Int) 20)))]) (cs := Enc.cells ((En.mk 1 0 0 (sub x1.b 0 (min (List.length x1.b : Int) 20))) : En) ++ []) rfl (by rw [Enc.cons, Enc.nil])) (by dsimp only [aput, List.set]) ?_
       refine h_end ?_
       obtain ⟨g5, h⟩ := chk_e h
       refine w_opm (a := (ownAV (List.length ((s1.2.2.l ++ [(En.mk 1 0 0 (sub x1.b 0 (min (List.length x1.b : Int) 20)))]) : List En)) (Enc.cellsL ((s1.2.2.l ++ [(En.mk 1 0 0 (sub x1.b 0 (min (List.length x1.b : Int) 20)))]) : List En)))) (σ'' := (ownSt [(26, [.list 0 [] .full, .raw (.int .u8 0), .raw (.int .i64 0)]), (26, [(ownAV (List.length (s1.2.2.l : List En)) (Enc.cellsL (s1.2.2.l : List En))), .raw (.int .u8 s1.2.2.e.k), .raw (.int .i64 s1.2.2.e.c)]), (68, (Enc.cells (x1 : Sme)))] 43 (List.length ((s1.2.2.l ++ [(En.mk 1 0 0 (sub x1.b 0 (min (List.length x1.b : Int) 20)))]) : List En)) 4)) rfl rfl rfl (op_append rfl rfl rfl rfl (append_ownE (α := En) (bs := [(26, [.list 0 [] .full, .raw (.int .u8 0), .raw (.int .i64 0)]), (26, [(ownAV (List.length (s1.2.2.l : List En)) (Enc.cellsL (s1.2.2.l : List En))), .raw (.int .u8 s1.2.2.e.k), .raw (.int .i64 s1.2.2.e.c)]), (68, (Enc.cells (x1 : Sme)))]) (a := s1.2.2.l) (b := [(En.mk 1 0 0 (sub x1.b 0 (min (List.length x1.b : Int) 20)))]) g5 rfl rfl rfl rfl rfl ⟨rfl, by decide⟩)) (by dsimp only [aput, List.set]) rfl ?_
       refine w_op (a := .ptr 1 0) rfl rfl rfl rfl (by dsimp only [aput, List.set]) ?_
       refine w_opm (σ'' := (ownSt [(26, [.list 0 [] .full, .raw (.int .u8 0), .raw (.int .i64 0)]), (26, [(ownAV (List.length ((s1.2.2.l ++ [(En.mk 1 0 0 (sub x1.b 0 (min (List.length x1.b : Int) 20)))]) : List En)) (Enc.cellsL ((s1.2.2.l ++ [(En.mk 1 0 0 (sub x1.b 0 (min (List.length x1.b : Int) 20)))]) : List En))), .raw (.int .u8 s1.2.2.e.k), .raw (.int .i64 s1.2.2.e.c)]), (68, (Enc.cells (x1 : Sme)))] 43 (List.length ((s1.2.2.l ++ [(En.mk 1 0 0 (sub x1.b 0 (min (List.length x1.b : Int) 20)))]) : List En)) 4)) rfl rfl rfl (op_storeO rfl rfl rfl rfl rfl (Nat.le_of_ble_eq_true rfl)) (by dsimp only [aput, List.set]) rfl ?_
       replace h := cut_inr h hr3
       refine cut_done (o := or2) (s1.1, (Trc.mk (s1.2.2.l ++ [(En.mk 1 0 0 (sub x1.b 0 (min (List.length x1.b : Int) 20)))]) (Ed.mk s1.2.2.e.k s1.2.2.e.c))) h ?_
       exact wm_trim [true, true, true, true, true, true, true, true, true, true, false, false, true, true, true, true, true, true, true, false, false, false, false, false, false, false, false, false, false, false, false, false, false, false, false, false, false, false, false, false, false, false, false, false, false, false, false, false, false, false, false, false, false, false, false, false, false, false, false, false, false, false, false, false, false, false, false, false, false, false, false, false, true, true, true, true, true, true, true, true, true, true, true, true, true, true, true] 2 (by kernel_rfl) (Nat.le_of_ble_eq_true rfl) (okSt_of (okB_cons rfl (okB_cons (okTrimL_cons (okTrim_own (Enc.cloL _)) (okTrimL_cons rfl (okTrimL_cons rfl rfl))) rfl))) (by dsimp only [setAll, topAll, List.foldl, List.set]; exact (okTrimL_cons rfl (okTrimL_cons rfl (okTrimL_cons rfl (okTrimL_cons rfl (okTrimL_cons rfl (okTrimL_cons rfl (okTrimL_cons (by decide) (okTrimL_cons (by decide) (okTrimL_cons rfl (okTrimL_cons rfl (okTrimL_cons rfl (okTrimL_cons rfl (okTrimL_cons rfl (okTrimL_cons rfl (okTrimL_cons rfl (okTrimL_cons rfl (okTrimL_cons (okTrim_l (Enc.cloL _)) (okTrimL_cons rfl (okTrimL_cons rfl (okTrimL_cons rfl (okTrimL_cons rfl (okTrimL_cons rfl (okTrimL_cons rfl (okTrimL_cons rfl (okTrimL_cons rfl (okTrimL_cons rfl (okTrimL_cons rfl (okTrimL_cons rfl (okTrimL_cons rfl (okTrimL_cons rfl (okTrimL_cons rfl (okTrimL_cons rfl (okTrimL_cons rfl (okTrimL_cons rfl (okTrimL_cons rfl (okTrimL_cons rfl (okTrimL_cons rfl (okTrimL_cons rfl (okTrimL_cons rfl (okTrimL_cons rfl (okTrimL_cons rfl (okTrimL_cons rfl (okTrimL_cons rfl (okTrimL_cons rfl (okTrimL_cons rfl (okTrimL_cons rfl (okTrimL_cons rfl (okTrimL_cons rfl (okTrimL_cons rfl (okTrimL_cons rfl (okTrimL_cons rfl (okTrimL_cons rfl (okTrimL_cons rfl (okTrimL_cons rfl (okTrimL_cons rfl (okTrimL_cons rfl (okTrimL_cons rfl (okTrimL_cons rfl (okTrimL_cons rfl (okTrimL_cons rfl (okTrimL_cons rfl (okTrimL_cons rfl (okTrimL_cons rfl (okTrimL_cons rfl (okTrimL_cons rfl (okTrimL_cons rfl (okTrimL_cons rfl (okTrimL_cons rfl (okTrimL_cons rfl (okTrimL_cons rfl (okTrimL_cons rfl (okTrimL_cons rfl (okTrimL_cons rfl (okTrimL_cons rfl (okTrimL_cons rfl (okTrimL_cons rfl (okTrimL_cons rfl (okTrimL_cons rfl (okTrimL_cons rfl (okTrimL_cons rfl (okTrimL_cons rfl (okTrimL_cons rfl (okTrimL_cons rfl (okTrimL_cons rfl (okTrimL_cons rfl (okTrimL_cons rfl (okTrimL_cons rfl rfl)))))))))))))))))))))))))))))))))))))))))))))))))))))))))))))))))))))))))))))))))))))))) (by kernel_rfl)
      ·
       refine w_condF hc2 rfl ?_
       refine w_seq (w_region ?_)
       refine w_op (a := .raw (.bool ((Int.tmod x1.k 3) == 1))) rfl rfl rfl rfl (by dsimp only [aput, List.set]) ?_
       refine w_op (a := .raw (.bool ((Int.tmod x1.k 3) == 1))) rfl rfl rfl rfl (by dsimp only [aput, List.set]) ?_
       refine bif_e h (fun hc3 h => ?_) (fun hc3 h => ?_)
       ·
        refine w_condT hc3 rfl ?_
        refine w_region (k0 := 0) (id := 13) ?_
        refine w_op (a := .ptr 1 0) rfl rfl rfl rfl (by dsimp only [aput, List.set]) ?_
        refine w_op (a := (ownAV (List.length (s1.2.2.l : List En)) (Enc.cellsL (s1.2.2.l : List En)))) rfl rfl rfl rfl (by dsimp only [aput, List.set]) ?_
        refine w_op (a := .raw (.int .i64 s1.1)) rfl rfl rfl rfl (by dsimp only [aput, List.set]) ?_
        refine w_op (a := .raw (.int .i64 s1.1)) rfl rfl rfl rfl (by dsimp only [aput, List.set]) ?_
        refine w_op (a := .raw (.int .i64 (Int.tmod x1.far 20))) rfl rfl rfl rfl (by dsimp only [aput, List.set]) ?_
        obtain ⟨g6, h⟩ := chk_e h
        refine w_op (a := .raw (.int .i64 (s1.1 + (Int.tmod x1.far 20)))) rfl rfl rfl (op_q (q_add rfl rfl rfl rfl g6.1 g6.2)) (by dsimp only [aput, List.set]) ?_
        refine w_op (a := .agg (Enc.cells ((En.mk 2 s1.1 (s1.1 + (Int.tmod x1.far 20)) []) : En))) rfl rfl rfl rfl (by dsimp only [aput, List.set]) ?_
        refine w_op (a := .list (List.length ([(En.mk 2 s1.1 (s1.1 + (Int.tmod x1.far 20)) [])] : List En)) (Enc.cellsL ([(En.mk 2 s1.1 (s1.1 + (Int.tmod x1.far 20)) [])] : List En)) .full) rfl rfl rfl (op_q (q_lit (α := En) (l := [(En.mk 2 s1.1 (s1.1 + (Int.tmod x1.far 20)) [])]) (cs := Enc.cells ((En.mk 2 s1.1 (s1.1 + (Int.tmod x1.far 20)) []) : En) ++ []) rfl (by rw [Enc.cons, Enc.nil]))) (by dsimp only [aput, List.set]) ?_
        obtain ⟨g7, h⟩ := chk_e h
        refine w_opm (a := (ownAV (List.length ((s1.2.2.l ++ [(En.mk 2 s1.1 (s1.1 + (Int.tmod x1.far 20)) [])]) : List En)) (Enc.cellsL ((s1.2.2.l ++ [(En.mk 2 s1.1 (s1.1 + (Int.tmod x1.far 20)) [])]) : List En)))) (σ'' := (ownSt [(26, [.list 0 [] .full, .raw (.int .u8 0), .raw (.int .i64 0)]), (26, [(ownAV (List.length (s1.2.2.l : List En)) (Enc.cellsL (s1.2.2.l : List En))), .raw (.int .u8 s1.2.2.e.k), .raw (.int .i64 s1.2.2.e.c)]), (68, (Enc.cells (x1 : Sme)))] 43 (List.length ((s1.2.2.l ++ [(En.mk 2 s1.1 (s1.1 + (Int.tmod x1.far 20)) [])]) : List En)) 4)) rfl rfl rfl (op_append rfl rfl rfl rfl (append_ownE (α := En) (bs := [(26, [.list 0 [] .full, .raw (.int .u8 0), .raw (.int .i64 0)]), (26, [(ownAV (List.length (s1.2.2.l : List En)) (Enc.cellsL (s1.2.2.l : List En))), .raw (.int .u8 s1.2.2.e.k), .raw (.int .i64 s1.2.2.e.c)]), (68, (Enc.cells (x1 : Sme)))]) (a := s1.2.2.l) (b := [(En.mk 2 s1.1 (s1.1 + (Int.tmod x1.far 20)) [])]) g7 rfl rfl rfl rfl rfl ⟨rfl, by decide⟩)) (by dsimp only [aput, List.set]) rfl ?_
        refine w_op (a := .ptr 1 0) rfl rfl rfl rfl (by dsimp only [aput, List.set]) ?_
        refine w_opm (σ'' := (ownSt [(26, [.list 0 [] .full, .raw (.int .u8 0), .raw (.int .i64 0)]), (26, [(ownAV (List.length ((s1.2.2.l ++ [(En.mk 2 s1.1 (s1.1 + (Int.tmod x1.far 20)) [])]) : List En)) (Enc.cellsL ((s1.2.2.l ++ [(En.mk 2 s1.1 (s1.1 + (Int.tmod x1.far 20)) [])]) : List En))), .raw (.int .u8 s1.2.2.e.k), .raw (.int .i64 s1.2.2.e.c)]), (68, (Enc.cells (x1 : Sme)))] 43 (List.length ((s1.2.2.l ++ [(En.mk 2 s1.1 (s1.1 + (Int.tmod x1.far 20)) [])]) : List En)) 4)) rfl rfl rfl (op_storeO rfl rfl rfl rfl rfl (Nat.le_of_ble_eq_true rfl)) (by dsimp only [aput, List.set]) rfl ?_
        refine cut_done (o := or3) ((Int.tmod x1.far 20), (Trc.mk (s1.2.2.l ++ [(En.mk 2 s1.1 (s1.1 + (Int.tmod x1.far 20)) [])]) (Ed.mk s1.2.2.e.k s1.2.2.e.c))) h ?_
        exact wm_of [true, true, true, true, true, true, true, true, true, true, false, true, true, true, true, true, true, true, true, false, false, false, false, false, false, false, false, false, false, false, false, false, false, false, false, false, false, false, false, false, false, false, false, false, false, false, false, false, false, false, false, false, false, false, false, false, false, false, false, false, false, false, false, false, false, false, false, false, false, true, true, true, true, true, true, true, true, true, true, true, true, true, true, true, true, true, true] (by kernel_rfl) (by kernel_rfl)
       ·
        refine w_condF hc3 rfl ?_
        refine w_seq (w_region ?_)
        refine w_op (a := .raw (.int .i64 (Int.tmod x1.far 20))) rfl rfl rfl rfl (by dsimp only [aput, List.set]) ?_
        obtain ⟨g8, h⟩ := chk_e h
        refine w_op (a := .raw (.int .i64 ((Int.tmod x1.far 20) + 1))) rfl rfl rfl (op_q (q_add rfl rfl rfl rfl g8.1 g8.2)) (by dsimp only [aput, List.set]) ?_
        refine w_op (a := .raw (.int .i64 ((Int.tmod x1.far 20) + 1))) rfl rfl rfl rfl (by dsimp only [aput, List.set]) ?_
        refine w_region (k0 := 0) (id := 9) ?_
        refine w_op (a := .ptr 1 0) rfl rfl rfl rfl (by dsimp only [aput, List.set]) ?_
        refine w_op (a := (ownAV (List.length (s1.2.2.l : List En)) (Enc.cellsL (s1.2.2.l : List En)))) rfl rfl rfl rfl (by dsimp only [aput, List.set]) ?_
        refine w_op (a := .raw (.int .i64 s1.1)) rfl rfl rfl rfl (by dsimp only [aput, List.set]) ?_
        refine w_op (a := .raw (.int .i64 s1.1)) rfl rfl rfl rfl (by dsimp only [aput, List.set]) ?_
        refine w_op (a := .raw (.int .i64 ((Int.tmod x1.far 20) + 1))) rfl rfl rfl rfl (by dsimp only [aput, List.set]) ?_
        obtain ⟨g9, h⟩ := chk_e h
        refine w_op (a := .raw (.int .i64 (s1.1 + ((Int.tmod x1.far 20) + 1)))) rfl rfl rfl (op_q (q_add rfl rfl rfl rfl g9.1 g9.2)) (by dsimp only [aput, List.set]) ?_
        refine w_op (a := .agg (Enc.cells ((En.mk 3 s1.1 (s1.1 + ((Int.tmod x1.far 20) + 1)) []) : En))) rfl rfl rfl rfl (by dsimp only [aput, List.set]) ?_
        refine w_op (a := .list (List.length ([(En.mk 3 s1.1 (s1.1 + ((Int.tmod x1.far 20) + 1)) [])] : List En)) (Enc.cellsL ([(En.mk 3 s1.1 (s1.1 + ((Int.tmod x1.far 20) + 1)) [])] : List En)) .full) rfl rfl rfl (op_q (q_lit (α := En) (l := [(En.mk 3 s1.1 (s1.1 + ((Int.tmod x1.far 20) + 1)) [])]) (cs := Enc.cells ((En.mk 3 s1.1 (s1.1 + ((Int.tmod x1.far 20) + 1)) []) : En) ++ []) rfl (by rw [Enc.cons, Enc.nil]))) (by dsimp only [aput, List.set]) ?_
        obtain ⟨g10, h⟩ := chk_e h
        refine w_opm (a := (ownAV (List.length ((s1.2.2.l ++ [(En.mk 3 s1.1 (s1.1 + ((Int.tmod x1.far 20) + 1)) [])]) : List En)) (Enc.cellsL ((s1.2.2.l ++ [(En.mk 3 s1.1 (s1.1 + ((Int.tmod x1.far 20) + 1)) [])]) : List En)))) (σ'' := (ownSt [(26, [.list 0 [] .full, .raw (.int .u8 0), .raw (.int .i64 0)]), (26, [(ownAV (List.length (s1.2.2.l : List En)) (Enc.cellsL (s1.2.2.l : List En))), .raw (.int .u8 s1.2.2.e.k), .raw (.int .i64 s1.2.2.e.c)]), (68, (Enc.cells (x1 : Sme)))] 43 (List.length ((s1.2.2.l ++ [(En.mk 3 s1.1 (s1.1 + ((Int.tmod x1.far 20) + 1)) [])]) : List En)) 4)) rfl rfl rfl (op_append rfl rfl rfl rfl (append_ownE (α := En) (bs := [(26, [.list 0 [] .full, .raw (.int .u8 0), .raw (.int .i64 0)]), (26, [(ownAV (List.length (s1.2.2.l : List En)) (Enc.cellsL (s1.2.2.l : List En))), .raw (.int .u8 s1.2.2.e.k), .raw (.int .i64 s1.2.2.e.c)]), (68, (Enc.cells (x1 : Sme)))]) (a := s1.2.2.l) (b := [(En.mk 3 s1.1 (s1.1 + ((Int.tmod x1.far 20) + 1)) [])]) g10 rfl rfl rfl rfl rfl ⟨rfl, by decide⟩)) (by dsimp only [aput, List.set]) rfl ?_
        refine w_op (a := .ptr 1 0) rfl rfl rfl rfl (by dsimp only [aput, List.set]) ?_
        refine w_opm (σ'' := (ownSt [(26, [.list 0 [] .full, .raw (.int .u8 0), .raw (.int .i64 0)]), (26, [(ownAV (List.length ((s1.2.2.l ++ [(En.mk 3 s1.1 (s1.1 + ((Int.tmod x1.far 20) + 1)) [])]) : List En)) (Enc.cellsL ((s1.2.2.l ++ [(En.mk 3 s1.1 (s1.1 + ((Int.tmod x1.far 20) + 1)) [])]) : List En))), .raw (.int .u8 s1.2.2.e.k), .raw (.int .i64 s1.2.2.e.c)]), (68, (Enc.cells (x1 : Sme)))] 43 (List.length ((s1.2.2.l ++ [(En.mk 3 s1.1 (s1.1 + ((Int.tmod x1.far 20) + 1)) [])]) : List En)) 4)) rfl rfl rfl (op_storeO rfl rfl rfl rfl rfl (Nat.le_of_ble_eq_true rfl)) (by dsimp only [aput, List.set]) rfl ?_
        refine cut_done (o := or3) (((Int.tmod x1.far 20) + 1), (Trc.mk (s1.2.2.l ++ [(En.mk 3 s1.1 (s1.1 + ((Int.tmod x1.far 20) + 1)) [])]) (Ed.mk s1.2.2.e.k s1.2.2.e.c))) h ?_
        exact wm_of [true, true, true, true, true, true, true, true, true, true, false, true, true, true, true, true, true, true, true, false, false, false, false, false, false, false, false, false, false, false, false, false, false, false, false, false, false, false, false, false, false, false, false, false, false, false, false, false, false, false, false, false, false, false, false, false, false, false, false, false, false, false, false, false, false, false, false, false, false, true, true, true, true, true, true, true, true, true, true, true, true, true, true, true, true, true, true] (by kernel_rfl) (by kernel_rfl)
     ·
      intro j3 h
      refine w_start (by dsimp only [setAll, topAll, List.foldl, List.set]) rfl ?_
      refine w_region (k0 := 0) (id := 14) ?_
      refine w_op (a := .raw (.int .i64 s1.1)) rfl rfl rfl rfl (by dsimp only [aput, List.set]) ?_
      refine w_op (a := .raw (.int .i64 j3.1)) rfl rfl rfl rfl (by dsimp only [aput, List.set]) ?_
      obtain ⟨g11, h⟩ := chk_e h
      refine w_op (a := .raw (.int .i64 (s1.1 + j3.1))) rfl rfl rfl (op_q (q_add rfl rfl rfl rfl g11.1 g11.2)) (by dsimp only [aput, List.set]) ?_
      refine w_op (a := .raw (.int .i64 (s1.1 + j3.1))) rfl rfl rfl rfl (by dsimp only [aput, List.set]) ?_
      refine cut_done (o := or2) ((s1.1 + j3.1), (Trc.mk j3.2.l (Ed.mk j3.2.e.k j3.2.e.c))) h ?_
      exact wm_trim [true, true, true, true, true, true, true, true, true, true, false, false, true, true, true, true, true, true, true, false, false, false, false, false, false, false, false, false, false, false, false, false, false, false, false, false, false, false, false, false, false, false, false, false, false, false, false, false, false, false, false, false, false, false, false, false, false, false, false, false, false, false, false, false, false, false, false, false, false, false, false, false, true, true, true, true, true, true, true, true, true, true, true, true, true, true, true] 2 (by kernel_rfl) (Nat.le_of_ble_eq_true rfl) (okSt_of (okB_cons rfl (okB_cons (okTrimL_cons (okTrim_own (Enc.cloL _)) (okTrimL_cons rfl (okTrimL_cons rfl rfl))) rfl))) (by dsimp only [setAll, topAll, List.foldl, List.set]; exact (okTrimL_cons rfl (okTrimL_cons rfl (okTrimL_cons rfl (okTrimL_cons rfl (okTrimL_cons rfl (okTrimL_cons rfl (okTrimL_cons (by decide) (okTrimL_cons (by decide) (okTrimL_cons rfl (okTrimL_cons rfl (okTrimL_cons rfl (okTrimL_cons rfl (okTrimL_cons rfl (okTrimL_cons rfl (okTrimL_cons rfl (okTrimL_cons rfl (okTrimL_cons (okTrim_l (Enc.cloL _)) (okTrimL_cons rfl (okTrimL_cons rfl (okTrimL_cons rfl (okTrimL_cons rfl (okTrimL_cons rfl (okTrimL_cons rfl (okTrimL_cons rfl (okTrimL_cons rfl (okTrimL_cons rfl (okTrimL_cons rfl (okTrimL_cons rfl (okTrimL_cons rfl (okTrimL_cons rfl (okTrimL_cons rfl (okTrimL_cons rfl (okTrimL_cons rfl (okTrimL_cons rfl (okTrimL_cons rfl (okTrimL_cons rfl (okTrimL_cons rfl (okTrimL_cons rfl (okTrimL_cons rfl (okTrimL_cons rfl (okTrimL_cons rfl (okTrimL_cons rfl (okTrimL_cons rfl (okTrimL_cons rfl (okTrimL_cons rfl (okTrimL_cons rfl (okTrimL_cons rfl (okTrimL_cons rfl (okTrimL_cons rfl (okTrimL_cons rfl (okTrimL_cons rfl (okTrimL_cons rfl (okTrimL_cons rfl (okTrimL_cons rfl (okTrimL_cons rfl (okTrimL_cons rfl (okTrimL_cons rfl (okTrimL_cons rfl (okTrimL_cons rfl (okTrimL_cons rfl (okTrimL_cons rfl (okTrimL_cons rfl (okTrimL_cons rfl (okTrimL_cons rfl (okTrimL_cons rfl (okTrimL_cons rfl (okTrimL_cons rfl (okTrimL_cons rfl (okTrimL_cons rfl (okTrimL_cons rfl (okTrimL_cons rfl (okTrimL_cons rfl (okTrimL_cons rfl (okTrimL_cons rfl (okTrimL_cons rfl (okTrimL_cons rfl (okTrimL_cons rfl (okTrimL_cons rfl (okTrimL_cons rfl (okTrimL_cons rfl (okTrimL_cons rfl (okTrimL_cons rfl (okTrimL_cons rfl (okTrimL_cons rfl (okTrimL_cons rfl (okTrimL_cons rfl (okTrimL_cons rfl rfl)))))))))))))))))))))))))))))))))))))))))))))))))))))))))))))))))))))))))))))))))))))))) (by kernel_rfl)
    ·
     intro j2 h
     refine w_start (by dsimp only [setAll, topAll, List.foldl, List.set]) rfl ?_
     refine w_region (k0 := 0) (id := 15) ?_
     obtain ⟨g12, h⟩ := chk_e h
     refine w_op (a := .raw (.int .i64 (s1.2.1 + 1))) rfl rfl rfl (op_q (q_add rfl rfl rfl rfl g12.1 g12.2)) (by dsimp only [aput, List.set]) ?_
     refine w_op (a := .raw (.int .i64 (s1.2.1 + 1))) rfl rfl rfl rfl (by dsimp only [aput, List.set]) ?_
     refine loop_next (p := p1) (j2.1, (s1.2.1 + 1), (Trc.mk j2.2.l (Ed.mk j2.2.e.k j2.2.e.c))) h ?_
     exact wm_of [false, true, true, false, false, false, true, true, true, false, false, false, false, false, false, false, true, true, true, false, false, false, false, false, false, false, false, false, false, false, false, false, false, false, false, false, false, false, false, false, false, false, false, false, false, false, false, false, false, false, false, false, false, false, false, false, false, false, false, false, false, false, false, false, false, false, false, false, false, false, false, false, false, false, false, false, false, false, false, false, false, false, false, false, false, false, false] (by kernel_rfl) (by kernel_rfl)
   ·
    refine w_condF hc1 rfl ?_
    refine loop_exit h (fun h => ?_)
    refine cut_done (o := or1) ((Trc.mk s1.2.2.l (Ed.mk s1.2.2.e.k s1.2.2.e.c))) h ?_
    exact wm_of [false, true, true, false, false, false, true, true, false, false, false, false, false, false, false, false, false, false, false, false, false, false, false, false, false, false, false, false, false, false, false, false, false, false, false, false, false, false, false, false, false, false, false, false, false, false, false, false, false, false, false, false, false, false, false, false, false, false, false, false, false, false, false, false, false, false, false, false, false, false, false, false, false, false, false, false, false, false, false, false, false, false, false, false, false, false, false] (by kernel_rfl) (by kernel_rfl)
 ·
  intro j1 h
  refine w_start (by dsimp only [setAll, topAll, List.foldl, List.set]) rfl ?_
  refine w_seq (w_region ?_)
  refine w_op (a := .raw (.int .u8 en)) rfl rfl rfl rfl (by dsimp only [aput, List.set]) ?_
  refine w_op (a := .raw (.int .u8 (Int.tmod en 5))) rfl rfl rfl rfl (by dsimp only [aput, List.set]) ?_
  refine w_op (a := .raw (.int .u8 (IntKind.u8.wrap (1 + (Int.tmod en 5))))) rfl rfl rfl rfl (by dsimp only [aput, List.set]) ?_
  refine w_op (a := .ptr 1 1) rfl rfl rfl rfl (by dsimp only [aput, List.set]) ?_
  refine w_op (a := .ptr 1 1) rfl rfl rfl rfl (by dsimp only [aput, List.set]) ?_
  refine w_opm (σ'' := (ownSt [(26, [.list 0 [] .full, .raw (.int .u8 0), .raw (.int .i64 0)]), (26, [(ownAV (List.length (j1.l : List En)) (Enc.cellsL (j1.l : List En))), .raw (.int .u8 (IntKind.u8.wrap (1 + (Int.tmod en 5)))), .raw (.int .i64 j1.e.c)])] 43 (List.length (j1.l : List En)) 4)) rfl rfl rfl (op_store (n := 1) rfl rfl rfl rfl rfl ⟨rfl, rfl, Nat.le_of_ble_eq_true rfl, by decide⟩) (by dsimp only [aput, List.set]) rfl ?_
  refine w_cutF h [1, 2, 73, 74, 75, 76, 77, 78, 79, 80, 81, 82, 83, 84, 85] (fun j4 => []) (fun j4 => (ownSt [(26, [.list 0 [] .full, .raw (.int .u8 0), .raw (.int .i64 0)]), (26, [(ownAV (List.length (j4.l : List En)) (Enc.cellsL (j4.l : List En))), .raw (.int .u8 j4.e.k), .raw (.int .i64 j4.e.c)])] 43 (List.length (j4.l : List En)) 4)) ?_ ?_
  ·
   intro or4 h hr4
   refine w_seq (w_region ?_)
   refine w_op (a := .ptr 1 1) rfl rfl rfl rfl (by dsimp only [aput, List.set]) ?_
   refine w_op (a := .ptr 1 1) rfl rfl rfl rfl (by dsimp only [aput, List.set]) ?_
   refine w_op (a := .raw (.int .u8 (IntKind.u8.wrap (1 + (Int.tmod en 5))))) rfl rfl rfl rfl (by dsimp only [aput, List.set]) ?_
   refine w_op (a := .raw (.bool ((IntKind.u8.wrap (1 + (Int.tmod en 5))) == 2))) rfl rfl rfl rfl (by dsimp only [aput, List.set]) ?_
   refine bif_e h (fun hc4 h => ?_) (fun hc4 h => ?_)
   ·
    refine w_condT hc4 rfl ?_
    refine w_region (k0 := 0) (id := 18) ?_
    refine w_op (a := .raw (.int .u8 code)) rfl rfl rfl rfl (by dsimp only [aput, List.set]) ?_
    obtain ⟨g13, h⟩ := chk_e h
    refine w_op (a := .raw (.int .i64 code)) rfl rfl rfl (op_q (q_conv64 g13 rfl rfl rfl)) (by dsimp only [aput, List.set]) ?_
    refine w_op (a := .ptr 1 1) rfl rfl rfl rfl (by dsimp only [aput, List.set]) ?_
    refine w_op (a := .ptr 1 2) rfl rfl rfl rfl (by dsimp only [aput, List.set]) ?_
    refine w_opm (σ'' := (ownSt [(26, [.list 0 [] .full, .raw (.int .u8 0), .raw (.int .i64 0)]), (26, [(ownAV (List.length (j1.l : List En)) (Enc.cellsL (j1.l : List En))), .raw (.int .u8 (IntKind.u8.wrap (1 + (Int.tmod en 5)))), .raw (.int .i64 code)])] 43 (List.length (j1.l : List En)) 4)) rfl rfl rfl (op_store (n := 1) rfl rfl rfl rfl rfl ⟨rfl, rfl, Nat.le_of_ble_eq_true rfl, by decide⟩) (by dsimp only [aput, List.set]) rfl ?_
    refine cut_done (o := or4) ((Trc.mk j1.l (Ed.mk (IntKind.u8.wrap (1 + (Int.tmod en 5))) code))) h ?_
    exact wm_of [true, false, false, true, true, true, true, true, true, true, true, true, true, true, true, true, true, true, true, true, true, true, true, true, true, true, true, true, true, true, true, true, true, true, true, true, true, true, true, true, true, true, true, true, true, true, true, true, true, true, true, true, true, true, true, true, true, true, true, true, true, true, true, true, true, true, true, true, true, true, true, true, true, false, false, false, false, false, false, false, false, false, false, false, false, false, true] (by kernel_rfl) (by kernel_rfl)
   ·
    refine w_condF hc4 rfl ?_
    refine cut_done (o := or4) ((Trc.mk j1.l (Ed.mk (IntKind.u8.wrap (1 + (Int.tmod en 5))) j1.e.c))) h ?_
    exact wm_of [true, false, false, true, true, true, true, true, true, true, true, true, true, true, true, true, true, true, true, true, true, true, true, true, true, true, true, true, true, true, true, true, true, true, true, true, true, true, true, true, true, true, true, true, true, true, true, true, true, true, true, true, true, true, true, true, true, true, true, true, true, true, true, true, true, true, true, true, true, true, true, true, true, false, false, false, false, false, false, false, false, false, false, false, false, false, true] (by kernel_rfl) (by kernel_rfl)
  ·
   intro j4 h
   refine w_start (by dsimp only [setAll, topAll, List.foldl, List.set]) rfl ?_
   refine w_seq (w_region ?_)
   refine w_op (a := .agg [(ownAV (List.length (j4.l : List En)) (Enc.cellsL (j4.l : List En))), .raw (.int .u8 j4.e.k), .raw (.int .i64 j4.e.c)]) rfl rfl rfl rfl (by dsimp only [aput, List.set]) ?_
   refine w_opm (σ'' := (ownSt [(26, [(ownAV (List.length (j4.l : List En)) (Enc.cellsL (j4.l : List En))), .raw (.int .u8 j4.e.k), .raw (.int .i64 j4.e.c)]), (26, [(ownAV (List.length (j4.l : List En)) (Enc.cellsL (j4.l : List En))), .raw (.int .u8 j4.e.k), .raw (.int .i64 j4.e.c)])] 43 (List.length (j4.l : List En)) 4)) rfl rfl rfl (op_storeW (n := 3) rfl rfl rfl rfl rfl rfl rfl rfl (by decide)) (by dsimp only [aput, List.set]) rfl ?_
   exact end_pureF (fun (r : Trc) => (.agg (Enc.cells (r : Trc)) : AV)) h (a := .agg [(ownAV (List.length (j4.l : List En)) (Enc.cellsL (j4.l : List En))), .raw (.int .u8 j4.e.k), .raw (.int .i64 j4.e.c)]) rfl (show okTrimL _ _ = true from (okTrimL_cons (okTrim_own (Enc.cloL _)) (okTrimL_cons rfl (okTrimL_cons rfl rfl)))) (show AV.agg (stripL _) = _ from congrArg AV.agg (stripL_cons (strip_o (Enc.cloL _) Enc.z) (stripL_cons rfl (stripL_cons rfl rfl))))
end Go.Ab

