/-
  The reference for sets: lists, and parts.
-/
import Derived.Test.YtjmhbbbpjbgmjaaZseK2
set_option linter.unusedSimpArgs false
set_option linter.unusedVariables false
namespace Go.Ab
open Go Go.RowKit Go.Fwd Go.Proofs Go.Proofs.Ytjmhbbbpjbgmjaa
theorem q_loadW {ρ : Operand → AV} {σ : St} {o : Oper} {x : Operand} {b : Nat} {t : TypeId} {i : Int} (s : BS) (hi : 0 ≤ i ∧ i < 4) (ho : o.op = .load 22 x) (hx : ρ x = .ptr b (0 + i.toNat * 1)) (hb : σ.boxes[b]? = some (t, Enc.cells s)) : qop Try.prog ρ σ o = some (.raw (.int .u64 (wd s i.toNat))) := by
  have key : ∀ j : Nat, j < 4 → rd Try.prog 22 ((Enc.cells s).drop (0 + j * 1)) = some (.raw (.int .u64 (wd s j))) := by
    intro j hj
    match j, hj with
    | 0, _ => rw [rd_int Try.underlying22 (show sizeT Try.prog 22 = some 1 by kernel_rfl)]; rfl
    | 1, _ => rw [rd_int Try.underlying22 (show sizeT Try.prog 22 = some 1 by kernel_rfl)]; rfl
    | 2, _ => rw [rd_int Try.underlying22 (show sizeT Try.prog 22 = some 1 by kernel_rfl)]; rfl
    | 3, _ => rw [rd_int Try.underlying22 (show sizeT Try.prog 22 = some 1 by kernel_rfl)]; rfl
  simp only [qop, ho, aLoad, hx, hb]
  exact key i.toNat (by omega)
def F_words (fuel : Nat) (w : BS) : Option Ar :=
  (cutE (τ := Ar) (loopE (β := Int × Ar) (fun s1 => (bif (decide (s1.1 < 256)) then (cutE (τ := Ar) (chk (0 ≤ (IntKind.i64.wrap (Int.tdiv s1.1 64)) ∧ (IntKind.i64.wrap (Int.tdiv s1.1 64)) < 4) (cutE (τ := Int) (loopE (β := Int × Int) (fun s2 => (bif (decide (s2.2 < (Int.tmod s1.1 64))) then (chk (-9223372036854775808 ≤ (s2.2 + 1) ∧ (s2.2 + 1) < 9223372036854775808) (some (Sum.inl ((IntKind.u64.wrap (Int.tdiv s2.1 2)), (s2.2 + 1))))) else (some (Sum.inr (Sum.inl (s2.1)))))) fuel ((wd w (Int.toNat (IntKind.i64.wrap (Int.tdiv s1.1 64)))), 0)) (fun j3 => (chk (-9223372036854775808 ≤ (Int.tmod j3 2) ∧ (Int.tmod j3 2) < 9223372036854775808) (chk (0 ≤ s1.1 ∧ s1.1 < 256) (some (Sum.inl ((wrA s1.2 s1.1 (Int.tmod j3 2)))))))))) (fun j2 => (chk (-9223372036854775808 ≤ (s1.1 + 1) ∧ (s1.1 + 1) < 9223372036854775808) (some (Sum.inl ((s1.1 + 1), j2)))))) else (some (Sum.inr (Sum.inl (s1.2)))))) fuel (0, zeroA)) (fun j1 => (some j1)))
theorem ent33 : Ent Try.prog 33 := enters_of Try.func33 (by kernel_rfl) rfl
set_option maxRecDepth 100000 in
set_option maxHeartbeats 4000000 in
theorem words_sh (fuel : Nat) (w : BS) (r : Ar) (h : F_words fuel w = some r) : Pure (ITP Try.prog) Try.prog 33 [.agg (Enc.cells (w : BS))] (.agg (Enc.cells (r : Ar))) := by
 obtain ⟨d, hd⟩ : ∃ d, Try.f33.body = some d := ⟨_, rfl⟩
 refine pure_of mix Try.func33 hd ent33 ?_
 cases hd
 unfold F_words at h
 refine w_start (by dsimp only [abeginS, Try.f33, List.length_cons, List.length_nil, Nat.zero_add, Nat.reduceAdd, Nat.reduceSub, List.replicate, List.cons_append, List.nil_append]) (by dsimp only [St.empty]) ?_
 refine w_seq (w_region ?_)
 refine w_opm (a := .ptr 0 0) (σ'' := ⟨[(23, (Enc.cells (w : BS)))], [], [], 0, false⟩) rfl rfl rfl rfl (by dsimp only [aput, List.set]) rfl ?_
 refine w_opm (a := .ptr 1 0) (σ'' := ⟨[(23, (Enc.cells (w : BS))), (57, (Enc.cells (zeroA : Ar)))], [], [], 0, false⟩) rfl rfl rfl (op_allocA (by decide) rfl) (by dsimp only [aput, List.set]) rfl ?_
 refine w_seq (w_region ?_)
 refine w_opm (a := .ptr 2 0) (σ'' := ⟨[(23, (Enc.cells (w : BS))), (57, (Enc.cells (zeroA : Ar))), (57, (Enc.cells (zeroA : Ar)))], [], [], 0, false⟩) rfl rfl rfl (op_allocA (by decide) rfl) (by dsimp only [aput, List.set]) rfl ?_
 refine w_cutF h [0, 1, 4, 5, 6, 7, 8, 9, 10, 11, 12, 13, 14, 15, 16, 17, 18, 19, 20, 21, 22, 23, 24, 25, 26, 27, 28] (fun j1 => []) (fun j1 => ⟨[(23, (Enc.cells (w : BS))), (57, (Enc.cells (zeroA : Ar))), (57, (Enc.cells (j1 : Ar)))], [], [], 0, false⟩) ?_ ?_
 ·
  intro or1 h hr1
  refine w_seq (w_region ?_)
  refine w_op (a := .raw (.int .i64 0)) rfl rfl rfl rfl (by dsimp only [aput, List.set]) ?_
  refine w_block ?_
  refine w_loopF h [0, 4, 5, 6, 7, 8, 9, 10, 11, 12, 13, 14, 15, 16, 17, 18, 19, 20, 21, 22, 23, 24, 25, 26, 27, 28] (fun s1 => [(4, .raw (.int .i64 s1.1))]) (fun s1 => ⟨[(23, (Enc.cells (w : BS))), (57, (Enc.cells (zeroA : Ar))), (57, (Enc.cells (s1.2 : Ar)))], [], [], 0, false⟩) ?_ ?_
  ·
   exact wm_of [false, true, true, true, true, false, false, false, false, false, false, false, false, false, false, false, false, false, false, false, false, false, false, false, false, false, false, false, false] (by kernel_rfl) (by kernel_rfl)
  ·
   intro s1 p1 h
   refine w_start (by dsimp only [setAll, topAll, List.foldl, List.set]) rfl ?_
   refine w_seq ?_
   refine w_seq (w_region ?_)
   refine w_op (a := .raw (.int .i64 s1.1)) rfl rfl rfl rfl (by dsimp only [aput, List.set]) ?_
   refine w_op (a := .raw (.bool (decide (s1.1 < 256)))) rfl rfl rfl rfl (by dsimp only [aput, List.set]) ?_
   refine bif_e h (fun hc1 h => ?_) (fun hc1 h => ?_)
   ·
    refine w_condT hc1 rfl ?_
    refine w_cutF h [5, 6, 7, 8, 11, 12, 13, 14, 15, 16, 17, 18, 19, 20, 21, 22, 23, 24, 25, 26, 27] (fun j2 => []) (fun j2 => ⟨[(23, (Enc.cells (w : BS))), (57, (Enc.cells (zeroA : Ar))), (57, (Enc.cells (j2 : Ar)))], [], [], 0, false⟩) ?_ ?_
    ·
     intro or2 h hr2
     refine w_block ?_
     refine w_seq (w_region ?_)
     refine w_op (a := .raw (.int .i64 s1.1)) rfl rfl rfl rfl (by dsimp only [aput, List.set]) ?_
     refine w_op (a := .raw (.int .i64 (IntKind.i64.wrap (Int.tdiv s1.1 64)))) rfl rfl rfl rfl (by dsimp only [aput, List.set]) ?_
     obtain ⟨g1, h⟩ := chk_e h
     refine w_op (a := .ptr 0 (0 + Int.toNat (IntKind.i64.wrap (Int.tdiv s1.1 64)) * 1)) rfl rfl rfl (op_q (q_idxA g1 rfl rfl rfl rfl rfl)) (by dsimp only [aput, List.set]) ?_
     refine w_op (a := .raw (.int .u64 (wd w (Int.toNat (IntKind.i64.wrap (Int.tdiv s1.1 64)))))) rfl rfl rfl (op_q (q_loadW w (by omega) rfl rfl rfl)) (by dsimp only [aput, List.set]) ?_
     refine w_op (a := .raw (.int .u64 (wd w (Int.toNat (IntKind.i64.wrap (Int.tdiv s1.1 64)))))) rfl rfl rfl rfl (by dsimp only [aput, List.set]) ?_
     refine w_cutF h [5, 6, 7, 8, 11, 12, 13, 14, 15, 16, 17, 18, 19, 20, 21, 22] (fun j3 => [(5, .raw (.int .u64 j3))]) (fun j3 => ⟨[(23, (Enc.cells (w : BS))), (57, (Enc.cells (zeroA : Ar))), (57, (Enc.cells (s1.2 : Ar)))], [], [], 0, false⟩) ?_ ?_
     ·
      intro or3 h hr3
      refine w_seq (w_region ?_)
      refine w_op (a := .raw (.int .i64 0)) rfl rfl rfl rfl (by dsimp only [aput, List.set]) ?_
      refine w_block ?_
      refine w_loopF h [5, 6, 7, 8, 11, 12, 13, 14, 15, 16, 17, 18, 19, 20, 21, 22] (fun s2 => [(5, .raw (.int .u64 s2.1)), (6, .raw (.int .i64 s2.2))]) (fun s2 => ⟨[(23, (Enc.cells (w : BS))), (57, (Enc.cells (zeroA : Ar))), (57, (Enc.cells (s1.2 : Ar)))], [], [], 0, false⟩) ?_ ?_
      ·
       exact wm_of [true, true, true, true, true, true, true, false, false, true, true, false, false, false, false, false, false, false, false, false, false, false, false, true, true, true, true, true, true] (by kernel_rfl) (by kernel_rfl)
      ·
       intro s2 p2 h
       refine w_start (by dsimp only [setAll, topAll, List.foldl, List.set]) rfl ?_
       refine w_seq ?_
       refine w_seq (w_region ?_)
       refine w_op (a := .raw (.int .i64 s2.2)) rfl rfl rfl rfl (by dsimp only [aput, List.set]) ?_
       refine w_op (a := .raw (.int .i64 s1.1)) rfl rfl rfl rfl (by dsimp only [aput, List.set]) ?_
       refine w_op (a := .raw (.int .i64 (Int.tmod s1.1 64))) rfl rfl rfl rfl (by dsimp only [aput, List.set]) ?_
       refine w_op (a := .raw (.bool (decide (s2.2 < (Int.tmod s1.1 64))))) rfl rfl rfl rfl (by dsimp only [aput, List.set]) ?_
       refine bif_e h (fun hc2 h => ?_) (fun hc2 h => ?_)
       ·
        refine w_condT hc2 rfl ?_
        refine w_seq ?_
        refine w_block ?_
        refine w_region (id := 9) ?_
        refine w_op (a := .raw (.int .u64 s2.1)) rfl rfl rfl rfl (by dsimp only [aput, List.set]) ?_
        refine w_op (a := .raw (.int .u64 (IntKind.u64.wrap (Int.tdiv s2.1 2)))) rfl rfl rfl rfl (by dsimp only [aput, List.set]) ?_
        refine w_op (a := .raw (.int .u64 (IntKind.u64.wrap (Int.tdiv s2.1 2)))) rfl rfl rfl rfl (by dsimp only [aput, List.set]) ?_
        refine w_region (id := 8) ?_
        refine w_op (a := .raw (.int .i64 s2.2)) rfl rfl rfl rfl (by dsimp only [aput, List.set]) ?_
        obtain ⟨g2, h⟩ := chk_e h
        refine w_op (a := .raw (.int .i64 (s2.2 + 1))) rfl rfl rfl (op_q (q_add rfl rfl rfl rfl g2.1 g2.2)) (by dsimp only [aput, List.set]) ?_
        refine w_op (a := .raw (.int .i64 (s2.2 + 1))) rfl rfl rfl rfl (by dsimp only [aput, List.set]) ?_
        refine loop_next (p := p2) ((IntKind.u64.wrap (Int.tdiv s2.1 2)), (s2.2 + 1)) h ?_
        exact wm_of [true, true, true, true, true, true, true, false, false, true, true, false, false, false, false, false, false, false, false, false, false, false, false, true, true, true, true, true, true] (by kernel_rfl) (by kernel_rfl)
       ·
        refine w_condF hc2 rfl ?_
        refine loop_exit h (fun h => ?_)
        refine cut_done (o := or3) (s2.1) h ?_
        exact wm_of [true, true, true, true, true, true, false, false, false, true, true, false, false, false, false, false, false, false, false, false, false, false, false, true, true, true, true, true, true] (by kernel_rfl) (by kernel_rfl)
     ·
      intro j3 h
      refine w_start (by dsimp only [setAll, topAll, List.foldl, List.set]) rfl ?_
      refine w_region (id := 10) ?_
      refine w_op (a := .raw (.int .i64 s1.1)) rfl rfl rfl rfl (by dsimp only [aput, List.set]) ?_
      refine w_op (a := .raw (.int .u64 j3)) rfl rfl rfl rfl (by dsimp only [aput, List.set]) ?_
      refine w_op (a := .raw (.int .u64 (Int.tmod j3 2))) rfl rfl rfl rfl (by dsimp only [aput, List.set]) ?_
      obtain ⟨g3, h⟩ := chk_e h
      refine w_op (a := .raw (.int .i64 (Int.tmod j3 2))) rfl rfl rfl (op_q (q_conv64 g3 rfl rfl rfl)) (by dsimp only [aput, List.set]) ?_
      obtain ⟨g4, h⟩ := chk_e h
      refine w_op (a := .ptr 2 (0 + Int.toNat s1.1 * 1)) rfl rfl rfl (op_q (q_idxA g4 rfl rfl rfl rfl rfl)) (by dsimp only [aput, List.set]) ?_
      refine w_opm (σ'' := ⟨[(23, (Enc.cells (w : BS))), (57, (Enc.cells (zeroA : Ar))), (57, (Enc.cells ((wrA s1.2 s1.1 (Int.tmod j3 2)) : Ar)))], [], [], 0, false⟩) rfl rfl rfl (op_storeA s1.2 g4 rfl rfl rfl rfl) (by dsimp only [aput, List.set]) rfl ?_
      refine cut_done (o := or2) ((wrA s1.2 s1.1 (Int.tmod j3 2))) h ?_
      exact wm_of [true, true, true, true, true, false, false, false, false, true, true, false, false, false, false, false, false, false, false, false, false, false, false, false, false, false, false, false, true] (by kernel_rfl) (by kernel_rfl)
    ·
     intro j2 h
     refine w_start (by dsimp only [setAll, topAll, List.foldl, List.set]) rfl ?_
     refine w_region (id := 4) ?_
     refine w_op (a := .raw (.int .i64 s1.1)) rfl rfl rfl rfl (by dsimp only [aput, List.set]) ?_
     obtain ⟨g5, h⟩ := chk_e h
     refine w_op (a := .raw (.int .i64 (s1.1 + 1))) rfl rfl rfl (op_q (q_add rfl rfl rfl rfl g5.1 g5.2)) (by dsimp only [aput, List.set]) ?_
     refine w_op (a := .raw (.int .i64 (s1.1 + 1))) rfl rfl rfl rfl (by dsimp only [aput, List.set]) ?_
     refine loop_next (p := p1) ((s1.1 + 1), j2) h ?_
     exact wm_of [false, true, true, true, true, false, false, false, false, false, false, false, false, false, false, false, false, false, false, false, false, false, false, false, false, false, false, false, false] (by kernel_rfl) (by kernel_rfl)
   ·
    refine w_condF hc1 rfl ?_
    refine loop_exit h (fun h => ?_)
    refine cut_done (o := or1) (s1.2) h ?_
    exact wm_of [false, false, true, true, false, false, false, false, false, false, false, false, false, false, false, false, false, false, false, false, false, false, false, false, false, false, false, false, false] (by kernel_rfl) (by kernel_rfl)
 ·
  intro j1 h
  refine w_start (by dsimp only [setAll, topAll, List.foldl, List.set]) rfl ?_
  refine w_seq (w_region ?_)
  refine w_op (a := .agg (Enc.cells (j1 : Ar))) rfl rfl rfl (op_q (q_loadArr j1 (by decide) rfl rfl rfl)) (by dsimp only [aput, List.set]) ?_
  refine w_opm (σ'' := ⟨[(23, (Enc.cells (w : BS))), (57, (Enc.cells (j1 : Ar))), (57, (Enc.cells (j1 : Ar)))], [], [], 0, false⟩) rfl rfl rfl (op_storeW (n := 256) rfl rfl rfl rfl rfl (Enc.len _) rfl (Enc.len _) (by decide)) (by dsimp only [aput, List.set]) rfl ?_
  exact end_pureF (fun (r : Ar) => (.agg (Enc.cells (r : Ar)) : AV)) h (a := .agg (Enc.cells (j1 : Ar))) rfl (okTrim_clo _ _ (clo_agg (Enc.clo _))) (strip_c (clo_agg (Enc.clo _)))
def F_rof (fuel : Nat) (b : (List UInt8)) : Option Ar :=
  (cutE (τ := Ar) (loopE (β := Int × Ar) (fun s1 => (bif (decide (s1.1 < (List.length b : Int))) then (chk (0 ≤ s1.1 ∧ s1.1 < (List.length b : Int)) (chk (0 ≤ ((((ix b s1.1)).toNat : Nat) : Int) ∧ ((((ix b s1.1)).toNat : Nat) : Int) < 256) (chk (-9223372036854775808 ≤ (s1.1 + 1) ∧ (s1.1 + 1) < 9223372036854775808) (some (Sum.inl ((s1.1 + 1), (wrA s1.2 ((((ix b s1.1)).toNat : Nat) : Int) 1))))))) else (some (Sum.inr (Sum.inl (s1.2)))))) fuel (0, zeroA)) (fun j1 => (some j1)))
theorem ent35 : Ent Try.prog 35 := enters_of Try.func35 (by kernel_rfl) rfl
set_option maxRecDepth 100000 in
set_option maxHeartbeats 4000000 in
theorem rof_sh (fuel : Nat) (b : (List UInt8)) (r : Ar) (h : F_rof fuel b = some r) : Pure (ITP Try.prog) Try.prog 35 [.list (List.length (b : List UInt8)) (Enc.cellsL (b : List UInt8)) .none] (.agg (Enc.cells (r : Ar))) := by
 obtain ⟨d, hd⟩ : ∃ d, Try.f35.body = some d := ⟨_, rfl⟩
 refine pure_of mix Try.func35 hd ent35 ?_
 cases hd
 unfold F_rof at h
 refine w_start (by dsimp only [abeginS, Try.f35, List.length_cons, List.length_nil, Nat.zero_add, Nat.reduceAdd, Nat.reduceSub, List.replicate, List.cons_append, List.nil_append]) (by dsimp only [St.empty]) ?_
 refine w_seq (w_region ?_)
 refine w_opm (a := .ptr 0 0) (σ'' := ⟨[(57, (Enc.cells (zeroA : Ar)))], [], [], 0, false⟩) rfl rfl rfl (op_allocA (by decide) rfl) (by dsimp only [aput, List.set]) rfl ?_
 refine w_seq (w_region ?_)
 refine w_opm (a := .ptr 1 0) (σ'' := ⟨[(57, (Enc.cells (zeroA : Ar))), (57, (Enc.cells (zeroA : Ar)))], [], [], 0, false⟩) rfl rfl rfl (op_allocA (by decide) rfl) (by dsimp only [aput, List.set]) rfl ?_
 refine w_cutF h [0, 1, 4, 5, 6, 7, 8, 9, 10, 11, 12, 13, 14, 15, 16] (fun j1 => []) (fun j1 => ⟨[(57, (Enc.cells (zeroA : Ar))), (57, (Enc.cells (j1 : Ar)))], [], [], 0, false⟩) ?_ ?_
 ·
  intro or1 h hr1
  refine w_seq (w_region ?_)
  refine w_op (a := .raw (.int .i64 0)) rfl rfl rfl rfl (by dsimp only [aput, List.set]) ?_
  refine w_block ?_
  refine w_loopF h [1, 4, 5, 6, 7, 8, 9, 10, 11, 12, 13, 14, 15, 16] (fun s1 => [(4, .raw (.int .i64 s1.1))]) (fun s1 => ⟨[(57, (Enc.cells (zeroA : Ar))), (57, (Enc.cells (s1.2 : Ar)))], [], [], 0, false⟩) ?_ ?_
  ·
   exact wm_of [true, false, true, true, true, false, false, false, false, false, false, false, false, false, false, false, false] (by kernel_rfl) (by kernel_rfl)
  ·
   intro s1 p1 h
   refine w_start (by dsimp only [setAll, topAll, List.foldl, List.set]) rfl ?_
   refine w_seq ?_
   refine w_seq (w_region ?_)
   refine w_op (a := .raw (.int .i64 s1.1)) rfl rfl rfl rfl (by dsimp only [aput, List.set]) ?_
   refine w_op (a := .list (List.length (b : List UInt8)) (Enc.cellsL (b : List UInt8)) .none) rfl rfl rfl rfl (by dsimp only [aput, List.set]) ?_
   refine w_op (a := .raw (.int .i64 (List.length b : Int))) rfl rfl rfl rfl (by dsimp only [aput, List.set]) ?_
   refine w_op (a := .raw (.bool (decide (s1.1 < (List.length b : Int))))) rfl rfl rfl rfl (by dsimp only [aput, List.set]) ?_
   refine bif_e h (fun hc1 h => ?_) (fun hc1 h => ?_)
   ·
    refine w_condT hc1 rfl ?_
    refine w_seq ?_
    refine w_block ?_
    refine w_region (id := 5) ?_
    refine w_op (a := .list (List.length (b : List UInt8)) (Enc.cellsL (b : List UInt8)) .none) rfl rfl rfl rfl (by dsimp only [aput, List.set]) ?_
    refine w_op (a := .raw (.int .i64 s1.1)) rfl rfl rfl rfl (by dsimp only [aput, List.set]) ?_
    obtain ⟨g1, h⟩ := chk_e h
    refine w_op (a := .iptr (Enc.cells (ix b s1.1) ++ Enc.cellsL (List.drop (Int.toNat s1.1 + 1) b))) rfl rfl rfl (op_q (q_idx (α := UInt8) (l := b) g1 rfl rfl rfl rfl rfl)) (by dsimp only [aput, List.set]) ?_
    refine w_op (a := .raw (.int .u8 ((((ix b s1.1)).toNat : Nat) : Int))) rfl rfl rfl rfl (by dsimp only [aput, List.set]) ?_
    obtain ⟨g2, h⟩ := chk_e h
    refine w_op (a := .ptr 1 (0 + Int.toNat ((((ix b s1.1)).toNat : Nat) : Int) * 1)) rfl rfl rfl (op_q (q_idxA g2 rfl rfl rfl rfl rfl)) (by dsimp only [aput, List.set]) ?_
    refine w_opm (σ'' := ⟨[(57, (Enc.cells (zeroA : Ar))), (57, (Enc.cells ((wrA s1.2 ((((ix b s1.1)).toNat : Nat) : Int) 1) : Ar)))], [], [], 0, false⟩) rfl rfl rfl (op_storeA s1.2 g2 rfl rfl rfl rfl) (by dsimp only [aput, List.set]) rfl ?_
    refine w_region (id := 4) ?_
    refine w_op (a := .raw (.int .i64 s1.1)) rfl rfl rfl rfl (by dsimp only [aput, List.set]) ?_
    obtain ⟨g3, h⟩ := chk_e h
    refine w_op (a := .raw (.int .i64 (s1.1 + 1))) rfl rfl rfl (op_q (q_add rfl rfl rfl rfl g3.1 g3.2)) (by dsimp only [aput, List.set]) ?_
    refine w_op (a := .raw (.int .i64 (s1.1 + 1))) rfl rfl rfl rfl (by dsimp only [aput, List.set]) ?_
    refine loop_next (p := p1) ((s1.1 + 1), (wrA s1.2 ((((ix b s1.1)).toNat : Nat) : Int) 1)) h ?_
    exact wm_of [true, false, true, true, true, false, false, false, false, false, false, false, false, false, false, false, false] (by kernel_rfl) (by kernel_rfl)
   ·
    refine w_condF hc1 rfl ?_
    refine loop_exit h (fun h => ?_)
    refine cut_done (o := or1) (s1.2) h ?_
    exact wm_of [false, false, true, true, false, false, false, false, false, false, false, false, false, false, false, false, false] (by kernel_rfl) (by kernel_rfl)
 ·
  intro j1 h
  refine w_start (by dsimp only [setAll, topAll, List.foldl, List.set]) rfl ?_
  refine w_seq (w_region ?_)
  refine w_op (a := .agg (Enc.cells (j1 : Ar))) rfl rfl rfl (op_q (q_loadArr j1 (by decide) rfl rfl rfl)) (by dsimp only [aput, List.set]) ?_
  refine w_opm (σ'' := ⟨[(57, (Enc.cells (j1 : Ar))), (57, (Enc.cells (j1 : Ar)))], [], [], 0, false⟩) rfl rfl rfl (op_storeW (n := 256) rfl rfl rfl rfl rfl (Enc.len _) rfl (Enc.len _) (by decide)) (by dsimp only [aput, List.set]) rfl ?_
  exact end_pureF (fun (r : Ar) => (.agg (Enc.cells (r : Ar)) : AV)) h (a := .agg (Enc.cells (j1 : Ar))) rfl (okTrim_clo _ _ (clo_agg (Enc.clo _))) (strip_c (clo_agg (Enc.clo _)))
def F_rrange (fuel : Nat) (lo : Int) (hi : Int) : Option Ar :=
  (cutE (τ := Ar) (loopE (β := Int × Ar) (fun s1 => (bif (decide (s1.1 < 256)) then (cutE (τ := Ar) (chk (-9223372036854775808 ≤ lo ∧ lo < 9223372036854775808) (bif (decide (s1.1 ≥ lo)) then (chk (-9223372036854775808 ≤ hi ∧ hi < 9223372036854775808) (bif (decide (s1.1 ≤ hi)) then (chk (0 ≤ s1.1 ∧ s1.1 < 256) (some (Sum.inl ((wrA s1.2 s1.1 1))))) else (some (Sum.inl (s1.2))))) else (some (Sum.inl (s1.2))))) (fun j2 => (chk (-9223372036854775808 ≤ (s1.1 + 1) ∧ (s1.1 + 1) < 9223372036854775808) (some (Sum.inl ((s1.1 + 1), j2)))))) else (some (Sum.inr (Sum.inl (s1.2)))))) fuel (0, zeroA)) (fun j1 => (some j1)))
theorem ent36 : Ent Try.prog 36 := enters_of Try.func36 (by kernel_rfl) rfl
set_option maxRecDepth 100000 in
set_option maxHeartbeats 4000000 in
theorem rrange_sh (fuel : Nat) (lo : Int) (hi : Int) (r : Ar) (h : F_rrange fuel lo hi = some r) : Pure (ITP Try.prog) Try.prog 36 [.raw (.int .u8 lo), .raw (.int .u8 hi)] (.agg (Enc.cells (r : Ar))) := by
 obtain ⟨d, hd⟩ : ∃ d, Try.f36.body = some d := ⟨_, rfl⟩
 refine pure_of mix Try.func36 hd ent36 ?_
 cases hd
 unfold F_rrange at h
 refine w_start (by dsimp only [abeginS, Try.f36, List.length_cons, List.length_nil, Nat.zero_add, Nat.reduceAdd, Nat.reduceSub, List.replicate, List.cons_append, List.nil_append]) (by dsimp only [St.empty]) ?_
 refine w_seq (w_region ?_)
 refine w_opm (a := .ptr 0 0) (σ'' := ⟨[(57, (Enc.cells (zeroA : Ar)))], [], [], 0, false⟩) rfl rfl rfl (op_allocA (by decide) rfl) (by dsimp only [aput, List.set]) rfl ?_
 refine w_seq (w_region ?_)
 refine w_opm (a := .ptr 1 0) (σ'' := ⟨[(57, (Enc.cells (zeroA : Ar))), (57, (Enc.cells (zeroA : Ar)))], [], [], 0, false⟩) rfl rfl rfl (op_allocA (by decide) rfl) (by dsimp only [aput, List.set]) rfl ?_
 refine w_cutF h [0, 1, 2, 3, 6, 7, 8, 9, 10, 11, 12, 13, 14, 15, 16, 17, 18, 19, 20, 21, 22, 23] (fun j1 => []) (fun j1 => ⟨[(57, (Enc.cells (zeroA : Ar))), (57, (Enc.cells (j1 : Ar)))], [], [], 0, false⟩) ?_ ?_
 ·
  intro or1 h hr1
  refine w_seq (w_region ?_)
  refine w_op (a := .raw (.int .i64 0)) rfl rfl rfl rfl (by dsimp only [aput, List.set]) ?_
  refine w_block ?_
  refine w_loopF h [2, 3, 6, 7, 8, 9, 10, 11, 12, 13, 14, 15, 16, 17, 18, 19, 20, 21, 22, 23] (fun s1 => [(6, .raw (.int .i64 s1.1))]) (fun s1 => ⟨[(57, (Enc.cells (zeroA : Ar))), (57, (Enc.cells (s1.2 : Ar)))], [], [], 0, false⟩) ?_ ?_
  ·
   exact wm_of [true, true, false, false, true, true, true, false, false, false, false, false, false, false, false, false, false, false, false, false, false, false, false, false] (by kernel_rfl) (by kernel_rfl)
  ·
   intro s1 p1 h
   refine w_start (by dsimp only [setAll, topAll, List.foldl, List.set]) rfl ?_
   refine w_seq ?_
   refine w_seq (w_region ?_)
   refine w_op (a := .raw (.int .i64 s1.1)) rfl rfl rfl rfl (by dsimp only [aput, List.set]) ?_
   refine w_op (a := .raw (.bool (decide (s1.1 < 256)))) rfl rfl rfl rfl (by dsimp only [aput, List.set]) ?_
   refine bif_e h (fun hc1 h => ?_) (fun hc1 h => ?_)
   ·
    refine w_condT hc1 rfl ?_
    refine w_cutF h [7, 8, 11, 12, 13, 14, 15, 16, 17, 18, 19, 20, 21, 22] (fun j2 => []) (fun j2 => ⟨[(57, (Enc.cells (zeroA : Ar))), (57, (Enc.cells (j2 : Ar)))], [], [], 0, false⟩) ?_ ?_
    ·
     intro or2 h hr2
     refine w_block ?_
     refine w_seq (w_region ?_)
     refine w_op (a := .raw (.int .i64 s1.1)) rfl rfl rfl rfl (by dsimp only [aput, List.set]) ?_
     refine w_op (a := .raw (.int .u8 lo)) rfl rfl rfl rfl (by dsimp only [aput, List.set]) ?_
     obtain ⟨g1, h⟩ := chk_e h
     refine w_op (a := .raw (.int .i64 lo)) rfl rfl rfl (op_q (q_conv64 g1 rfl rfl rfl)) (by dsimp only [aput, List.set]) ?_
     refine w_op (a := .raw (.bool (decide (s1.1 ≥ lo)))) rfl rfl rfl rfl (by dsimp only [aput, List.set]) ?_
     refine bif_e h (fun hc2 h => ?_) (fun hc2 h => ?_)
     ·
      refine w_op (a := .raw (.bool true)) rfl rfl rfl (op_q (q_bool rfl hc2)) (by dsimp only [aput, List.set]) ?_
      refine w_met rfl rfl ?_
      refine w_op (a := .raw (.int .i64 s1.1)) rfl rfl rfl rfl (by dsimp only [aput, List.set]) ?_
      refine w_met rfl rfl ?_
      refine w_op (a := .raw (.int .u8 hi)) rfl rfl rfl rfl (by dsimp only [aput, List.set]) ?_
      refine w_met rfl rfl ?_
      obtain ⟨g2, h⟩ := chk_e h
      refine w_op (a := .raw (.int .i64 hi)) rfl rfl rfl (op_q (q_conv64 g2 rfl rfl rfl)) (by dsimp only [aput, List.set]) ?_
      refine w_met rfl rfl ?_
      refine w_op (a := .raw (.bool (decide (s1.1 ≤ hi)))) rfl rfl rfl rfl (by dsimp only [aput, List.set]) ?_
      refine w_op (a := .raw (.bool (decide (s1.1 ≤ hi)))) rfl rfl rfl rfl (by dsimp only [aput, List.set]) ?_
      refine bif_e h (fun hc3 h => ?_) (fun hc3 h => ?_)
      ·
       refine w_condT hc3 rfl ?_
       refine w_region (id := 6) ?_
       refine w_op (a := .raw (.int .i64 s1.1)) rfl rfl rfl rfl (by dsimp only [aput, List.set]) ?_
       obtain ⟨g3, h⟩ := chk_e h
       refine w_op (a := .ptr 1 (0 + Int.toNat s1.1 * 1)) rfl rfl rfl (op_q (q_idxA g3 rfl rfl rfl rfl rfl)) (by dsimp only [aput, List.set]) ?_
       refine w_opm (σ'' := ⟨[(57, (Enc.cells (zeroA : Ar))), (57, (Enc.cells ((wrA s1.2 s1.1 1) : Ar)))], [], [], 0, false⟩) rfl rfl rfl (op_storeA s1.2 g3 rfl rfl rfl rfl) (by dsimp only [aput, List.set]) rfl ?_
       refine cut_done (o := or2) ((wrA s1.2 s1.1 1)) h ?_
       exact wm_of [true, true, true, true, true, true, true, false, false, true, true, false, false, false, false, false, false, false, false, false, false, false, false, true] (by kernel_rfl) (by kernel_rfl)
      ·
       refine w_condF hc3 rfl ?_
       refine cut_done (o := or2) (s1.2) h ?_
       exact wm_of [true, true, true, true, true, true, true, false, false, true, true, false, false, false, false, false, false, false, false, false, false, false, false, true] (by kernel_rfl) (by kernel_rfl)
     ·
      refine w_op (a := .raw (.bool false)) rfl rfl rfl (op_q (q_bool rfl hc2)) (by dsimp only [aput, List.set]) ?_
      refine w_pass rfl rfl (by decide) (by dsimp only [aput, List.set]) ?_
      refine w_pass rfl rfl (by decide) (by dsimp only [aput, List.set]) ?_
      refine w_pass rfl rfl (by decide) (by dsimp only [aput, List.set]) ?_
      refine w_pass rfl rfl (by decide) (by dsimp only [aput, List.set]) ?_
      refine w_op (a := .raw (.bool false)) rfl rfl rfl rfl (by dsimp only [aput, List.set]) ?_
      refine w_false rfl ?_
      refine cut_done (o := or2) (s1.2) h ?_
      exact wm_of [true, true, true, true, true, true, true, false, false, true, true, false, false, false, false, false, false, false, false, false, false, false, false, true] (by kernel_rfl) (by kernel_rfl)
    ·
     intro j2 h
     refine w_start (by dsimp only [setAll, topAll, List.foldl, List.set]) rfl ?_
     refine w_region (id := 4) ?_
     refine w_op (a := .raw (.int .i64 s1.1)) rfl rfl rfl rfl (by dsimp only [aput, List.set]) ?_
     obtain ⟨g4, h⟩ := chk_e h
     refine w_op (a := .raw (.int .i64 (s1.1 + 1))) rfl rfl rfl (op_q (q_add rfl rfl rfl rfl g4.1 g4.2)) (by dsimp only [aput, List.set]) ?_
     refine w_op (a := .raw (.int .i64 (s1.1 + 1))) rfl rfl rfl rfl (by dsimp only [aput, List.set]) ?_
     refine loop_next (p := p1) ((s1.1 + 1), j2) h ?_
     exact wm_of [true, true, false, false, true, true, true, false, false, false, false, false, false, false, false, false, false, false, false, false, false, false, false, false] (by kernel_rfl) (by kernel_rfl)
   ·
    refine w_condF hc1 rfl ?_
    refine loop_exit h (fun h => ?_)
    refine cut_done (o := or1) (s1.2) h ?_
    exact wm_of [false, false, false, false, true, true, false, false, false, false, false, false, false, false, false, false, false, false, false, false, false, false, false, false] (by kernel_rfl) (by kernel_rfl)
 ·
  intro j1 h
  refine w_start (by dsimp only [setAll, topAll, List.foldl, List.set]) rfl ?_
  refine w_seq (w_region ?_)
  refine w_op (a := .agg (Enc.cells (j1 : Ar))) rfl rfl rfl (op_q (q_loadArr j1 (by decide) rfl rfl rfl)) (by dsimp only [aput, List.set]) ?_
  refine w_opm (σ'' := ⟨[(57, (Enc.cells (j1 : Ar))), (57, (Enc.cells (j1 : Ar)))], [], [], 0, false⟩) rfl rfl rfl (op_storeW (n := 256) rfl rfl rfl rfl rfl (Enc.len _) rfl (Enc.len _) (by decide)) (by dsimp only [aput, List.set]) rfl ?_
  exact end_pureF (fun (r : Ar) => (.agg (Enc.cells (r : Ar)) : AV)) h (a := .agg (Enc.cells (j1 : Ar))) rfl (okTrim_clo _ _ (clo_agg (Enc.clo _))) (strip_c (clo_agg (Enc.clo _)))
def F_rsize (fuel : Nat) (s : Ar) : Option Int :=
  (cutE (τ := Int) (loopE (β := Int × Int) (fun s1 => (bif (decide (s1.2 < 256)) then (chk (0 ≤ s1.2 ∧ s1.2 < 256) (chk (-9223372036854775808 ≤ (s1.1 + (rdA s s1.2)) ∧ (s1.1 + (rdA s s1.2)) < 9223372036854775808) (chk (-9223372036854775808 ≤ (s1.2 + 1) ∧ (s1.2 + 1) < 9223372036854775808) (some (Sum.inl ((s1.1 + (rdA s s1.2)), (s1.2 + 1))))))) else (some (Sum.inr (Sum.inl (s1.1)))))) fuel (0, 0)) (fun j1 => (some j1)))
theorem ent37 : Ent Try.prog 37 := enters_of Try.func37 (by kernel_rfl) rfl
set_option maxRecDepth 100000 in
set_option maxHeartbeats 4000000 in
theorem rsize_sh (fuel : Nat) (s : Ar) (r : Int) (h : F_rsize fuel s = some r) : Pure (ITP Try.prog) Try.prog 37 [.agg (Enc.cells (s : Ar))] (.raw (.int .i64 r)) := by
 obtain ⟨d, hd⟩ : ∃ d, Try.f37.body = some d := ⟨_, rfl⟩
 refine pure_of mix Try.func37 hd ent37 ?_
 cases hd
 unfold F_rsize at h
 refine w_start (by dsimp only [abeginS, Try.f37, List.length_cons, List.length_nil, Nat.zero_add, Nat.reduceAdd, Nat.reduceSub, List.replicate, List.cons_append, List.nil_append]) (by dsimp only [St.empty]) ?_
 refine w_seq (w_region ?_)
 refine w_opm (a := .ptr 0 0) (σ'' := ⟨[(57, (Enc.cells (s : Ar)))], [], [], 0, false⟩) rfl rfl rfl rfl (by dsimp only [aput, List.set]) rfl ?_
 refine w_op (a := .raw (.int .i64 0)) rfl rfl rfl rfl (by dsimp only [aput, List.set]) ?_
 refine w_seq (w_region ?_)
 refine w_op (a := .raw (.int .i64 0)) rfl rfl rfl rfl (by dsimp only [aput, List.set]) ?_
 refine w_cutF h [0, 1, 2, 3, 4, 5, 6, 7, 8, 9, 10, 11, 12, 13, 14] (fun j1 => [(3, .raw (.int .i64 j1))]) (fun j1 => ⟨[(57, (Enc.cells (s : Ar)))], [], [], 0, false⟩) ?_ ?_
 ·
  intro or1 h hr1
  refine w_seq (w_region ?_)
  refine w_op (a := .raw (.int .i64 0)) rfl rfl rfl rfl (by dsimp only [aput, List.set]) ?_
  refine w_block ?_
  refine w_loopF h [0, 2, 3, 4, 5, 6, 7, 8, 9, 10, 11, 12, 13, 14] (fun s1 => [(3, .raw (.int .i64 s1.1)), (4, .raw (.int .i64 s1.2))]) (fun s1 => ⟨[(57, (Enc.cells (s : Ar)))], [], [], 0, false⟩) ?_ ?_
  ·
   exact wm_of [false, true, false, true, true, false, false, false, false, false, false, false, false, false, false] (by kernel_rfl) (by kernel_rfl)
  ·
   intro s1 p1 h
   refine w_start (by dsimp only [setAll, topAll, List.foldl, List.set]) rfl ?_
   refine w_seq ?_
   refine w_seq (w_region ?_)
   refine w_op (a := .raw (.int .i64 s1.2)) rfl rfl rfl rfl (by dsimp only [aput, List.set]) ?_
   refine w_op (a := .raw (.bool (decide (s1.2 < 256)))) rfl rfl rfl rfl (by dsimp only [aput, List.set]) ?_
   refine bif_e h (fun hc1 h => ?_) (fun hc1 h => ?_)
   ·
    refine w_condT hc1 rfl ?_
    refine w_seq ?_
    refine w_block ?_
    refine w_region (id := 5) ?_
    refine w_op (a := .raw (.int .i64 s1.1)) rfl rfl rfl rfl (by dsimp only [aput, List.set]) ?_
    refine w_op (a := .raw (.int .i64 s1.2)) rfl rfl rfl rfl (by dsimp only [aput, List.set]) ?_
    obtain ⟨g1, h⟩ := chk_e h
    refine w_op (a := .ptr 0 (0 + Int.toNat s1.2 * 1)) rfl rfl rfl (op_q (q_idxA g1 rfl rfl rfl rfl rfl)) (by dsimp only [aput, List.set]) ?_
    refine w_op (a := .raw (.int .i64 (rdA s s1.2))) rfl rfl rfl (op_q (q_loadA s g1 rfl rfl rfl)) (by dsimp only [aput, List.set]) ?_
    obtain ⟨g2, h⟩ := chk_e h
    refine w_op (a := .raw (.int .i64 (s1.1 + (rdA s s1.2)))) rfl rfl rfl (op_q (q_add rfl rfl rfl rfl g2.1 g2.2)) (by dsimp only [aput, List.set]) ?_
    refine w_op (a := .raw (.int .i64 (s1.1 + (rdA s s1.2)))) rfl rfl rfl rfl (by dsimp only [aput, List.set]) ?_
    refine w_region (id := 4) ?_
    refine w_op (a := .raw (.int .i64 s1.2)) rfl rfl rfl rfl (by dsimp only [aput, List.set]) ?_
    obtain ⟨g3, h⟩ := chk_e h
    refine w_op (a := .raw (.int .i64 (s1.2 + 1))) rfl rfl rfl (op_q (q_add rfl rfl rfl rfl g3.1 g3.2)) (by dsimp only [aput, List.set]) ?_
    refine w_op (a := .raw (.int .i64 (s1.2 + 1))) rfl rfl rfl rfl (by dsimp only [aput, List.set]) ?_
    refine loop_next (p := p1) ((s1.1 + (rdA s s1.2)), (s1.2 + 1)) h ?_
    exact wm_of [false, true, false, true, true, false, false, false, false, false, false, false, false, false, false] (by kernel_rfl) (by kernel_rfl)
   ·
    refine w_condF hc1 rfl ?_
    refine loop_exit h (fun h => ?_)
    refine cut_done (o := or1) (s1.1) h ?_
    exact wm_of [false, false, false, true, false, false, false, false, false, false, false, false, false, false, false] (by kernel_rfl) (by kernel_rfl)
 ·
  intro j1 h
  refine w_start (by dsimp only [setAll, topAll, List.foldl, List.set]) rfl ?_
  refine w_seq (w_region ?_)
  refine w_op (a := .raw (.int .i64 j1)) rfl rfl rfl rfl (by dsimp only [aput, List.set]) ?_
  refine w_op (a := .raw (.int .i64 j1)) rfl rfl rfl rfl (by dsimp only [aput, List.set]) ?_
  exact end_pureF (fun (r : Int) => (.raw (.int .i64 r) : AV)) h (a := .raw (.int .i64 j1)) rfl rfl rfl
def F_rboth (fuel : Nat) (a : Ar) (b : Ar) (how : Int) : Option Ar :=
  (cutE (τ := Ar) (loopE (β := Int × Ar) (fun s1 => (bif (decide (s1.1 < 256)) then (cutE (τ := Ar) (chk (0 ≤ s1.1 ∧ s1.1 < 256) (chk (0 ≤ s1.1 ∧ s1.1 < 256) (chk (-9223372036854775808 ≤ ((rdA a s1.1) + (rdA b s1.1)) ∧ ((rdA a s1.1) + (rdA b s1.1)) < 9223372036854775808) (cutE (τ := Bool) (bif (how == 1) then (chk (0 ≤ s1.1 ∧ s1.1 < 256) (chk (0 ≤ s1.1 ∧ s1.1 < 256) (chk (-9223372036854775808 ≤ ((rdA a s1.1) + (rdA b s1.1)) ∧ ((rdA a s1.1) + (rdA b s1.1)) < 9223372036854775808) (some (Sum.inl ((((rdA a s1.1) + (rdA b s1.1)) == 2))))))) else (some (Sum.inl ((decide (((rdA a s1.1) + (rdA b s1.1)) > 0)))))) (fun j3 => (cutE (τ := Bool) (bif (how == 2) then (chk (0 ≤ s1.1 ∧ s1.1 < 256) (chk (0 ≤ s1.1 ∧ s1.1 < 256) (some (Sum.inl ((decide ((rdA a s1.1) > (rdA b s1.1)))))))) else (some (Sum.inl (j3)))) (fun j4 => (bif j4 then (chk (0 ≤ s1.1 ∧ s1.1 < 256) (some (Sum.inl ((wrA s1.2 s1.1 1))))) else (some (Sum.inl (s1.2))))))))))) (fun j2 => (chk (-9223372036854775808 ≤ (s1.1 + 1) ∧ (s1.1 + 1) < 9223372036854775808) (some (Sum.inl ((s1.1 + 1), j2)))))) else (some (Sum.inr (Sum.inl (s1.2)))))) fuel (0, zeroA)) (fun j1 => (some j1)))
theorem ent38 : Ent Try.prog 38 := enters_of Try.func38 (by kernel_rfl) rfl
set_option maxRecDepth 100000 in
set_option maxHeartbeats 4000000 in
theorem rboth_sh (fuel : Nat) (a : Ar) (b : Ar) (how : Int) (r : Ar) (h : F_rboth fuel a b how = some r) : Pure (ITP Try.prog) Try.prog 38 [.agg (Enc.cells (a : Ar)), .agg (Enc.cells (b : Ar)), .raw (.int .i64 how)] (.agg (Enc.cells (r : Ar))) := by
 obtain ⟨d, hd⟩ : ∃ d, Try.f38.body = some d := ⟨_, rfl⟩
 refine pure_of mix Try.func38 hd ent38 ?_
 cases hd
 unfold F_rboth at h
 refine w_start (by dsimp only [abeginS, Try.f38, List.length_cons, List.length_nil, Nat.zero_add, Nat.reduceAdd, Nat.reduceSub, List.replicate, List.cons_append, List.nil_append]) (by dsimp only [St.empty]) ?_
 refine w_seq (w_region ?_)
 refine w_opm (a := .ptr 0 0) (σ'' := ⟨[(57, (Enc.cells (a : Ar)))], [], [], 0, false⟩) rfl rfl rfl rfl (by dsimp only [aput, List.set]) rfl ?_
 refine w_opm (a := .ptr 1 0) (σ'' := ⟨[(57, (Enc.cells (a : Ar))), (57, (Enc.cells (b : Ar)))], [], [], 0, false⟩) rfl rfl rfl rfl (by dsimp only [aput, List.set]) rfl ?_
 refine w_opm (a := .ptr 2 0) (σ'' := ⟨[(57, (Enc.cells (a : Ar))), (57, (Enc.cells (b : Ar))), (57, (Enc.cells (zeroA : Ar)))], [], [], 0, false⟩) rfl rfl rfl (op_allocA (by decide) rfl) (by dsimp only [aput, List.set]) rfl ?_
 refine w_seq (w_region ?_)
 refine w_opm (a := .ptr 3 0) (σ'' := ⟨[(57, (Enc.cells (a : Ar))), (57, (Enc.cells (b : Ar))), (57, (Enc.cells (zeroA : Ar))), (57, (Enc.cells (zeroA : Ar)))], [], [], 0, false⟩) rfl rfl rfl (op_allocA (by decide) rfl) (by dsimp only [aput, List.set]) rfl ?_
 refine w_cutF h [0, 1, 2, 3, 4, 5, 8, 9, 10, 11, 12, 13, 14, 15, 16, 17, 18, 19, 20, 21, 22, 23, 24, 25, 26, 27, 28, 29, 30, 31, 32, 33, 34, 35, 36, 37, 38, 39, 40, 41, 42, 43, 44] (fun j1 => []) (fun j1 => ⟨[(57, (Enc.cells (a : Ar))), (57, (Enc.cells (b : Ar))), (57, (Enc.cells (zeroA : Ar))), (57, (Enc.cells (j1 : Ar)))], [], [], 0, false⟩) ?_ ?_
 ·
  intro or1 h hr1
  refine w_seq (w_region ?_)
  refine w_op (a := .raw (.int .i64 0)) rfl rfl rfl rfl (by dsimp only [aput, List.set]) ?_
  refine w_block ?_
  refine w_loopF h [0, 1, 5, 8, 9, 10, 11, 12, 13, 14, 15, 16, 17, 18, 19, 20, 21, 22, 23, 24, 25, 26, 27, 28, 29, 30, 31, 32, 33, 34, 35, 36, 37, 38, 39, 40, 41, 42, 43, 44] (fun s1 => [(8, .raw (.int .i64 s1.1))]) (fun s1 => ⟨[(57, (Enc.cells (a : Ar))), (57, (Enc.cells (b : Ar))), (57, (Enc.cells (zeroA : Ar))), (57, (Enc.cells (s1.2 : Ar)))], [], [], 0, false⟩) ?_ ?_
  ·
   exact wm_of [false, false, true, true, true, false, true, true, true, false, false, false, false, false, false, false, false, false, false, false, false, false, false, false, false, false, false, false, false, false, false, false, false, false, false, false, false, false, false, false, false, false, false, false, false] (by kernel_rfl) (by kernel_rfl)
  ·
   intro s1 p1 h
   refine w_start (by dsimp only [setAll, topAll, List.foldl, List.set]) rfl ?_
   refine w_seq ?_
   refine w_seq (w_region ?_)
   refine w_op (a := .raw (.int .i64 s1.1)) rfl rfl rfl rfl (by dsimp only [aput, List.set]) ?_
   refine w_op (a := .raw (.bool (decide (s1.1 < 256)))) rfl rfl rfl rfl (by dsimp only [aput, List.set]) ?_
   refine bif_e h (fun hc1 h => ?_) (fun hc1 h => ?_)
   ·
    refine w_condT hc1 rfl ?_
    refine w_cutF h [9, 10, 11, 14, 15, 16, 17, 18, 19, 20, 21, 22, 23, 24, 25, 26, 27, 28, 29, 30, 31, 32, 33, 34, 35, 36, 37, 38, 39, 40, 41, 42, 43] (fun j2 => []) (fun j2 => ⟨[(57, (Enc.cells (a : Ar))), (57, (Enc.cells (b : Ar))), (57, (Enc.cells (zeroA : Ar))), (57, (Enc.cells (j2 : Ar)))], [], [], 0, false⟩) ?_ ?_
    ·
     intro or2 h hr2
     refine w_block ?_
     refine w_seq ?_
     refine w_draw (id := 5) 6 (by kernel_rfl) (by kernel_rfl) ?_
     refine h_op (a := .raw (.int .i64 s1.1)) rfl rfl rfl rfl (by dsimp only [aput, List.set]) ?_
     obtain ⟨g1, h⟩ := chk_e h
     refine h_op (a := .ptr 0 (0 + Int.toNat s1.1 * 1)) rfl rfl rfl (q_idxA g1 rfl rfl rfl rfl rfl) (by dsimp only [aput, List.set]) ?_
     refine h_op (a := .raw (.int .i64 (rdA a s1.1))) rfl rfl rfl (q_loadA a g1 rfl rfl rfl) (by dsimp only [aput, List.set]) ?_
     refine h_op (a := .raw (.int .i64 s1.1)) rfl rfl rfl rfl (by dsimp only [aput, List.set]) ?_
     obtain ⟨g2, h⟩ := chk_e h
     refine h_op (a := .ptr 1 (0 + Int.toNat s1.1 * 1)) rfl rfl rfl (q_idxA g2 rfl rfl rfl rfl rfl) (by dsimp only [aput, List.set]) ?_
     refine h_op (a := .raw (.int .i64 (rdA b s1.1))) rfl rfl rfl (q_loadA b g2 rfl rfl rfl) (by dsimp only [aput, List.set]) ?_
     refine h_end ?_
     obtain ⟨g3, h⟩ := chk_e h
     refine w_op (a := .raw (.int .i64 ((rdA a s1.1) + (rdA b s1.1)))) rfl rfl rfl (op_q (q_add rfl rfl rfl rfl g3.1 g3.2)) (by dsimp only [aput, List.set]) ?_
     refine w_op (a := .raw (.bool (decide (((rdA a s1.1) + (rdA b s1.1)) > 0)))) rfl rfl rfl rfl (by dsimp only [aput, List.set]) ?_
     refine w_op (a := .raw (.bool (decide (((rdA a s1.1) + (rdA b s1.1)) > 0)))) rfl rfl rfl rfl (by dsimp only [aput, List.set]) ?_
     refine w_cutF h [9, 10, 11, 14, 15, 16, 17, 18, 19, 20, 21, 22, 23, 24, 25, 26, 27, 28, 29, 30, 31] (fun j3 => [(9, .raw (.bool j3))]) (fun j3 => ⟨[(57, (Enc.cells (a : Ar))), (57, (Enc.cells (b : Ar))), (57, (Enc.cells (zeroA : Ar))), (57, (Enc.cells (s1.2 : Ar)))], [], [], 0, false⟩) ?_ ?_
     ·
      intro or3 h hr3
      refine w_seq (w_region ?_)
      refine w_op (a := .raw (.int .i64 how)) rfl rfl rfl rfl (by dsimp only [aput, List.set]) ?_
      refine w_op (a := .raw (.bool (how == 1))) rfl rfl rfl rfl (by dsimp only [aput, List.set]) ?_
      refine bif_e h (fun hc2 h => ?_) (fun hc2 h => ?_)
      ·
       refine w_condT hc2 rfl ?_
       refine w_draw (id := 7) 6 (by kernel_rfl) (by kernel_rfl) ?_
       refine h_op (a := .raw (.int .i64 s1.1)) rfl rfl rfl rfl (by dsimp only [aput, List.set]) ?_
       obtain ⟨g4, h⟩ := chk_e h
       refine h_op (a := .ptr 0 (0 + Int.toNat s1.1 * 1)) rfl rfl rfl (q_idxA g4 rfl rfl rfl rfl rfl) (by dsimp only [aput, List.set]) ?_
       refine h_op (a := .raw (.int .i64 (rdA a s1.1))) rfl rfl rfl (q_loadA a g4 rfl rfl rfl) (by dsimp only [aput, List.set]) ?_
       refine h_op (a := .raw (.int .i64 s1.1)) rfl rfl rfl rfl (by dsimp only [aput, List.set]) ?_
       obtain ⟨g5, h⟩ := chk_e h
       refine h_op (a := .ptr 1 (0 + Int.toNat s1.1 * 1)) rfl rfl rfl (q_idxA g5 rfl rfl rfl rfl rfl) (by dsimp only [aput, List.set]) ?_
       refine h_op (a := .raw (.int .i64 (rdA b s1.1))) rfl rfl rfl (q_loadA b g5 rfl rfl rfl) (by dsimp only [aput, List.set]) ?_
       refine h_end ?_
       obtain ⟨g6, h⟩ := chk_e h
       refine w_op (a := .raw (.int .i64 ((rdA a s1.1) + (rdA b s1.1)))) rfl rfl rfl (op_q (q_add rfl rfl rfl rfl g6.1 g6.2)) (by dsimp only [aput, List.set]) ?_
       refine w_op (a := .raw (.bool (((rdA a s1.1) + (rdA b s1.1)) == 2))) rfl rfl rfl rfl (by dsimp only [aput, List.set]) ?_
       refine w_op (a := .raw (.bool (((rdA a s1.1) + (rdA b s1.1)) == 2))) rfl rfl rfl rfl (by dsimp only [aput, List.set]) ?_
       refine cut_done (o := or3) ((((rdA a s1.1) + (rdA b s1.1)) == 2)) h ?_
       exact wm_of [true, true, true, true, true, true, true, true, true, true, false, false, true, true, false, false, false, false, false, false, false, false, false, false, false, false, false, false, false, false, false, false, true, true, true, true, true, true, true, true, true, true, true, true, true] (by kernel_rfl) (by kernel_rfl)
      ·
       refine w_condF hc2 rfl ?_
       refine cut_done (o := or3) ((decide (((rdA a s1.1) + (rdA b s1.1)) > 0))) h ?_
       exact wm_of [true, true, true, true, true, true, true, true, true, true, false, false, true, true, false, false, false, false, false, false, false, false, false, false, false, false, false, false, false, false, false, false, true, true, true, true, true, true, true, true, true, true, true, true, true] (by kernel_rfl) (by kernel_rfl)
     ·
      intro j3 h
      refine w_start (by dsimp only [setAll, topAll, List.foldl, List.set]) rfl ?_
      refine w_cutF h [9, 32, 33, 34, 35, 36, 37, 38, 39, 40] (fun j4 => [(9, .raw (.bool j4))]) (fun j4 => ⟨[(57, (Enc.cells (a : Ar))), (57, (Enc.cells (b : Ar))), (57, (Enc.cells (zeroA : Ar))), (57, (Enc.cells (s1.2 : Ar)))], [], [], 0, false⟩) ?_ ?_
      ·
       intro or4 h hr4
       refine w_seq (w_region ?_)
       refine w_op (a := .raw (.int .i64 how)) rfl rfl rfl rfl (by dsimp only [aput, List.set]) ?_
       refine w_op (a := .raw (.bool (how == 2))) rfl rfl rfl rfl (by dsimp only [aput, List.set]) ?_
       refine bif_e h (fun hc3 h => ?_) (fun hc3 h => ?_)
       ·
        refine w_condT hc3 rfl ?_
        refine w_draw (id := 9) 6 (by kernel_rfl) (by kernel_rfl) ?_
        refine h_op (a := .raw (.int .i64 s1.1)) rfl rfl rfl rfl (by dsimp only [aput, List.set]) ?_
        obtain ⟨g7, h⟩ := chk_e h
        refine h_op (a := .ptr 0 (0 + Int.toNat s1.1 * 1)) rfl rfl rfl (q_idxA g7 rfl rfl rfl rfl rfl) (by dsimp only [aput, List.set]) ?_
        refine h_op (a := .raw (.int .i64 (rdA a s1.1))) rfl rfl rfl (q_loadA a g7 rfl rfl rfl) (by dsimp only [aput, List.set]) ?_
        refine h_op (a := .raw (.int .i64 s1.1)) rfl rfl rfl rfl (by dsimp only [aput, List.set]) ?_
        obtain ⟨g8, h⟩ := chk_e h
        refine h_op (a := .ptr 1 (0 + Int.toNat s1.1 * 1)) rfl rfl rfl (q_idxA g8 rfl rfl rfl rfl rfl) (by dsimp only [aput, List.set]) ?_
        refine h_op (a := .raw (.int .i64 (rdA b s1.1))) rfl rfl rfl (q_loadA b g8 rfl rfl rfl) (by dsimp only [aput, List.set]) ?_
        refine h_end ?_
        refine w_op (a := .raw (.bool (decide ((rdA a s1.1) > (rdA b s1.1))))) rfl rfl rfl rfl (by dsimp only [aput, List.set]) ?_
        refine w_op (a := .raw (.bool (decide ((rdA a s1.1) > (rdA b s1.1))))) rfl rfl rfl rfl (by dsimp only [aput, List.set]) ?_
        refine cut_done (o := or4) ((decide ((rdA a s1.1) > (rdA b s1.1)))) h ?_
        exact wm_of [true, true, true, true, true, true, true, true, true, true, true, true, true, true, true, true, true, true, true, true, true, true, true, true, true, true, true, true, true, true, true, true, false, false, false, false, false, false, false, false, false, true, true, true, true] (by kernel_rfl) (by kernel_rfl)
       ·
        refine w_condF hc3 rfl ?_
        refine cut_done (o := or4) (j3) h ?_
        exact wm_of [true, true, true, true, true, true, true, true, true, true, true, true, true, true, true, true, true, true, true, true, true, true, true, true, true, true, true, true, true, true, true, true, false, false, false, false, false, false, false, false, false, true, true, true, true] (by kernel_rfl) (by kernel_rfl)
      ·
       intro j4 h
       refine w_start (by dsimp only [setAll, topAll, List.foldl, List.set]) rfl ?_
       refine w_seq (w_region ?_)
       refine w_op (a := .raw (.bool j4)) rfl rfl rfl rfl (by dsimp only [aput, List.set]) ?_
       refine bif_e h (fun hc4 h => ?_) (fun hc4 h => ?_)
       ·
        refine w_condT hc4 rfl ?_
        refine w_region (id := 11) ?_
        refine w_op (a := .raw (.int .i64 s1.1)) rfl rfl rfl rfl (by dsimp only [aput, List.set]) ?_
        obtain ⟨g9, h⟩ := chk_e h
        refine w_op (a := .ptr 3 (0 + Int.toNat s1.1 * 1)) rfl rfl rfl (op_q (q_idxA g9 rfl rfl rfl rfl rfl)) (by dsimp only [aput, List.set]) ?_
        refine w_opm (σ'' := ⟨[(57, (Enc.cells (a : Ar))), (57, (Enc.cells (b : Ar))), (57, (Enc.cells (zeroA : Ar))), (57, (Enc.cells ((wrA s1.2 s1.1 1) : Ar)))], [], [], 0, false⟩) rfl rfl rfl (op_storeA s1.2 g9 rfl rfl rfl rfl) (by dsimp only [aput, List.set]) rfl ?_
        refine cut_done (o := or2) ((wrA s1.2 s1.1 1)) h ?_
        exact wm_of [true, true, true, true, true, true, true, true, true, false, false, false, true, true, false, false, false, false, false, false, false, false, false, false, false, false, false, false, false, false, false, false, false, false, false, false, false, false, false, false, false, false, false, false, true] (by kernel_rfl) (by kernel_rfl)
       ·
        refine w_condF hc4 rfl ?_
        refine cut_done (o := or2) (s1.2) h ?_
        exact wm_of [true, true, true, true, true, true, true, true, true, false, false, false, true, true, false, false, false, false, false, false, false, false, false, false, false, false, false, false, false, false, false, false, false, false, false, false, false, false, false, false, false, false, false, false, true] (by kernel_rfl) (by kernel_rfl)
    ·
     intro j2 h
     refine w_start (by dsimp only [setAll, topAll, List.foldl, List.set]) rfl ?_
     refine w_region (id := 4) ?_
     refine w_op (a := .raw (.int .i64 s1.1)) rfl rfl rfl rfl (by dsimp only [aput, List.set]) ?_
     obtain ⟨g10, h⟩ := chk_e h
     refine w_op (a := .raw (.int .i64 (s1.1 + 1))) rfl rfl rfl (op_q (q_add rfl rfl rfl rfl g10.1 g10.2)) (by dsimp only [aput, List.set]) ?_
     refine w_op (a := .raw (.int .i64 (s1.1 + 1))) rfl rfl rfl rfl (by dsimp only [aput, List.set]) ?_
     refine loop_next (p := p1) ((s1.1 + 1), j2) h ?_
     exact wm_of [false, false, true, true, true, false, true, true, true, false, false, false, false, false, false, false, false, false, false, false, false, false, false, false, false, false, false, false, false, false, false, false, false, false, false, false, false, false, false, false, false, false, false, false, false] (by kernel_rfl) (by kernel_rfl)
   ·
    refine w_condF hc1 rfl ?_
    refine loop_exit h (fun h => ?_)
    refine cut_done (o := or1) (s1.2) h ?_
    exact wm_of [false, false, false, false, false, false, true, true, false, false, false, false, false, false, false, false, false, false, false, false, false, false, false, false, false, false, false, false, false, false, false, false, false, false, false, false, false, false, false, false, false, false, false, false, false] (by kernel_rfl) (by kernel_rfl)
 ·
  intro j1 h
  refine w_start (by dsimp only [setAll, topAll, List.foldl, List.set]) rfl ?_
  refine w_seq (w_region ?_)
  refine w_op (a := .agg (Enc.cells (j1 : Ar))) rfl rfl rfl (op_q (q_loadArr j1 (by decide) rfl rfl rfl)) (by dsimp only [aput, List.set]) ?_
  refine w_opm (σ'' := ⟨[(57, (Enc.cells (a : Ar))), (57, (Enc.cells (b : Ar))), (57, (Enc.cells (j1 : Ar))), (57, (Enc.cells (j1 : Ar)))], [], [], 0, false⟩) rfl rfl rfl (op_storeW (n := 256) rfl rfl rfl rfl rfl (Enc.len _) rfl (Enc.len _) (by decide)) (by dsimp only [aput, List.set]) rfl ?_
  exact end_pureF (fun (r : Ar) => (.agg (Enc.cells (r : Ar)) : AV)) h (a := .agg (Enc.cells (j1 : Ar))) rfl (okTrim_clo _ _ (clo_agg (Enc.clo _))) (strip_c (clo_agg (Enc.clo _)))
def F_rcompare (fuel : Nat) (a : Ar) (b : Ar) : Option Int :=
  (cutE (τ := Unit) (loopE (β := Int) (fun s1 => (bif (decide (s1 < 256)) then (chk (0 ≤ s1 ∧ s1 < 256) (chk (0 ≤ s1 ∧ s1 < 256) (bif ((rdA a s1) != (rdA b s1)) then (chk (0 ≤ s1 ∧ s1 < 256) (chk (0 ≤ s1 ∧ s1 < 256) (chk (-9223372036854775808 ≤ ((rdA b s1) - (rdA a s1)) ∧ ((rdA b s1) - (rdA a s1)) < 9223372036854775808) (some (Sum.inr (Sum.inr ((rdA b s1) - (rdA a s1)))))))) else (chk (-9223372036854775808 ≤ (s1 + 1) ∧ (s1 + 1) < 9223372036854775808) (some (Sum.inl ((s1 + 1)))))))) else (some (Sum.inr (Sum.inl ()))))) fuel (0)) (fun j1 => (some 0)))
theorem ent39 : Ent Try.prog 39 := enters_of Try.func39 (by kernel_rfl) rfl
set_option maxRecDepth 100000 in
set_option maxHeartbeats 4000000 in
theorem rcompare_sh (fuel : Nat) (a : Ar) (b : Ar) (r : Int) (h : F_rcompare fuel a b = some r) : Pure (ITP Try.prog) Try.prog 39 [.agg (Enc.cells (a : Ar)), .agg (Enc.cells (b : Ar))] (.raw (.int .i64 r)) := by
 obtain ⟨d, hd⟩ : ∃ d, Try.f39.body = some d := ⟨_, rfl⟩
 refine pure_of mix Try.func39 hd ent39 ?_
 cases hd
 unfold F_rcompare at h
 refine w_start (by dsimp only [abeginS, Try.f39, List.length_cons, List.length_nil, Nat.zero_add, Nat.reduceAdd, Nat.reduceSub, List.replicate, List.cons_append, List.nil_append]) (by dsimp only [St.empty]) ?_
 refine w_seq (w_region ?_)
 refine w_opm (a := .ptr 0 0) (σ'' := ⟨[(57, (Enc.cells (a : Ar)))], [], [], 0, false⟩) rfl rfl rfl rfl (by dsimp only [aput, List.set]) rfl ?_
 refine w_opm (a := .ptr 1 0) (σ'' := ⟨[(57, (Enc.cells (a : Ar))), (57, (Enc.cells (b : Ar)))], [], [], 0, false⟩) rfl rfl rfl rfl (by dsimp only [aput, List.set]) rfl ?_
 refine w_op (a := .raw (.int .i64 0)) rfl rfl rfl rfl (by dsimp only [aput, List.set]) ?_
 refine w_cutF h [0, 1, 2, 3, 4, 5, 6, 7, 8, 9, 10, 11, 12, 13, 14, 15, 16, 17, 18, 19, 20, 21, 22, 23] (fun j1 => []) (fun j1 => ⟨[(57, (Enc.cells (a : Ar))), (57, (Enc.cells (b : Ar)))], [], [], 0, false⟩) ?_ ?_
 ·
  intro or1 h hr1
  refine w_seq (w_region ?_)
  refine w_op (a := .raw (.int .i64 0)) rfl rfl rfl rfl (by dsimp only [aput, List.set]) ?_
  refine w_block ?_
  refine w_loopF h [0, 1, 4, 5, 6, 7, 8, 9, 10, 11, 12, 13, 14, 15, 16, 17, 18, 19, 20, 21, 22, 23] (fun s1 => [(5, .raw (.int .i64 s1))]) (fun s1 => ⟨[(57, (Enc.cells (a : Ar))), (57, (Enc.cells (b : Ar)))], [], [], 0, false⟩) ?_ ?_
  ·
   exact wm_of [false, false, true, true, false, true, false, false, false, false, false, false, false, false, false, false, false, false, false, false, false, false, false, false] (by kernel_rfl) (by kernel_rfl)
  ·
   intro s1 p1 h
   refine w_start (by dsimp only [setAll, topAll, List.foldl, List.set]) rfl ?_
   refine w_seq ?_
   refine w_seq (w_region ?_)
   refine w_op (a := .raw (.int .i64 s1)) rfl rfl rfl rfl (by dsimp only [aput, List.set]) ?_
   refine w_op (a := .raw (.bool (decide (s1 < 256)))) rfl rfl rfl rfl (by dsimp only [aput, List.set]) ?_
   refine bif_e h (fun hc1 h => ?_) (fun hc1 h => ?_)
   ·
    refine w_condT hc1 rfl ?_
    refine w_seq ?_
    refine w_block ?_
    refine w_seq ?_
    refine w_draw (id := 4) 6 (by kernel_rfl) (by kernel_rfl) ?_
    refine h_op (a := .raw (.int .i64 s1)) rfl rfl rfl rfl (by dsimp only [aput, List.set]) ?_
    obtain ⟨g1, h⟩ := chk_e h
    refine h_op (a := .ptr 0 (0 + Int.toNat s1 * 1)) rfl rfl rfl (q_idxA g1 rfl rfl rfl rfl rfl) (by dsimp only [aput, List.set]) ?_
    refine h_op (a := .raw (.int .i64 (rdA a s1))) rfl rfl rfl (q_loadA a g1 rfl rfl rfl) (by dsimp only [aput, List.set]) ?_
    refine h_op (a := .raw (.int .i64 s1)) rfl rfl rfl rfl (by dsimp only [aput, List.set]) ?_
    obtain ⟨g2, h⟩ := chk_e h
    refine h_op (a := .ptr 1 (0 + Int.toNat s1 * 1)) rfl rfl rfl (q_idxA g2 rfl rfl rfl rfl rfl) (by dsimp only [aput, List.set]) ?_
    refine h_op (a := .raw (.int .i64 (rdA b s1))) rfl rfl rfl (q_loadA b g2 rfl rfl rfl) (by dsimp only [aput, List.set]) ?_
    refine h_end ?_
    refine w_op (a := .raw (.bool ((rdA a s1) != (rdA b s1)))) rfl rfl rfl rfl (by dsimp only [aput, List.set]) ?_
    refine bif_e h (fun hc2 h => ?_) (fun hc2 h => ?_)
    ·
     refine w_condT hc2 rfl ?_
     refine w_seq ?_
     refine w_draw (id := 5) 6 (by kernel_rfl) (by kernel_rfl) ?_
     refine h_op (a := .raw (.int .i64 s1)) rfl rfl rfl rfl (by dsimp only [aput, List.set]) ?_
     obtain ⟨g3, h⟩ := chk_e h
     refine h_op (a := .ptr 1 (0 + Int.toNat s1 * 1)) rfl rfl rfl (q_idxA g3 rfl rfl rfl rfl rfl) (by dsimp only [aput, List.set]) ?_
     refine h_op (a := .raw (.int .i64 (rdA b s1))) rfl rfl rfl (q_loadA b g3 rfl rfl rfl) (by dsimp only [aput, List.set]) ?_
     refine h_op (a := .raw (.int .i64 s1)) rfl rfl rfl rfl (by dsimp only [aput, List.set]) ?_
     obtain ⟨g4, h⟩ := chk_e h
     refine h_op (a := .ptr 0 (0 + Int.toNat s1 * 1)) rfl rfl rfl (q_idxA g4 rfl rfl rfl rfl rfl) (by dsimp only [aput, List.set]) ?_
     refine h_op (a := .raw (.int .i64 (rdA a s1))) rfl rfl rfl (q_loadA a g4 rfl rfl rfl) (by dsimp only [aput, List.set]) ?_
     refine h_end ?_
     obtain ⟨g5, h⟩ := chk_e h
     refine w_op (a := .raw (.int .i64 ((rdA b s1) - (rdA a s1)))) rfl rfl rfl (op_q (q_sub rfl rfl rfl rfl g5.1 g5.2)) (by dsimp only [aput, List.set]) ?_
     refine w_op (a := .raw (.int .i64 ((rdA b s1) - (rdA a s1)))) rfl rfl rfl rfl (by dsimp only [aput, List.set]) ?_
     refine loop_exit h (fun h => ?_)
     replace h := cut_inr h hr1
     exact end_pureF (fun (r : Int) => (.raw (.int .i64 r) : AV)) h (a := .raw (.int .i64 ((rdA b s1) - (rdA a s1)))) rfl rfl rfl
    ·
     refine w_condF hc2 rfl ?_
     refine w_region (id := 3) ?_
     refine w_op (a := .raw (.int .i64 s1)) rfl rfl rfl rfl (by dsimp only [aput, List.set]) ?_
     obtain ⟨g6, h⟩ := chk_e h
     refine w_op (a := .raw (.int .i64 (s1 + 1))) rfl rfl rfl (op_q (q_add rfl rfl rfl rfl g6.1 g6.2)) (by dsimp only [aput, List.set]) ?_
     refine w_op (a := .raw (.int .i64 (s1 + 1))) rfl rfl rfl rfl (by dsimp only [aput, List.set]) ?_
     refine loop_next (p := p1) ((s1 + 1)) h ?_
     exact wm_of [false, false, true, true, false, true, false, false, false, false, false, false, false, false, false, false, false, false, false, false, false, false, false, false] (by kernel_rfl) (by kernel_rfl)
   ·
    refine w_condF hc1 rfl ?_
    refine loop_exit h (fun h => ?_)
    refine cut_done (o := or1) () h ?_
    exact wm_of [false, false, false, false, false, false, false, false, false, false, false, false, false, false, false, false, false, false, false, false, false, false, false, false] (by kernel_rfl) (by kernel_rfl)
 ·
  intro j1 h
  refine w_start (by dsimp only [setAll, topAll, List.foldl, List.set]) rfl ?_
  refine w_seq (w_region ?_)
  refine w_op (a := .raw (.int .i64 0)) rfl rfl rfl rfl (by dsimp only [aput, List.set]) ?_
  exact end_pureF (fun (r : Int) => (.raw (.int .i64 r) : AV)) h (a := .raw (.int .i64 0)) rfl rfl rfl
def F_same (fuel : Nat) (a : (List UInt8)) (b : (List UInt8)) : Option Bool :=
  (bif ((List.length a : Int) != (List.length b : Int)) then (some false) else (cutE (τ := Unit) (loopE (β := Int) (fun s1 => (bif (decide (s1 < (List.length a : Int))) then (chk (0 ≤ s1 ∧ s1 < (List.length a : Int)) (chk (0 ≤ s1 ∧ s1 < (List.length b : Int)) (bif (((((ix a s1)).toNat : Nat) : Int) != ((((ix b s1)).toNat : Nat) : Int)) then (some (Sum.inr (Sum.inr false))) else (chk (-9223372036854775808 ≤ (s1 + 1) ∧ (s1 + 1) < 9223372036854775808) (some (Sum.inl ((s1 + 1)))))))) else (some (Sum.inr (Sum.inl ()))))) fuel (0)) (fun j1 => (some true))))
theorem ent40 : Ent Try.prog 40 := enters_of Try.func40 (by kernel_rfl) rfl
set_option maxRecDepth 100000 in
set_option maxHeartbeats 4000000 in
theorem same_sh (fuel : Nat) (a : (List UInt8)) (b : (List UInt8)) (r : Bool) (h : F_same fuel a b = some r) : Pure (ITP Try.prog) Try.prog 40 [.list (List.length (a : List UInt8)) (Enc.cellsL (a : List UInt8)) .none, .list (List.length (b : List UInt8)) (Enc.cellsL (b : List UInt8)) .none] (.raw (.bool r)) := by
 obtain ⟨d, hd⟩ : ∃ d, Try.f40.body = some d := ⟨_, rfl⟩
 refine pure_of mix Try.func40 hd ent40 ?_
 cases hd
 unfold F_same at h
 refine w_start (by dsimp only [abeginS, Try.f40, List.length_cons, List.length_nil, Nat.zero_add, Nat.reduceAdd, Nat.reduceSub, List.replicate, List.cons_append, List.nil_append]) (by dsimp only [St.empty]) ?_
 refine w_seq (w_region ?_)
 refine w_op (a := .raw (.bool false)) rfl rfl rfl rfl (by dsimp only [aput, List.set]) ?_
 refine w_seq ?_
 refine w_seq (w_region ?_)
 refine w_op (a := .list (List.length (a : List UInt8)) (Enc.cellsL (a : List UInt8)) .none) rfl rfl rfl rfl (by dsimp only [aput, List.set]) ?_
 refine w_op (a := .raw (.int .i64 (List.length a : Int))) rfl rfl rfl rfl (by dsimp only [aput, List.set]) ?_
 refine w_op (a := .list (List.length (b : List UInt8)) (Enc.cellsL (b : List UInt8)) .none) rfl rfl rfl rfl (by dsimp only [aput, List.set]) ?_
 refine w_op (a := .raw (.int .i64 (List.length b : Int))) rfl rfl rfl rfl (by dsimp only [aput, List.set]) ?_
 refine w_op (a := .raw (.bool ((List.length a : Int) != (List.length b : Int)))) rfl rfl rfl rfl (by dsimp only [aput, List.set]) ?_
 refine bif_e h (fun hc1 h => ?_) (fun hc1 h => ?_)
 ·
  refine w_condT hc1 rfl ?_
  refine w_seq (w_region ?_)
  refine w_op (a := .raw (.bool false)) rfl rfl rfl rfl (by dsimp only [aput, List.set]) ?_
  exact end_pureF (fun (r : Bool) => (.raw (.bool r) : AV)) h (a := .raw (.bool false)) rfl rfl rfl
 ·
  refine w_condF hc1 rfl ?_
  refine w_cutF h [0, 1, 2, 3, 4, 5, 6, 7, 8, 9, 10, 11, 12, 13, 14, 15, 16, 17, 18, 19, 20, 21, 22, 23, 24, 25] (fun j1 => []) (fun j1 => ⟨[], [], [], 0, false⟩) ?_ ?_
  ·
   intro or1 h hr1
   refine w_seq (w_region ?_)
   refine w_op (a := .raw (.int .i64 0)) rfl rfl rfl rfl (by dsimp only [aput, List.set]) ?_
   refine w_block ?_
   refine w_loopF h [2, 3, 4, 5, 6, 7, 8, 9, 10, 11, 12, 13, 14, 15, 16, 17, 18, 19, 20, 21, 22, 23, 24, 25] (fun s1 => [(5, .raw (.int .i64 s1))]) (fun s1 => ⟨[], [], [], 0, false⟩) ?_ ?_
   ·
    exact wm_of [true, true, false, false, false, true, false, false, false, false, false, false, false, false, false, false, false, false, false, false, false, false, false, false, false, false] (by kernel_rfl) (by kernel_rfl)
   ·
    intro s1 p1 h
    refine w_start (by dsimp only [setAll, topAll, List.foldl, List.set]) rfl ?_
    refine w_seq ?_
    refine w_seq (w_region ?_)
    refine w_op (a := .raw (.int .i64 s1)) rfl rfl rfl rfl (by dsimp only [aput, List.set]) ?_
    refine w_op (a := .list (List.length (a : List UInt8)) (Enc.cellsL (a : List UInt8)) .none) rfl rfl rfl rfl (by dsimp only [aput, List.set]) ?_
    refine w_op (a := .raw (.int .i64 (List.length a : Int))) rfl rfl rfl rfl (by dsimp only [aput, List.set]) ?_
    refine w_op (a := .raw (.bool (decide (s1 < (List.length a : Int))))) rfl rfl rfl rfl (by dsimp only [aput, List.set]) ?_
    refine bif_e h (fun hc2 h => ?_) (fun hc2 h => ?_)
    ·
     refine w_condT hc2 rfl ?_
     refine w_seq ?_
     refine w_block ?_
     refine w_seq ?_
     refine w_draw (id := 6) 8 (by kernel_rfl) (by kernel_rfl) ?_
     refine h_op (a := .list (List.length (a : List UInt8)) (Enc.cellsL (a : List UInt8)) .none) rfl rfl rfl rfl (by dsimp only [aput, List.set]) ?_
     refine h_op (a := .raw (.int .i64 s1)) rfl rfl rfl rfl (by dsimp only [aput, List.set]) ?_
     obtain ⟨g1, h⟩ := chk_e h
     refine h_op (a := .iptr (Enc.cells (ix a s1) ++ Enc.cellsL (List.drop (Int.toNat s1 + 1) a))) rfl rfl rfl (q_idx (α := UInt8) (l := a) g1 rfl rfl rfl rfl rfl) (by dsimp only [aput, List.set]) ?_
     refine h_op (a := .raw (.int .u8 ((((ix a s1)).toNat : Nat) : Int))) rfl rfl rfl rfl (by dsimp only [aput, List.set]) ?_
     refine h_op (a := .list (List.length (b : List UInt8)) (Enc.cellsL (b : List UInt8)) .none) rfl rfl rfl rfl (by dsimp only [aput, List.set]) ?_
     refine h_op (a := .raw (.int .i64 s1)) rfl rfl rfl rfl (by dsimp only [aput, List.set]) ?_
     obtain ⟨g2, h⟩ := chk_e h
     refine h_op (a := .iptr (Enc.cells (ix b s1) ++ Enc.cellsL (List.drop (Int.toNat s1 + 1) b))) rfl rfl rfl (q_idx (α := UInt8) (l := b) g2 rfl rfl rfl rfl rfl) (by dsimp only [aput, List.set]) ?_
     refine h_op (a := .raw (.int .u8 ((((ix b s1)).toNat : Nat) : Int))) rfl rfl rfl rfl (by dsimp only [aput, List.set]) ?_
     refine h_end ?_
     refine w_op (a := .raw (.bool (((((ix a s1)).toNat : Nat) : Int) != ((((ix b s1)).toNat : Nat) : Int)))) rfl rfl rfl rfl (by dsimp only [aput, List.set]) ?_
     refine bif_e h (fun hc3 h => ?_) (fun hc3 h => ?_)
     ·
      refine w_condT hc3 rfl ?_
      refine w_seq (w_region ?_)
      refine w_op (a := .raw (.bool false)) rfl rfl rfl rfl (by dsimp only [aput, List.set]) ?_
      refine loop_exit h (fun h => ?_)
      replace h := cut_inr h hr1
      exact end_pureF (fun (r : Bool) => (.raw (.bool r) : AV)) h (a := .raw (.bool false)) rfl rfl rfl
     ·
      refine w_condF hc3 rfl ?_
      refine w_region (id := 5) ?_
      refine w_op (a := .raw (.int .i64 s1)) rfl rfl rfl rfl (by dsimp only [aput, List.set]) ?_
      obtain ⟨g3, h⟩ := chk_e h
      refine w_op (a := .raw (.int .i64 (s1 + 1))) rfl rfl rfl (op_q (q_add rfl rfl rfl rfl g3.1 g3.2)) (by dsimp only [aput, List.set]) ?_
      refine w_op (a := .raw (.int .i64 (s1 + 1))) rfl rfl rfl rfl (by dsimp only [aput, List.set]) ?_
      refine loop_next (p := p1) ((s1 + 1)) h ?_
      exact wm_of [true, true, false, false, false, true, false, false, false, false, false, false, false, false, false, false, false, false, false, false, false, false, false, false, false, false] (by kernel_rfl) (by kernel_rfl)
    ·
     refine w_condF hc2 rfl ?_
     refine loop_exit h (fun h => ?_)
     refine cut_done (o := or1) () h ?_
     exact wm_of [false, false, false, false, false, false, false, false, false, false, false, false, false, false, false, false, false, false, false, false, false, false, false, false, false, false] (by kernel_rfl) (by kernel_rfl)
  ·
   intro j1 h
   refine w_start (by dsimp only [setAll, topAll, List.foldl, List.set]) rfl ?_
   refine w_seq (w_region ?_)
   refine w_op (a := .raw (.bool true)) rfl rfl rfl rfl (by dsimp only [aput, List.set]) ?_
   exact end_pureF (fun (r : Bool) => (.raw (.bool r) : AV)) h (a := .raw (.bool true)) rfl rfl rfl
def F_rnext (fuel : Nat) (s : Ar) (fr : Int) : Option Int :=
  (cutE (τ := Unit) (loopE (β := Int) (fun s1 => (bif (decide (s1 < 256)) then (chk (0 ≤ s1 ∧ s1 < 256) (bif ((rdA s s1) == 1) then (some (Sum.inr (Sum.inr s1))) else (chk (-9223372036854775808 ≤ (s1 + 1) ∧ (s1 + 1) < 9223372036854775808) (some (Sum.inl ((s1 + 1))))))) else (some (Sum.inr (Sum.inl ()))))) fuel (fr)) (fun j1 => (some (-1))))
theorem ent42 : Ent Try.prog 42 := enters_of Try.func42 (by kernel_rfl) rfl
set_option maxRecDepth 100000 in
set_option maxHeartbeats 4000000 in
theorem rnext_sh (fuel : Nat) (s : Ar) (fr : Int) (r : Int) (h : F_rnext fuel s fr = some r) : Pure (ITP Try.prog) Try.prog 42 [.agg (Enc.cells (s : Ar)), .raw (.int .i64 fr)] (.raw (.int .i64 r)) := by
 obtain ⟨d, hd⟩ : ∃ d, Try.f42.body = some d := ⟨_, rfl⟩
 refine pure_of mix Try.func42 hd ent42 ?_
 cases hd
 unfold F_rnext at h
 refine w_start (by dsimp only [abeginS, Try.f42, List.length_cons, List.length_nil, Nat.zero_add, Nat.reduceAdd, Nat.reduceSub, List.replicate, List.cons_append, List.nil_append]) (by dsimp only [St.empty]) ?_
 refine w_seq (w_region ?_)
 refine w_opm (a := .ptr 0 0) (σ'' := ⟨[(57, (Enc.cells (s : Ar)))], [], [], 0, false⟩) rfl rfl rfl rfl (by dsimp only [aput, List.set]) rfl ?_
 refine w_op (a := .raw (.int .i64 0)) rfl rfl rfl rfl (by dsimp only [aput, List.set]) ?_
 refine w_cutF h [0, 1, 2, 3, 4, 5, 6, 7, 8, 9, 10, 11, 12, 13, 14, 15] (fun j1 => []) (fun j1 => ⟨[(57, (Enc.cells (s : Ar)))], [], [], 0, false⟩) ?_ ?_
 ·
  intro or1 h hr1
  refine w_seq (w_region ?_)
  refine w_op (a := .raw (.int .i64 fr)) rfl rfl rfl rfl (by dsimp only [aput, List.set]) ?_
  refine w_op (a := .raw (.int .i64 fr)) rfl rfl rfl rfl (by dsimp only [aput, List.set]) ?_
  refine w_block ?_
  refine w_loopF h [0, 1, 3, 4, 5, 6, 7, 8, 9, 10, 11, 12, 13, 14, 15] (fun s1 => [(5, .raw (.int .i64 s1))]) (fun s1 => ⟨[(57, (Enc.cells (s : Ar)))], [], [], 0, false⟩) ?_ ?_
  ·
   exact wm_of [false, false, true, false, false, true, false, false, false, false, false, false, false, false, false, false] (by kernel_rfl) (by kernel_rfl)
  ·
   intro s1 p1 h
   refine w_start (by dsimp only [setAll, topAll, List.foldl, List.set]) rfl ?_
   refine w_seq ?_
   refine w_seq (w_region ?_)
   refine w_op (a := .raw (.int .i64 s1)) rfl rfl rfl rfl (by dsimp only [aput, List.set]) ?_
   refine w_op (a := .raw (.bool (decide (s1 < 256)))) rfl rfl rfl rfl (by dsimp only [aput, List.set]) ?_
   refine bif_e h (fun hc1 h => ?_) (fun hc1 h => ?_)
   ·
    refine w_condT hc1 rfl ?_
    refine w_seq ?_
    refine w_block ?_
    refine w_seq (w_region ?_)
    refine w_op (a := .raw (.int .i64 s1)) rfl rfl rfl rfl (by dsimp only [aput, List.set]) ?_
    obtain ⟨g1, h⟩ := chk_e h
    refine w_op (a := .ptr 0 (0 + Int.toNat s1 * 1)) rfl rfl rfl (op_q (q_idxA g1 rfl rfl rfl rfl rfl)) (by dsimp only [aput, List.set]) ?_
    refine w_op (a := .raw (.int .i64 (rdA s s1))) rfl rfl rfl (op_q (q_loadA s g1 rfl rfl rfl)) (by dsimp only [aput, List.set]) ?_
    refine w_op (a := .raw (.bool ((rdA s s1) == 1))) rfl rfl rfl rfl (by dsimp only [aput, List.set]) ?_
    refine bif_e h (fun hc2 h => ?_) (fun hc2 h => ?_)
    ·
     refine w_condT hc2 rfl ?_
     refine w_seq (w_region ?_)
     refine w_op (a := .raw (.int .i64 s1)) rfl rfl rfl rfl (by dsimp only [aput, List.set]) ?_
     refine w_op (a := .raw (.int .i64 s1)) rfl rfl rfl rfl (by dsimp only [aput, List.set]) ?_
     refine loop_exit h (fun h => ?_)
     replace h := cut_inr h hr1
     exact end_pureF (fun (r : Int) => (.raw (.int .i64 r) : AV)) h (a := .raw (.int .i64 s1)) rfl rfl rfl
    ·
     refine w_condF hc2 rfl ?_
     refine w_region (id := 3) ?_
     refine w_op (a := .raw (.int .i64 s1)) rfl rfl rfl rfl (by dsimp only [aput, List.set]) ?_
     obtain ⟨g2, h⟩ := chk_e h
     refine w_op (a := .raw (.int .i64 (s1 + 1))) rfl rfl rfl (op_q (q_add rfl rfl rfl rfl g2.1 g2.2)) (by dsimp only [aput, List.set]) ?_
     refine w_op (a := .raw (.int .i64 (s1 + 1))) rfl rfl rfl rfl (by dsimp only [aput, List.set]) ?_
     refine loop_next (p := p1) ((s1 + 1)) h ?_
     exact wm_of [false, false, true, false, false, true, false, false, false, false, false, false, false, false, false, false] (by kernel_rfl) (by kernel_rfl)
   ·
    refine w_condF hc1 rfl ?_
    refine loop_exit h (fun h => ?_)
    refine cut_done (o := or1) () h ?_
    exact wm_of [false, false, false, false, false, false, false, false, false, false, false, false, false, false, false, false] (by kernel_rfl) (by kernel_rfl)
 ·
  intro j1 h
  refine w_start (by dsimp only [setAll, topAll, List.foldl, List.set]) rfl ?_
  refine w_seq (w_region ?_)
  refine w_op (a := .raw (.int .i64 (-1))) rfl rfl rfl rfl (by dsimp only [aput, List.set]) ?_
  exact end_pureF (fun (r : Int) => (.raw (.int .i64 r) : AV)) h (a := .raw (.int .i64 (-1))) rfl rfl rfl
def F_is (fuel : Nat) (s : BS) (want : Ar) : Option Bool :=
  (bindE (F_words fuel s) (fun x1 => (some (eqA x1 want))))
theorem ent34 : Ent Try.prog 34 := enters_of Try.func34 (by kernel_rfl) rfl
set_option maxRecDepth 100000 in
set_option maxHeartbeats 4000000 in
theorem is_sh (fuel : Nat) (s : BS) (want : Ar) (r : Bool) (h : F_is fuel s want = some r) : Pure (ITP Try.prog) Try.prog 34 [.agg (Enc.cells (s : BS)), .agg (Enc.cells (want : Ar))] (.raw (.bool r)) := by
 obtain ⟨d, hd⟩ : ∃ d, Try.f34.body = some d := ⟨_, rfl⟩
 refine pure_of mix Try.func34 hd ent34 ?_
 cases hd
 unfold F_is at h
 refine w_start (by dsimp only [abeginS, Try.f34, List.length_cons, List.length_nil, Nat.zero_add, Nat.reduceAdd, Nat.reduceSub, List.replicate, List.cons_append, List.nil_append]) (by dsimp only [St.empty]) ?_
 refine w_seq (w_region ?_)
 refine w_opm (a := .ptr 0 0) (σ'' := ⟨[(24, (Enc.cells (s : BS)))], [], [], 0, false⟩) rfl rfl rfl rfl (by dsimp only [aput, List.set]) rfl ?_
 refine w_opm (a := .ptr 1 0) (σ'' := ⟨[(24, (Enc.cells (s : BS))), (57, (Enc.cells (want : Ar)))], [], [], 0, false⟩) rfl rfl rfl rfl (by dsimp only [aput, List.set]) rfl ?_
 refine w_op (a := .raw (.bool false)) rfl rfl rfl rfl (by dsimp only [aput, List.set]) ?_
 refine w_seq ?_
 refine w_draw (id := 1) 3 (by kernel_rfl) (by kernel_rfl) ?_
 refine h_op (a := .agg (Enc.cells (s : BS))) rfl rfl rfl rfl (by dsimp only [aput, List.set]) ?_
 obtain ⟨x1, hx1, h⟩ := bindE_e h
 refine h_call (args' := [.agg (Enc.cells (s : BS))]) (r := .agg (Enc.cells (x1 : Ar))) (words_sh fuel s x1 hx1) rfl rfl rfl (stripL_cons (strip_c (clo_agg (Enc.clo _))) rfl) (okTrimL_cons (okTrim_clo _ _ (clo_agg (Enc.clo _))) rfl) (by dsimp only [aput, List.set]) ?_
 refine h_op (a := .agg (Enc.cells (want : Ar))) rfl rfl rfl (q_loadArr want (by decide) rfl rfl rfl) (by dsimp only [aput, List.set]) ?_
 refine h_end ?_
 refine w_run (.raw (.bool (eqA x1 want))) rfl rfl rfl (rs_eqA x1 want rfl rfl rfl) (by dsimp only [aput, List.set]) ?_
 refine w_op (a := .raw (.bool (eqA x1 want))) rfl rfl rfl rfl (by dsimp only [aput, List.set]) ?_
 exact end_pureF (fun (r : Bool) => (.raw (.bool r) : AV)) h (a := .raw (.bool (eqA x1 want))) rfl rfl rfl
def F_fromSpans (fuel : Nat) (l : (List Sp)) : Option BS :=
  (cutE (τ := BS) (loopE (β := Int × BS) (fun s1 => (bif (decide (s1.1 < (List.length l : Int))) then (chk (0 ≤ s1.1 ∧ s1.1 < (List.length l : Int)) (letE (ix l s1.1) (fun x1 => (chk ((0 ≤ (((x1.1).toNat : Nat) : Int) ∧ (((x1.1).toNat : Nat) : Int) < 256) ∧ 0 ≤ (((x1.2).toNat : Nat) : Int) ∧ (((x1.2).toNat : Nat) : Int) < 256) (letE (rangeS (Int.toNat (((x1.1).toNat : Nat) : Int)) (Int.toNat (((x1.2).toNat : Nat) : Int))) (fun x2 => (letE (s1.2 ||| x2) (fun x3 => (chk (-9223372036854775808 ≤ (s1.1 + 1) ∧ (s1.1 + 1) < 9223372036854775808) (some (Sum.inl ((s1.1 + 1), x3)))))))))))) else (some (Sum.inr (Sum.inl (s1.2)))))) fuel (0, 0#256)) (fun j1 => (some j1)))
theorem ent28 : Ent Try.prog 28 := enters_of Try.func28 (by kernel_rfl) rfl
set_option maxRecDepth 100000 in
set_option maxHeartbeats 4000000 in
theorem fromSpans_sh (fuel : Nat) (l : (List Sp)) (r : BS) (h : F_fromSpans fuel l = some r) : Pure (ITP Try.prog) Try.prog 28 [.list (List.length (l : List Sp)) (Enc.cellsL (l : List Sp)) .none] (.agg (Enc.cells (r : BS))) := by
 obtain ⟨d, hd⟩ : ∃ d, Try.f28.body = some d := ⟨_, rfl⟩
 refine pure_of mix Try.func28 hd ent28 ?_
 cases hd
 unfold F_fromSpans at h
 refine w_start (by dsimp only [abeginS, Try.f28, List.length_cons, List.length_nil, Nat.zero_add, Nat.reduceAdd, Nat.reduceSub, List.replicate, List.cons_append, List.nil_append]) (by dsimp only [St.empty]) ?_
 refine w_seq (w_region ?_)
 refine w_opm (a := .ptr 0 0) (σ'' := ⟨[(24, (Enc.cells (0#256 : BS)))], [], [], 0, false⟩) rfl rfl rfl rfl (by dsimp only [aput, List.set]) rfl ?_
 refine w_seq (w_region ?_)
 refine w_opm (a := .ptr 1 0) (σ'' := ⟨[(24, (Enc.cells (0#256 : BS))), (24, (Enc.cells (0#256 : BS)))], [], [], 0, false⟩) rfl rfl rfl rfl (by dsimp only [aput, List.set]) rfl ?_
 refine w_cutF h [0, 1, 4, 5, 6, 7, 8, 9, 10, 11, 12, 13, 14, 15, 16, 17, 18, 19, 20] (fun j1 => []) (fun j1 => ⟨[(24, (Enc.cells (0#256 : BS))), (24, (Enc.cells (j1 : BS)))], [], [], 0, false⟩) ?_ ?_
 ·
  intro or1 h hr1
  refine w_seq (w_region ?_)
  refine w_op (a := .list (List.length (l : List Sp)) (Enc.cellsL (l : List Sp)) .none) rfl rfl rfl rfl (by dsimp only [aput, List.set]) ?_
  refine w_op (a := .raw (.int .i64 (List.length l : Int))) rfl rfl rfl rfl (by dsimp only [aput, List.set]) ?_
  refine w_op (a := .raw (.int .i64 0)) rfl rfl rfl rfl (by dsimp only [aput, List.set]) ?_
  refine w_block ?_
  refine w_loopF h [0, 1, 4, 5, 8, 9, 10, 11, 12, 13, 14, 15, 16, 17, 18, 19, 20] (fun s1 => [(8, .raw (.int .i64 s1.1))]) (fun s1 => ⟨[(24, (Enc.cells (0#256 : BS))), (24, (Enc.cells (s1.2 : BS)))], [], [], 0, false⟩) ?_ ?_
  ·
   exact wm_of [false, false, true, true, false, false, true, true, true, false, false, false, false, false, false, false, false, false, false, false, false] (by kernel_rfl) (by kernel_rfl)
  ·
   intro s1 p1 h
   refine w_start (by dsimp only [setAll, topAll, List.foldl, List.set]) rfl ?_
   refine w_seq (w_region ?_)
   refine w_op (a := .raw (.bool (decide (s1.1 < (List.length l : Int))))) rfl rfl rfl rfl (by dsimp only [aput, List.set]) ?_
   refine w_seq ?_
   refine bif_e h (fun hc1 h => ?_) (fun hc1 h => ?_)
   ·
    refine w_condT hc1 rfl ?_
    refine w_seq ?_
    refine w_block ?_
    refine w_seq (w_region ?_)
    obtain ⟨g1, h⟩ := chk_e h
    obtain ⟨x1, hx1, h⟩ := letE_e h
    refine w_op (a := .iptr (Enc.cells x1 ++ Enc.cellsL (List.drop (Int.toNat s1.1 + 1) l))) rfl rfl rfl (op_q (by rw [← hx1]; exact (q_idx (α := Sp) (l := l) g1 rfl rfl rfl rfl rfl))) (by dsimp only [aput, List.set]) ?_
    refine w_op (a := .agg (Enc.cells (x1 : Sp))) rfl rfl rfl rfl (by dsimp only [aput, List.set]) ?_
    refine w_opm (a := .ptr 2 0) (σ'' := ⟨[(24, (Enc.cells (0#256 : BS))), (24, (Enc.cells (s1.2 : BS))), (49, (Enc.cells ((0, 0) : Sp)))], [], [], 0, false⟩) rfl rfl rfl rfl (by dsimp only [aput, List.set]) rfl ?_
    refine w_opm (σ'' := ⟨[(24, (Enc.cells (0#256 : BS))), (24, (Enc.cells (s1.2 : BS))), (49, (Enc.cells (x1 : Sp)))], [], [], 0, false⟩) rfl rfl rfl (op_storeW (n := 2) rfl rfl rfl rfl rfl rfl rfl rfl (by decide)) (by dsimp only [aput, List.set]) rfl ?_
    refine w_draw (id := 5) 6 (by kernel_rfl) (by kernel_rfl) ?_
    refine h_op (a := .agg (Enc.cells (s1.2 : BS))) rfl rfl rfl rfl (by dsimp only [aput, List.set]) ?_
    refine h_op (a := .ptr 2 0) rfl rfl rfl rfl (by dsimp only [aput, List.set]) ?_
    refine h_op (a := .raw (.int .u8 (((x1.1).toNat : Nat) : Int))) rfl rfl rfl rfl (by dsimp only [aput, List.set]) ?_
    refine h_op (a := .ptr 2 1) rfl rfl rfl rfl (by dsimp only [aput, List.set]) ?_
    refine h_op (a := .raw (.int .u8 (((x1.2).toNat : Nat) : Int))) rfl rfl rfl rfl (by dsimp only [aput, List.set]) ?_
    obtain ⟨g2, h⟩ := chk_e h
    obtain ⟨x2, hx2, h⟩ := letE_e h
    refine h_call (args' := [.raw (.int .u8 (((x1.1).toNat : Nat) : Int)), .raw (.int .u8 (((x1.2).toNat : Nat) : Int))]) (r := .agg (Enc.cells (x2 : BS))) (by rw [← hx2]; exact (k_range (((x1.1).toNat : Nat) : Int) (((x1.2).toNat : Nat) : Int) g2)) rfl rfl rfl (stripL_cons rfl (stripL_cons rfl rfl)) (okTrimL_cons rfl (okTrimL_cons rfl rfl)) (by dsimp only [aput, List.set]) ?_
    refine h_end ?_
    obtain ⟨x3, hx3, h⟩ := letE_e h
    refine w_callc (args' := [.agg (Enc.cells (s1.2 : BS)), .agg (Enc.cells (x2 : BS))]) (r := .agg (Enc.cells (x3 : BS))) (by rw [← hx3]; exact (k_or s1.2 x2)) rfl rfl (stripL_cons (strip_c (clo_agg (Enc.clo _))) (stripL_cons (strip_c (clo_agg (Enc.clo _))) rfl)) (okTrimL_cons (okTrim_clo _ _ (clo_agg (Enc.clo _))) (okTrimL_cons (okTrim_clo _ _ (clo_agg (Enc.clo _))) rfl)) (by dsimp only [aput, List.set]) ?_
    refine w_opm (σ'' := ⟨[(24, (Enc.cells (0#256 : BS))), (24, (Enc.cells (x3 : BS))), (49, (Enc.cells (x1 : Sp)))], [], [], 0, false⟩) rfl rfl rfl (op_storeW (n := 4) rfl rfl rfl rfl rfl rfl rfl rfl (by decide)) (by dsimp only [aput, List.set]) rfl ?_
    refine w_region (id := 6) ?_
    obtain ⟨g3, h⟩ := chk_e h
    refine w_op (a := .raw (.int .i64 (s1.1 + 1))) rfl rfl rfl (op_q (q_add rfl rfl rfl rfl g3.1 g3.2)) (by dsimp only [aput, List.set]) ?_
    refine w_op (a := .raw (.int .i64 (s1.1 + 1))) rfl rfl rfl rfl (by dsimp only [aput, List.set]) ?_
    refine loop_next (p := p1) ((s1.1 + 1), x3) h ?_
    exact wm_trim [false, false, true, true, false, false, true, true, true, false, false, false, false, false, false, false, false, false, false, false, false] 2 (by kernel_rfl) (Nat.le_of_ble_eq_true rfl) (okSt_of (okB_cons (okTrimL_clo _ _ (Enc.clo _)) (okB_cons (okTrimL_clo _ _ (Enc.clo _)) rfl))) (by dsimp only [setAll, topAll, List.foldl, List.set]; exact (okTrimL_cons rfl (okTrimL_cons rfl (okTrimL_cons (by decide) (okTrimL_cons (by decide) (okTrimL_cons rfl (okTrimL_cons rfl (okTrimL_cons (okTrim_l (Enc.cloL _)) (okTrimL_cons rfl (okTrimL_cons rfl (okTrimL_cons rfl (okTrimL_cons rfl (okTrimL_cons rfl (okTrimL_cons rfl (okTrimL_cons rfl (okTrimL_cons rfl (okTrimL_cons rfl (okTrimL_cons rfl (okTrimL_cons rfl (okTrimL_cons rfl (okTrimL_cons rfl (okTrimL_cons rfl rfl)))))))))))))))))))))) (by kernel_rfl)
   ·
    refine w_condF hc1 rfl ?_
    refine loop_exit h (fun h => ?_)
    refine cut_done (o := or1) (s1.2) h ?_
    exact wm_of [false, false, true, true, false, false, false, false, false, false, false, false, false, false, false, false, false, false, false, false, false] (by kernel_rfl) (by kernel_rfl)
 ·
  intro j1 h
  refine w_start (by dsimp only [setAll, topAll, List.foldl, List.set]) rfl ?_
  refine w_seq (w_region ?_)
  refine w_op (a := .agg (Enc.cells (j1 : BS))) rfl rfl rfl rfl (by dsimp only [aput, List.set]) ?_
  refine w_opm (σ'' := ⟨[(24, (Enc.cells (j1 : BS))), (24, (Enc.cells (j1 : BS)))], [], [], 0, false⟩) rfl rfl rfl (op_storeW (n := 4) rfl rfl rfl rfl rfl rfl rfl rfl (by decide)) (by dsimp only [aput, List.set]) rfl ?_
  exact end_pureF (fun (r : BS) => (.agg (Enc.cells (r : BS)) : AV)) h (a := .agg (Enc.cells (j1 : BS))) rfl (okTrim_clo _ _ (clo_agg (Enc.clo _))) (strip_c (clo_agg (Enc.clo _)))
end Go.Ab
set_option linter.unusedSimpArgs false
set_option linter.unusedVariables false
namespace Go.Ab
open Go Go.RowKit Go.Fwd Go.Proofs Go.Proofs.Ytjmhbbbpjbgmjaa
def F_rbytes (fuel : Nat) (s : Ar) : Option (List UInt8) :=
  (cutE (τ := (List UInt8)) (loopE (β := (List UInt8) × Int) (fun s1 => (bif (decide (s1.2 < 256)) then (cutE (τ := (List UInt8)) (chk (0 ≤ s1.2 ∧ s1.2 < 256) (bif ((rdA s s1.2) == 1) then (chk (0 ≤ (IntKind.u8.wrap s1.2) ∧ (IntKind.u8.wrap s1.2) < 256) (chk ((List.length s1.1 + List.length ([(u8of (IntKind.u8.wrap s1.2))] : List UInt8)) * 1 ≤ 140737488355328) (some (Sum.inl ((s1.1 ++ ([(u8of (IntKind.u8.wrap s1.2))] : List UInt8))))))) else (some (Sum.inl (s1.1))))) (fun j2 => (chk (-9223372036854775808 ≤ (s1.2 + 1) ∧ (s1.2 + 1) < 9223372036854775808) (some (Sum.inl (j2, (s1.2 + 1))))))) else (some (Sum.inr (Sum.inl (s1.1)))))) fuel (([] : (List UInt8)), 0)) (fun j1 => (some j1)))
theorem ent41 : Ent Try.prog 41 := enters_of Try.func41 (by kernel_rfl) rfl
set_option maxRecDepth 100000 in
set_option maxHeartbeats 4000000 in
theorem rbytes_sh (fuel : Nat) (s : Ar) (r : (List UInt8)) (h : F_rbytes fuel s = some r) : Pure (ITP Try.prog) Try.prog 41 [.agg (Enc.cells (s : Ar))] (.list (List.length (r : List UInt8)) (Enc.cellsL (r : List UInt8)) .none) := by
 obtain ⟨d, hd⟩ : ∃ d, Try.f41.body = some d := ⟨_, rfl⟩
 refine pure_of mix Try.func41 hd ent41 ?_
 cases hd
 unfold F_rbytes at h
 refine w_start (by dsimp only [abeginS, Try.f41, List.length_cons, List.length_nil, Nat.zero_add, Nat.reduceAdd, Nat.reduceSub, List.replicate, List.cons_append, List.nil_append]) (by dsimp only [St.empty]) ?_
 refine w_seq (w_region ?_)
 refine w_opm (a := .ptr 0 0) (σ'' := ⟨[(57, (Enc.cells (s : Ar)))], [], [], 0, false⟩) rfl rfl rfl rfl (by dsimp only [aput, List.set]) rfl ?_
 refine w_op (a := .list 0 [] .full) rfl rfl rfl rfl (by dsimp only [aput, List.set]) ?_
 refine w_seq (w_region ?_)
 refine w_op (a := .list 0 [] .full) rfl rfl rfl rfl (by dsimp only [aput, List.set]) ?_
 refine w_cutF h [0, 1, 2, 3, 4, 5, 6, 7, 8, 9, 10, 11, 12, 13, 14, 15, 16, 17, 18] (fun j1 => [(3, (ownAV (List.length (j1 : List UInt8)) (Enc.cellsL (j1 : List UInt8))))]) (fun j1 => (ownSt [(57, (Enc.cells (s : Ar)))] 5 (List.length (j1 : List UInt8)) 1)) ?_ ?_
 ·
  intro or1 h hr1
  refine w_seq (w_region ?_)
  refine w_op (a := .raw (.int .i64 0)) rfl rfl rfl rfl (by dsimp only [aput, List.set]) ?_
  refine w_block ?_
  refine w_loopF h [0, 2, 3, 4, 5, 6, 7, 8, 9, 10, 11, 12, 13, 14, 15, 16, 17, 18] (fun s1 => [(3, (ownAV (List.length (s1.1 : List UInt8)) (Enc.cellsL (s1.1 : List UInt8)))), (4, .raw (.int .i64 s1.2))]) (fun s1 => (ownSt [(57, (Enc.cells (s : Ar)))] 5 (List.length (s1.1 : List UInt8)) 1)) ?_ ?_
  ·
   exact wm_of [false, true, false, true, true, false, false, false, false, false, false, false, false, false, false, false, false, false, false] (by kernel_rfl) (by kernel_rfl)
  ·
   intro s1 p1 h
   refine w_start (by dsimp only [setAll, topAll, List.foldl, List.set]) rfl ?_
   refine w_seq ?_
   refine w_seq (w_region ?_)
   refine w_op (a := .raw (.int .i64 s1.2)) rfl rfl rfl rfl (by dsimp only [aput, List.set]) ?_
   refine w_op (a := .raw (.bool (decide (s1.2 < 256)))) rfl rfl rfl rfl (by dsimp only [aput, List.set]) ?_
   refine bif_e h (fun hc1 h => ?_) (fun hc1 h => ?_)
   ·
    refine w_condT hc1 rfl ?_
    refine w_cutF h [3, 5, 6, 9, 10, 11, 12, 13, 14, 15, 16, 17] (fun j2 => [(3, (ownAV (List.length (j2 : List UInt8)) (Enc.cellsL (j2 : List UInt8))))]) (fun j2 => (ownSt [(57, (Enc.cells (s : Ar)))] 5 (List.length (j2 : List UInt8)) 1)) ?_ ?_
    ·
     intro or2 h hr2
     refine w_block ?_
     refine w_seq (w_region ?_)
     refine w_op (a := .raw (.int .i64 s1.2)) rfl rfl rfl rfl (by dsimp only [aput, List.set]) ?_
     obtain ⟨g1, h⟩ := chk_e h
     refine w_op (a := .ptr 0 (0 + Int.toNat s1.2 * 1)) rfl rfl rfl (op_q (q_idxA g1 rfl rfl rfl rfl rfl)) (by dsimp only [aput, List.set]) ?_
     refine w_op (a := .raw (.int .i64 (rdA s s1.2))) rfl rfl rfl (op_q (q_loadA s g1 rfl rfl rfl)) (by dsimp only [aput, List.set]) ?_
     refine w_op (a := .raw (.bool ((rdA s s1.2) == 1))) rfl rfl rfl rfl (by dsimp only [aput, List.set]) ?_
     refine bif_e h (fun hc2 h => ?_) (fun hc2 h => ?_)
     ·
      refine w_condT hc2 rfl ?_
      refine w_region (id := 6) ?_
      refine w_op (a := (ownAV (List.length (s1.1 : List UInt8)) (Enc.cellsL (s1.1 : List UInt8)))) rfl rfl rfl rfl (by dsimp only [aput, List.set]) ?_
      refine w_op (a := .raw (.int .i64 s1.2)) rfl rfl rfl rfl (by dsimp only [aput, List.set]) ?_
      refine w_op (a := .raw (.int .u8 (IntKind.u8.wrap s1.2))) rfl rfl rfl rfl (by dsimp only [aput, List.set]) ?_
      obtain ⟨g2, h⟩ := chk_e h
      refine w_op (a := .list (List.length (([(u8of (IntKind.u8.wrap s1.2))] : List UInt8) : List UInt8)) (Enc.cellsL (([(u8of (IntKind.u8.wrap s1.2))] : List UInt8) : List UInt8)) .full) rfl rfl rfl (op_q (q_lit (α := UInt8) (l := ([(u8of (IntKind.u8.wrap s1.2))] : List UInt8)) (cs := [.raw (.int .u8 (IntKind.u8.wrap s1.2))]) rfl (by show List.map _ _ = _; simp only [List.map_cons, List.map_nil, u8c g2]))) (by dsimp only [aput, List.set]) ?_
      obtain ⟨g3, h⟩ := chk_e h
      refine w_opm (a := (ownAV (List.length ((s1.1 ++ ([(u8of (IntKind.u8.wrap s1.2))] : List UInt8)) : List UInt8)) (Enc.cellsL ((s1.1 ++ ([(u8of (IntKind.u8.wrap s1.2))] : List UInt8)) : List UInt8)))) (σ'' := (ownSt [(57, (Enc.cells (s : Ar)))] 5 (List.length ((s1.1 ++ ([(u8of (IntKind.u8.wrap s1.2))] : List UInt8)) : List UInt8)) 1)) rfl rfl rfl (op_append rfl rfl rfl rfl (append_ownE (α := UInt8) (bs := [(57, (Enc.cells (s : Ar)))]) (a := s1.1) (b := ([(u8of (IntKind.u8.wrap s1.2))] : List UInt8)) g3 rfl rfl rfl rfl rfl ⟨rfl, by decide⟩)) (by dsimp only [aput, List.set]) rfl ?_
      refine w_op (a := (ownAV (List.length ((s1.1 ++ ([(u8of (IntKind.u8.wrap s1.2))] : List UInt8)) : List UInt8)) (Enc.cellsL ((s1.1 ++ ([(u8of (IntKind.u8.wrap s1.2))] : List UInt8)) : List UInt8)))) rfl rfl rfl rfl (by dsimp only [aput, List.set]) ?_
      refine cut_done (o := or2) ((s1.1 ++ ([(u8of (IntKind.u8.wrap s1.2))] : List UInt8))) h ?_
      exact wm_of [true, true, true, true, true, false, false, true, true, false, false, false, false, false, false, false, false, false, true] (by kernel_rfl) (by kernel_rfl)
     ·
      refine w_condF hc2 rfl ?_
      refine cut_done (o := or2) (s1.1) h ?_
      exact wm_of [true, true, true, true, true, false, false, true, true, false, false, false, false, false, false, false, false, false, true] (by kernel_rfl) (by kernel_rfl)
    ·
     intro j2 h
     refine w_start (by dsimp only [setAll, topAll, List.foldl, List.set]) rfl ?_
     refine w_region (id := 4) ?_
     refine w_op (a := .raw (.int .i64 s1.2)) rfl rfl rfl rfl (by dsimp only [aput, List.set]) ?_
     obtain ⟨g4, h⟩ := chk_e h
     refine w_op (a := .raw (.int .i64 (s1.2 + 1))) rfl rfl rfl (op_q (q_add rfl rfl rfl rfl g4.1 g4.2)) (by dsimp only [aput, List.set]) ?_
     refine w_op (a := .raw (.int .i64 (s1.2 + 1))) rfl rfl rfl rfl (by dsimp only [aput, List.set]) ?_
     refine loop_next (p := p1) (j2, (s1.2 + 1)) h ?_
     exact wm_of [false, true, false, true, true, false, false, false, false, false, false, false, false, false, false, false, false, false, false] (by kernel_rfl) (by kernel_rfl)
   ·
    refine w_condF hc1 rfl ?_
    refine loop_exit h (fun h => ?_)
    refine cut_done (o := or1) (s1.1) h ?_
    exact wm_of [false, false, false, true, false, false, false, false, false, false, false, false, false, false, false, false, false, false, false] (by kernel_rfl) (by kernel_rfl)
 ·
  intro j1 h
  refine w_start (by dsimp only [setAll, topAll, List.foldl, List.set]) rfl ?_
  refine w_seq (w_region ?_)
  refine w_op (a := (ownAV (List.length (j1 : List UInt8)) (Enc.cellsL (j1 : List UInt8)))) rfl rfl rfl rfl (by dsimp only [aput, List.set]) ?_
  refine w_op (a := (ownAV (List.length (j1 : List UInt8)) (Enc.cellsL (j1 : List UInt8)))) rfl rfl rfl rfl (by dsimp only [aput, List.set]) ?_
  exact end_pureF (fun (r : (List UInt8)) => (.list (List.length (r : List UInt8)) (Enc.cellsL (r : List UInt8)) .none : AV)) h (a := (ownAV (List.length (j1 : List UInt8)) (Enc.cellsL (j1 : List UInt8)))) rfl (okTrim_own (Enc.cloL _)) (strip_o (Enc.cloL _) Enc.z)
def F_rspans (fuel : Nat) (s : Ar) : Option (List Int) :=
  (cutE (τ := (List Int)) (loopE (β := (List Int) × Int) (fun s1 => (bif (decide (s1.2 < 256)) then (cutE (τ := (List Int)) (cutE (τ := (List Int)) (chk (0 ≤ s1.2 ∧ s1.2 < 256) (bif ((rdA s s1.2) == 1) then (bif (s1.2 == 0) then (chk ((List.length s1.1 + List.length [s1.2]) * 8 ≤ 140737488355328) (some (Sum.inl ((s1.1 ++ [s1.2]))))) else (chk (-9223372036854775808 ≤ (s1.2 - 1) ∧ (s1.2 - 1) < 9223372036854775808) (chk (0 ≤ (s1.2 - 1) ∧ (s1.2 - 1) < 256) (bif ((rdA s (s1.2 - 1)) == 0) then (chk ((List.length s1.1 + List.length [s1.2]) * 8 ≤ 140737488355328) (some (Sum.inl ((s1.1 ++ [s1.2]))))) else (some (Sum.inl (s1.1))))))) else (some (Sum.inl (s1.1))))) (fun j3 => (chk (0 ≤ s1.2 ∧ s1.2 < 256) (bif ((rdA s s1.2) == 1) then (bif (s1.2 == 255) then (chk ((List.length j3 + List.length [s1.2]) * 8 ≤ 140737488355328) (some (Sum.inl ((j3 ++ [s1.2]))))) else (chk (-9223372036854775808 ≤ (s1.2 + 1) ∧ (s1.2 + 1) < 9223372036854775808) (chk (0 ≤ (s1.2 + 1) ∧ (s1.2 + 1) < 256) (bif ((rdA s (s1.2 + 1)) == 0) then (chk ((List.length j3 + List.length [s1.2]) * 8 ≤ 140737488355328) (some (Sum.inl ((j3 ++ [s1.2]))))) else (some (Sum.inl (j3))))))) else (some (Sum.inl (j3))))))) (fun j2 => (chk (-9223372036854775808 ≤ (s1.2 + 1) ∧ (s1.2 + 1) < 9223372036854775808) (some (Sum.inl (j2, (s1.2 + 1))))))) else (some (Sum.inr (Sum.inl (s1.1)))))) fuel (([] : (List Int)), 0)) (fun j1 => (some j1)))
theorem ent43 : Ent Try.prog 43 := enters_of Try.func43 (by kernel_rfl) rfl
set_option maxRecDepth 100000 in
set_option maxHeartbeats 4000000 in
theorem rspans_sh (fuel : Nat) (s : Ar) (r : (List Int)) (h : F_rspans fuel s = some r) : Pure (ITP Try.prog) Try.prog 43 [.agg (Enc.cells (s : Ar))] (.list (List.length (r : List Int)) (Enc.cellsL (r : List Int)) .none) := by
 obtain ⟨d, hd⟩ : ∃ d, Try.f43.body = some d := ⟨_, rfl⟩
 refine pure_of mix Try.func43 hd ent43 ?_
 cases hd
 unfold F_rspans at h
 refine w_start (by dsimp only [abeginS, Try.f43, List.length_cons, List.length_nil, Nat.zero_add, Nat.reduceAdd, Nat.reduceSub, List.replicate, List.cons_append, List.nil_append]) (by dsimp only [St.empty]) ?_
 refine w_seq (w_region ?_)
 refine w_opm (a := .ptr 0 0) (σ'' := ⟨[(57, (Enc.cells (s : Ar)))], [], [], 0, false⟩) rfl rfl rfl rfl (by dsimp only [aput, List.set]) rfl ?_
 refine w_op (a := .list 0 [] .full) rfl rfl rfl rfl (by dsimp only [aput, List.set]) ?_
 refine w_seq (w_region ?_)
 refine w_op (a := .list 0 [] .full) rfl rfl rfl rfl (by dsimp only [aput, List.set]) ?_
 refine w_cutF h [0, 1, 2, 3, 4, 5, 6, 7, 8, 9, 10, 11, 12, 13, 14, 15, 16, 17, 18, 19, 20, 21, 22, 23, 24, 25, 26, 27, 28, 29, 30, 31, 32, 33, 34, 35, 36, 37, 38, 39, 40, 41, 42, 43, 44, 45, 46, 47] (fun j1 => [(3, (ownAV (List.length (j1 : List Int)) (Enc.cellsL (j1 : List Int))))]) (fun j1 => (ownSt [(57, (Enc.cells (s : Ar)))] 3 (List.length (j1 : List Int)) 1)) ?_ ?_
 ·
  intro or1 h hr1
  refine w_seq (w_region ?_)
  refine w_op (a := .raw (.int .i64 0)) rfl rfl rfl rfl (by dsimp only [aput, List.set]) ?_
  refine w_block ?_
  refine w_loopF h [0, 2, 3, 4, 5, 6, 7, 8, 9, 10, 11, 12, 13, 14, 15, 16, 17, 18, 19, 20, 21, 22, 23, 24, 25, 26, 27, 28, 29, 30, 31, 32, 33, 34, 35, 36, 37, 38, 39, 40, 41, 42, 43, 44, 45, 46, 47] (fun s1 => [(3, (ownAV (List.length (s1.1 : List Int)) (Enc.cellsL (s1.1 : List Int)))), (4, .raw (.int .i64 s1.2))]) (fun s1 => (ownSt [(57, (Enc.cells (s : Ar)))] 3 (List.length (s1.1 : List Int)) 1)) ?_ ?_
  ·
   exact wm_of [false, true, false, true, true, false, false, false, false, false, false, false, false, false, false, false, false, false, false, false, false, false, false, false, false, false, false, false, false, false, false, false, false, false, false, false, false, false, false, false, false, false, false, false, false, false, false, false] (by kernel_rfl) (by kernel_rfl)
  ·
   intro s1 p1 h
   refine w_start (by dsimp only [setAll, topAll, List.foldl, List.set]) rfl ?_
   refine w_seq ?_
   refine w_seq (w_region ?_)
   refine w_op (a := .raw (.int .i64 s1.2)) rfl rfl rfl rfl (by dsimp only [aput, List.set]) ?_
   refine w_op (a := .raw (.bool (decide (s1.2 < 256)))) rfl rfl rfl rfl (by dsimp only [aput, List.set]) ?_
   refine bif_e h (fun hc1 h => ?_) (fun hc1 h => ?_)
   ·
    refine w_condT hc1 rfl ?_
    refine w_cutF h [3, 5, 6, 9, 10, 11, 12, 13, 14, 15, 16, 17, 18, 19, 20, 21, 22, 23, 24, 25, 26, 27, 28, 29, 30, 31, 32, 33, 34, 35, 36, 37, 38, 39, 40, 41, 42, 43, 44, 45, 46] (fun j2 => [(3, (ownAV (List.length (j2 : List Int)) (Enc.cellsL (j2 : List Int))))]) (fun j2 => (ownSt [(57, (Enc.cells (s : Ar)))] 3 (List.length (j2 : List Int)) 1)) ?_ ?_
    ·
     intro or2 h hr2
     refine w_block ?_
     refine w_cutF h [3, 5, 6, 9, 10, 11, 12, 13, 14, 15, 16, 17, 18, 19, 20, 21, 22, 23, 24, 25, 26, 27] (fun j3 => [(3, (ownAV (List.length (j3 : List Int)) (Enc.cellsL (j3 : List Int))))]) (fun j3 => (ownSt [(57, (Enc.cells (s : Ar)))] 3 (List.length (j3 : List Int)) 1)) ?_ ?_
     ·
      intro or3 h hr3
      refine w_seq (w_region ?_)
      refine w_op (a := .raw (.int .i64 s1.2)) rfl rfl rfl rfl (by dsimp only [aput, List.set]) ?_
      obtain ⟨g1, h⟩ := chk_e h
      refine w_op (a := .ptr 0 (0 + Int.toNat s1.2 * 1)) rfl rfl rfl (op_q (q_idxA g1 rfl rfl rfl rfl rfl)) (by dsimp only [aput, List.set]) ?_
      refine w_op (a := .raw (.int .i64 (rdA s s1.2))) rfl rfl rfl (op_q (q_loadA s g1 rfl rfl rfl)) (by dsimp only [aput, List.set]) ?_
      refine w_op (a := .raw (.bool ((rdA s s1.2) == 1))) rfl rfl rfl rfl (by dsimp only [aput, List.set]) ?_
      refine bif_e h (fun hc2 h => ?_) (fun hc2 h => ?_)
      ·
       refine w_op (a := .raw (.bool true)) rfl rfl rfl (op_q (q_bool rfl hc2)) (by dsimp only [aput, List.set]) ?_
       refine w_met rfl rfl ?_
       refine w_op (a := .raw (.int .i64 s1.2)) rfl rfl rfl rfl (by dsimp only [aput, List.set]) ?_
       refine w_met rfl rfl ?_
       refine w_op (a := .raw (.bool (s1.2 == 0))) rfl rfl rfl rfl (by dsimp only [aput, List.set]) ?_
       refine w_met rfl rfl ?_
       refine bif_e h (fun hc3 h => ?_) (fun hc3 h => ?_)
       ·
        refine w_op (a := .raw (.bool true)) rfl rfl rfl (op_q (q_bool rfl hc3)) (by dsimp only [aput, List.set]) ?_
        refine w_pass rfl rfl (by decide) (by dsimp only [aput, List.set]) ?_
        refine w_pass rfl rfl (by decide) (by dsimp only [aput, List.set]) ?_
        refine w_pass rfl rfl (by decide) (by dsimp only [aput, List.set]) ?_
        refine w_pass rfl rfl (by decide) (by dsimp only [aput, List.set]) ?_
        refine w_pass rfl rfl (by decide) (by dsimp only [aput, List.set]) ?_
        refine w_met rfl rfl ?_
        refine w_op (a := .raw (.bool true)) rfl rfl rfl rfl (by dsimp only [aput, List.set]) ?_
        refine w_op (a := .raw (.bool true)) rfl rfl rfl rfl (by dsimp only [aput, List.set]) ?_
        refine w_true rfl ?_
        refine w_region (id := 6) ?_
        refine w_op (a := (ownAV (List.length (s1.1 : List Int)) (Enc.cellsL (s1.1 : List Int)))) rfl rfl rfl rfl (by dsimp only [aput, List.set]) ?_
        refine w_op (a := .raw (.int .i64 s1.2)) rfl rfl rfl rfl (by dsimp only [aput, List.set]) ?_
        refine w_op (a := .list (List.length ([s1.2] : List Int)) (Enc.cellsL ([s1.2] : List Int)) .full) rfl rfl rfl (op_q (q_lit (α := Int) (l := [s1.2]) (cs := Enc.cells (s1.2 : Int) ++ []) rfl (by rw [Enc.cons, Enc.nil]))) (by dsimp only [aput, List.set]) ?_
        obtain ⟨g2, h⟩ := chk_e h
        refine w_opm (a := (ownAV (List.length ((s1.1 ++ [s1.2]) : List Int)) (Enc.cellsL ((s1.1 ++ [s1.2]) : List Int)))) (σ'' := (ownSt [(57, (Enc.cells (s : Ar)))] 3 (List.length ((s1.1 ++ [s1.2]) : List Int)) 1)) rfl rfl rfl (op_append rfl rfl rfl rfl (append_ownE (α := Int) (bs := [(57, (Enc.cells (s : Ar)))]) (a := s1.1) (b := [s1.2]) g2 rfl rfl rfl rfl rfl ⟨rfl, by decide⟩)) (by dsimp only [aput, List.set]) rfl ?_
        refine w_op (a := (ownAV (List.length ((s1.1 ++ [s1.2]) : List Int)) (Enc.cellsL ((s1.1 ++ [s1.2]) : List Int)))) rfl rfl rfl rfl (by dsimp only [aput, List.set]) ?_
        refine cut_done (o := or3) ((s1.1 ++ [s1.2])) h ?_
        exact wm_of [true, true, true, true, true, false, false, true, true, false, false, false, false, false, false, false, false, false, false, false, false, false, false, false, false, false, false, false, true, true, true, true, true, true, true, true, true, true, true, true, true, true, true, true, true, true, true, true] (by kernel_rfl) (by kernel_rfl)
       ·
        refine w_op (a := .raw (.bool false)) rfl rfl rfl (op_q (q_bool rfl hc3)) (by dsimp only [aput, List.set]) ?_
        refine w_met rfl rfl ?_
        refine w_op (a := .raw (.int .i64 s1.2)) rfl rfl rfl rfl (by dsimp only [aput, List.set]) ?_
        refine w_met rfl rfl ?_
        obtain ⟨g3, h⟩ := chk_e h
        refine w_op (a := .raw (.int .i64 (s1.2 - 1))) rfl rfl rfl (op_q (q_sub rfl rfl rfl rfl g3.1 g3.2)) (by dsimp only [aput, List.set]) ?_
        refine w_met rfl rfl ?_
        obtain ⟨g4, h⟩ := chk_e h
        refine w_op (a := .ptr 0 (0 + Int.toNat (s1.2 - 1) * 1)) rfl rfl rfl (op_q (q_idxA g4 rfl rfl rfl rfl rfl)) (by dsimp only [aput, List.set]) ?_
        refine w_met rfl rfl ?_
        refine w_op (a := .raw (.int .i64 (rdA s (s1.2 - 1)))) rfl rfl rfl (op_q (q_loadA s g4 rfl rfl rfl)) (by dsimp only [aput, List.set]) ?_
        refine w_met rfl rfl ?_
        refine w_op (a := .raw (.bool ((rdA s (s1.2 - 1)) == 0))) rfl rfl rfl rfl (by dsimp only [aput, List.set]) ?_
        refine w_met rfl rfl ?_
        refine w_op (a := .raw (.bool ((rdA s (s1.2 - 1)) == 0))) rfl rfl rfl rfl (by dsimp only [aput, List.set]) ?_
        refine w_op (a := .raw (.bool ((rdA s (s1.2 - 1)) == 0))) rfl rfl rfl rfl (by dsimp only [aput, List.set]) ?_
        refine bif_e h (fun hc4 h => ?_) (fun hc4 h => ?_)
        ·
         refine w_condT hc4 rfl ?_
         refine w_region (id := 6) ?_
         refine w_op (a := (ownAV (List.length (s1.1 : List Int)) (Enc.cellsL (s1.1 : List Int)))) rfl rfl rfl rfl (by dsimp only [aput, List.set]) ?_
         refine w_op (a := .raw (.int .i64 s1.2)) rfl rfl rfl rfl (by dsimp only [aput, List.set]) ?_
         refine w_op (a := .list (List.length ([s1.2] : List Int)) (Enc.cellsL ([s1.2] : List Int)) .full) rfl rfl rfl (op_q (q_lit (α := Int) (l := [s1.2]) (cs := Enc.cells (s1.2 : Int) ++ []) rfl (by rw [Enc.cons, Enc.nil]))) (by dsimp only [aput, List.set]) ?_
         obtain ⟨g5, h⟩ := chk_e h
         refine w_opm (a := (ownAV (List.length ((s1.1 ++ [s1.2]) : List Int)) (Enc.cellsL ((s1.1 ++ [s1.2]) : List Int)))) (σ'' := (ownSt [(57, (Enc.cells (s : Ar)))] 3 (List.length ((s1.1 ++ [s1.2]) : List Int)) 1)) rfl rfl rfl (op_append rfl rfl rfl rfl (append_ownE (α := Int) (bs := [(57, (Enc.cells (s : Ar)))]) (a := s1.1) (b := [s1.2]) g5 rfl rfl rfl rfl rfl ⟨rfl, by decide⟩)) (by dsimp only [aput, List.set]) rfl ?_
         refine w_op (a := (ownAV (List.length ((s1.1 ++ [s1.2]) : List Int)) (Enc.cellsL ((s1.1 ++ [s1.2]) : List Int)))) rfl rfl rfl rfl (by dsimp only [aput, List.set]) ?_
         refine cut_done (o := or3) ((s1.1 ++ [s1.2])) h ?_
         exact wm_of [true, true, true, true, true, false, false, true, true, false, false, false, false, false, false, false, false, false, false, false, false, false, false, false, false, false, false, false, true, true, true, true, true, true, true, true, true, true, true, true, true, true, true, true, true, true, true, true] (by kernel_rfl) (by kernel_rfl)
        ·
         refine w_condF hc4 rfl ?_
         refine cut_done (o := or3) (s1.1) h ?_
         exact wm_of [true, true, true, true, true, false, false, true, true, false, false, false, false, false, false, false, false, false, false, false, false, false, false, false, false, false, false, false, true, true, true, true, true, true, true, true, true, true, true, true, true, true, true, true, true, true, true, true] (by kernel_rfl) (by kernel_rfl)
      ·
       refine w_op (a := .raw (.bool false)) rfl rfl rfl (op_q (q_bool rfl hc2)) (by dsimp only [aput, List.set]) ?_
       refine w_pass rfl rfl (by decide) (by dsimp only [aput, List.set]) ?_
       refine w_pass rfl rfl (by decide) (by dsimp only [aput, List.set]) ?_
       refine w_pass rfl rfl (by decide) (by dsimp only [aput, List.set]) ?_
       refine w_pass rfl rfl (by decide) (by dsimp only [aput, List.set]) ?_
       refine w_pass rfl rfl (by decide) (by dsimp only [aput, List.set]) ?_
       refine w_pass rfl rfl (by decide) (by dsimp only [aput, List.set]) ?_
       refine w_pass rfl rfl (by decide) (by dsimp only [aput, List.set]) ?_
       refine w_pass rfl rfl (by decide) (by dsimp only [aput, List.set]) ?_
       refine w_pass rfl rfl (by decide) (by dsimp only [aput, List.set]) ?_
       refine w_op (a := .raw (.bool false)) rfl rfl rfl rfl (by dsimp only [aput, List.set]) ?_
       refine w_false rfl ?_
       refine cut_done (o := or3) (s1.1) h ?_
       exact wm_of [true, true, true, true, true, false, false, true, true, false, false, false, false, false, false, false, false, false, false, false, false, false, false, false, false, false, false, false, true, true, true, true, true, true, true, true, true, true, true, true, true, true, true, true, true, true, true, true] (by kernel_rfl) (by kernel_rfl)
     ·
      intro j3 h
      refine w_start (by dsimp only [setAll, topAll, List.foldl, List.set]) rfl ?_
      refine w_seq (w_region ?_)
      refine w_op (a := .raw (.int .i64 s1.2)) rfl rfl rfl rfl (by dsimp only [aput, List.set]) ?_
      obtain ⟨g6, h⟩ := chk_e h
      refine w_op (a := .ptr 0 (0 + Int.toNat s1.2 * 1)) rfl rfl rfl (op_q (q_idxA g6 rfl rfl rfl rfl rfl)) (by dsimp only [aput, List.set]) ?_
      refine w_op (a := .raw (.int .i64 (rdA s s1.2))) rfl rfl rfl (op_q (q_loadA s g6 rfl rfl rfl)) (by dsimp only [aput, List.set]) ?_
      refine w_op (a := .raw (.bool ((rdA s s1.2) == 1))) rfl rfl rfl rfl (by dsimp only [aput, List.set]) ?_
      refine bif_e h (fun hc5 h => ?_) (fun hc5 h => ?_)
      ·
       refine w_op (a := .raw (.bool true)) rfl rfl rfl (op_q (q_bool rfl hc5)) (by dsimp only [aput, List.set]) ?_
       refine w_met rfl rfl ?_
       refine w_op (a := .raw (.int .i64 s1.2)) rfl rfl rfl rfl (by dsimp only [aput, List.set]) ?_
       refine w_met rfl rfl ?_
       refine w_op (a := .raw (.bool (s1.2 == 255))) rfl rfl rfl rfl (by dsimp only [aput, List.set]) ?_
       refine w_met rfl rfl ?_
       refine bif_e h (fun hc6 h => ?_) (fun hc6 h => ?_)
       ·
        refine w_op (a := .raw (.bool true)) rfl rfl rfl (op_q (q_bool rfl hc6)) (by dsimp only [aput, List.set]) ?_
        refine w_pass rfl rfl (by decide) (by dsimp only [aput, List.set]) ?_
        refine w_pass rfl rfl (by decide) (by dsimp only [aput, List.set]) ?_
        refine w_pass rfl rfl (by decide) (by dsimp only [aput, List.set]) ?_
        refine w_pass rfl rfl (by decide) (by dsimp only [aput, List.set]) ?_
        refine w_pass rfl rfl (by decide) (by dsimp only [aput, List.set]) ?_
        refine w_met rfl rfl ?_
        refine w_op (a := .raw (.bool true)) rfl rfl rfl rfl (by dsimp only [aput, List.set]) ?_
        refine w_op (a := .raw (.bool true)) rfl rfl rfl rfl (by dsimp only [aput, List.set]) ?_
        refine w_true rfl ?_
        refine w_region (id := 8) ?_
        refine w_op (a := (ownAV (List.length (j3 : List Int)) (Enc.cellsL (j3 : List Int)))) rfl rfl rfl rfl (by dsimp only [aput, List.set]) ?_
        refine w_op (a := .raw (.int .i64 s1.2)) rfl rfl rfl rfl (by dsimp only [aput, List.set]) ?_
        refine w_op (a := .list (List.length ([s1.2] : List Int)) (Enc.cellsL ([s1.2] : List Int)) .full) rfl rfl rfl (op_q (q_lit (α := Int) (l := [s1.2]) (cs := Enc.cells (s1.2 : Int) ++ []) rfl (by rw [Enc.cons, Enc.nil]))) (by dsimp only [aput, List.set]) ?_
        obtain ⟨g7, h⟩ := chk_e h
        refine w_opm (a := (ownAV (List.length ((j3 ++ [s1.2]) : List Int)) (Enc.cellsL ((j3 ++ [s1.2]) : List Int)))) (σ'' := (ownSt [(57, (Enc.cells (s : Ar)))] 3 (List.length ((j3 ++ [s1.2]) : List Int)) 1)) rfl rfl rfl (op_append rfl rfl rfl rfl (append_ownE (α := Int) (bs := [(57, (Enc.cells (s : Ar)))]) (a := j3) (b := [s1.2]) g7 rfl rfl rfl rfl rfl ⟨rfl, by decide⟩)) (by dsimp only [aput, List.set]) rfl ?_
        refine w_op (a := (ownAV (List.length ((j3 ++ [s1.2]) : List Int)) (Enc.cellsL ((j3 ++ [s1.2]) : List Int)))) rfl rfl rfl rfl (by dsimp only [aput, List.set]) ?_
        refine cut_done (o := or2) ((j3 ++ [s1.2])) h ?_
        exact wm_of [true, true, true, true, true, false, false, true, true, false, false, false, false, false, false, false, false, false, false, false, false, false, false, false, false, false, false, false, false, false, false, false, false, false, false, false, false, false, false, false, false, false, false, false, false, false, false, true] (by kernel_rfl) (by kernel_rfl)
       ·
        refine w_op (a := .raw (.bool false)) rfl rfl rfl (op_q (q_bool rfl hc6)) (by dsimp only [aput, List.set]) ?_
        refine w_met rfl rfl ?_
        refine w_op (a := .raw (.int .i64 s1.2)) rfl rfl rfl rfl (by dsimp only [aput, List.set]) ?_
        refine w_met rfl rfl ?_
        obtain ⟨g8, h⟩ := chk_e h
        refine w_op (a := .raw (.int .i64 (s1.2 + 1))) rfl rfl rfl (op_q (q_add rfl rfl rfl rfl g8.1 g8.2)) (by dsimp only [aput, List.set]) ?_
        refine w_met rfl rfl ?_
        obtain ⟨g9, h⟩ := chk_e h
        refine w_op (a := .ptr 0 (0 + Int.toNat (s1.2 + 1) * 1)) rfl rfl rfl (op_q (q_idxA g9 rfl rfl rfl rfl rfl)) (by dsimp only [aput, List.set]) ?_
        refine w_met rfl rfl ?_
        refine w_op (a := .raw (.int .i64 (rdA s (s1.2 + 1)))) rfl rfl rfl (op_q (q_loadA s g9 rfl rfl rfl)) (by dsimp only [aput, List.set]) ?_
        refine w_met rfl rfl ?_
        refine w_op (a := .raw (.bool ((rdA s (s1.2 + 1)) == 0))) rfl rfl rfl rfl (by dsimp only [aput, List.set]) ?_
        refine w_met rfl rfl ?_
        refine w_op (a := .raw (.bool ((rdA s (s1.2 + 1)) == 0))) rfl rfl rfl rfl (by dsimp only [aput, List.set]) ?_
        refine w_op (a := .raw (.bool ((rdA s (s1.2 + 1)) == 0))) rfl rfl rfl rfl (by dsimp only [aput, List.set]) ?_
        refine bif_e h (fun hc7 h => ?_) (fun hc7 h => ?_)
        ·
         refine w_condT hc7 rfl ?_
         refine w_region (id := 8) ?_
         refine w_op (a := (ownAV (List.length (j3 : List Int)) (Enc.cellsL (j3 : List Int)))) rfl rfl rfl rfl (by dsimp only [aput, List.set]) ?_
         refine w_op (a := .raw (.int .i64 s1.2)) rfl rfl rfl rfl (by dsimp only [aput, List.set]) ?_
         refine w_op (a := .list (List.length ([s1.2] : List Int)) (Enc.cellsL ([s1.2] : List Int)) .full) rfl rfl rfl (op_q (q_lit (α := Int) (l := [s1.2]) (cs := Enc.cells (s1.2 : Int) ++ []) rfl (by rw [Enc.cons, Enc.nil]))) (by dsimp only [aput, List.set]) ?_
         obtain ⟨g10, h⟩ := chk_e h
         refine w_opm (a := (ownAV (List.length ((j3 ++ [s1.2]) : List Int)) (Enc.cellsL ((j3 ++ [s1.2]) : List Int)))) (σ'' := (ownSt [(57, (Enc.cells (s : Ar)))] 3 (List.length ((j3 ++ [s1.2]) : List Int)) 1)) rfl rfl rfl (op_append rfl rfl rfl rfl (append_ownE (α := Int) (bs := [(57, (Enc.cells (s : Ar)))]) (a := j3) (b := [s1.2]) g10 rfl rfl rfl rfl rfl ⟨rfl, by decide⟩)) (by dsimp only [aput, List.set]) rfl ?_
         refine w_op (a := (ownAV (List.length ((j3 ++ [s1.2]) : List Int)) (Enc.cellsL ((j3 ++ [s1.2]) : List Int)))) rfl rfl rfl rfl (by dsimp only [aput, List.set]) ?_
         refine cut_done (o := or2) ((j3 ++ [s1.2])) h ?_
         exact wm_of [true, true, true, true, true, false, false, true, true, false, false, false, false, false, false, false, false, false, false, false, false, false, false, false, false, false, false, false, false, false, false, false, false, false, false, false, false, false, false, false, false, false, false, false, false, false, false, true] (by kernel_rfl) (by kernel_rfl)
        ·
         refine w_condF hc7 rfl ?_
         refine cut_done (o := or2) (j3) h ?_
         exact wm_of [true, true, true, true, true, false, false, true, true, false, false, false, false, false, false, false, false, false, false, false, false, false, false, false, false, false, false, false, false, false, false, false, false, false, false, false, false, false, false, false, false, false, false, false, false, false, false, true] (by kernel_rfl) (by kernel_rfl)
      ·
       refine w_op (a := .raw (.bool false)) rfl rfl rfl (op_q (q_bool rfl hc5)) (by dsimp only [aput, List.set]) ?_
       refine w_pass rfl rfl (by decide) (by dsimp only [aput, List.set]) ?_
       refine w_pass rfl rfl (by decide) (by dsimp only [aput, List.set]) ?_
       refine w_pass rfl rfl (by decide) (by dsimp only [aput, List.set]) ?_
       refine w_pass rfl rfl (by decide) (by dsimp only [aput, List.set]) ?_
       refine w_pass rfl rfl (by decide) (by dsimp only [aput, List.set]) ?_
       refine w_pass rfl rfl (by decide) (by dsimp only [aput, List.set]) ?_
       refine w_pass rfl rfl (by decide) (by dsimp only [aput, List.set]) ?_
       refine w_pass rfl rfl (by decide) (by dsimp only [aput, List.set]) ?_
       refine w_pass rfl rfl (by decide) (by dsimp only [aput, List.set]) ?_
       refine w_op (a := .raw (.bool false)) rfl rfl rfl rfl (by dsimp only [aput, List.set]) ?_
       refine w_false rfl ?_
       refine cut_done (o := or2) (j3) h ?_
       exact wm_of [true, true, true, true, true, false, false, true, true, false, false, false, false, false, false, false, false, false, false, false, false, false, false, false, false, false, false, false, false, false, false, false, false, false, false, false, false, false, false, false, false, false, false, false, false, false, false, true] (by kernel_rfl) (by kernel_rfl)
    ·
     intro j2 h
     refine w_start (by dsimp only [setAll, topAll, List.foldl, List.set]) rfl ?_
     refine w_region (id := 4) ?_
     refine w_op (a := .raw (.int .i64 s1.2)) rfl rfl rfl rfl (by dsimp only [aput, List.set]) ?_
     obtain ⟨g11, h⟩ := chk_e h
     refine w_op (a := .raw (.int .i64 (s1.2 + 1))) rfl rfl rfl (op_q (q_add rfl rfl rfl rfl g11.1 g11.2)) (by dsimp only [aput, List.set]) ?_
     refine w_op (a := .raw (.int .i64 (s1.2 + 1))) rfl rfl rfl rfl (by dsimp only [aput, List.set]) ?_
     refine loop_next (p := p1) (j2, (s1.2 + 1)) h ?_
     exact wm_of [false, true, false, true, true, false, false, false, false, false, false, false, false, false, false, false, false, false, false, false, false, false, false, false, false, false, false, false, false, false, false, false, false, false, false, false, false, false, false, false, false, false, false, false, false, false, false, false] (by kernel_rfl) (by kernel_rfl)
   ·
    refine w_condF hc1 rfl ?_
    refine loop_exit h (fun h => ?_)
    refine cut_done (o := or1) (s1.1) h ?_
    exact wm_of [false, false, false, true, false, false, false, false, false, false, false, false, false, false, false, false, false, false, false, false, false, false, false, false, false, false, false, false, false, false, false, false, false, false, false, false, false, false, false, false, false, false, false, false, false, false, false, false] (by kernel_rfl) (by kernel_rfl)
 ·
  intro j1 h
  refine w_start (by dsimp only [setAll, topAll, List.foldl, List.set]) rfl ?_
  refine w_seq (w_region ?_)
  refine w_op (a := (ownAV (List.length (j1 : List Int)) (Enc.cellsL (j1 : List Int)))) rfl rfl rfl rfl (by dsimp only [aput, List.set]) ?_
  refine w_op (a := (ownAV (List.length (j1 : List Int)) (Enc.cellsL (j1 : List Int)))) rfl rfl rfl rfl (by dsimp only [aput, List.set]) ?_
  exact end_pureF (fun (r : (List Int)) => (.list (List.length (r : List Int)) (Enc.cellsL (r : List Int)) .none : AV)) h (a := (ownAV (List.length (j1 : List Int)) (Enc.cellsL (j1 : List Int)))) rfl (okTrim_own (Enc.cloL _)) (strip_o (Enc.cloL _) Enc.z)
def F_rparts (fuel : Nat) (l : (List Ar)) : Option Ar :=
  (cutE (τ := Ar) (loopE (β := Int × Ar) (fun s1 => (bif (decide (s1.1 < 256)) then (cutE (τ := Ar) (loopE (β := Int) (fun s2 => (bif (decide (s2 ≤ s1.1)) then (cutE (τ := Unit) (cutE (τ := Bool) (loopE (β := Bool × Int) (fun s3 => (bif (decide (s3.2 < (List.length l : Int))) then (cutE (τ := Bool) (bif s3.1 then (chk (0 ≤ s3.2 ∧ s3.2 < (List.length l : Int)) (letE (ix l s3.2) (fun x1 => (chk (0 ≤ s1.1 ∧ s1.1 < 256) (chk (0 ≤ s3.2 ∧ s3.2 < (List.length l : Int)) (letE (ix l s3.2) (fun x2 => (chk (0 ≤ s2 ∧ s2 < 256) (some (Sum.inl (((rdA x1 s1.1) == (rdA x2 s2))))))))))))) else (some (Sum.inl (false)))) (fun j5 => (chk (-9223372036854775808 ≤ (s3.2 + 1) ∧ (s3.2 + 1) < 9223372036854775808) (some (Sum.inl (j5, (s3.2 + 1))))))) else (some (Sum.inr (Sum.inl (s3.1)))))) fuel (true, 0)) (fun j4 => (bif j4 then (chk (0 ≤ s1.1 ∧ s1.1 < 256) (some (Sum.inr (Sum.inr (Sum.inl ((wrA s1.2 s1.1 s2))))))) else (some (Sum.inl ()))))) (fun j3 => (chk (-9223372036854775808 ≤ (s2 + 1) ∧ (s2 + 1) < 9223372036854775808) (some (Sum.inl ((s2 + 1))))))) else (some (Sum.inr (Sum.inl (s1.2)))))) fuel (0)) (fun j2 => (chk (-9223372036854775808 ≤ (s1.1 + 1) ∧ (s1.1 + 1) < 9223372036854775808) (some (Sum.inl ((s1.1 + 1), j2)))))) else (some (Sum.inr (Sum.inl (s1.2)))))) fuel (0, zeroA)) (fun j1 => (some j1)))
theorem ent49 : Ent Try.prog 49 := enters_of Try.func49 (by kernel_rfl) rfl
set_option maxRecDepth 100000 in
set_option maxHeartbeats 4000000 in
theorem rparts_sh (fuel : Nat) (l : (List Ar)) (r : Ar) (h : F_rparts fuel l = some r) : Pure (ITP Try.prog) Try.prog 49 [.list (List.length (l : List Ar)) (Enc.cellsL (l : List Ar)) .none] (.agg (Enc.cells (r : Ar))) := by
 obtain ⟨d, hd⟩ : ∃ d, Try.f49.body = some d := ⟨_, rfl⟩
 refine pure_of mix Try.func49 hd ent49 ?_
 cases hd
 unfold F_rparts at h
 refine w_start (by dsimp only [abeginS, Try.f49, List.length_cons, List.length_nil, Nat.zero_add, Nat.reduceAdd, Nat.reduceSub, List.replicate, List.cons_append, List.nil_append]) (by dsimp only [St.empty]) ?_
 refine w_seq (w_region ?_)
 refine w_opm (a := .ptr 0 0) (σ'' := ⟨[(56, (Enc.cells (zeroA : Ar)))], [], [], 0, false⟩) rfl rfl rfl (op_allocA (by decide) rfl) (by dsimp only [aput, List.set]) rfl ?_
 refine w_seq (w_region ?_)
 refine w_opm (a := .ptr 1 0) (σ'' := ⟨[(56, (Enc.cells (zeroA : Ar))), (56, (Enc.cells (zeroA : Ar)))], [], [], 0, false⟩) rfl rfl rfl (op_allocA (by decide) rfl) (by dsimp only [aput, List.set]) rfl ?_
 refine w_cutF h [0, 1, 4, 5, 6, 7, 8, 9, 10, 11, 12, 13, 14, 15, 16, 17, 18, 19, 20, 21, 22, 23, 24, 25, 26, 27, 28, 29, 30, 31, 32, 33, 34, 35, 36, 37, 38, 39, 40, 41, 42, 43] (fun j1 => []) (fun j1 => ⟨[(56, (Enc.cells (zeroA : Ar))), (56, (Enc.cells (j1 : Ar)))], [], [], 0, false⟩) ?_ ?_
 ·
  intro or1 h hr1
  refine w_seq (w_region ?_)
  refine w_op (a := .raw (.int .i64 0)) rfl rfl rfl rfl (by dsimp only [aput, List.set]) ?_
  refine w_block ?_
  refine w_loopF h [1, 4, 5, 6, 7, 8, 9, 10, 11, 12, 13, 14, 15, 16, 17, 18, 19, 20, 21, 22, 23, 24, 25, 26, 27, 28, 29, 30, 31, 32, 33, 34, 35, 36, 37, 38, 39, 40, 41, 42, 43] (fun s1 => [(4, .raw (.int .i64 s1.1))]) (fun s1 => ⟨[(56, (Enc.cells (zeroA : Ar))), (56, (Enc.cells (s1.2 : Ar)))], [], [], 0, false⟩) ?_ ?_
  ·
   exact wm_of [true, false, true, true, true, false, false, false, false, false, false, false, false, false, false, false, false, false, false, false, false, false, false, false, false, false, false, false, false, false, false, false, false, false, false, false, false, false, false, false, false, false, false, false] (by kernel_rfl) (by kernel_rfl)
  ·
   intro s1 p1 h
   refine w_start (by dsimp only [setAll, topAll, List.foldl, List.set]) rfl ?_
   refine w_seq ?_
   refine w_seq (w_region ?_)
   refine w_op (a := .raw (.int .i64 s1.1)) rfl rfl rfl rfl (by dsimp only [aput, List.set]) ?_
   refine w_op (a := .raw (.bool (decide (s1.1 < 256)))) rfl rfl rfl rfl (by dsimp only [aput, List.set]) ?_
   refine bif_e h (fun hc1 h => ?_) (fun hc1 h => ?_)
   ·
    refine w_condT hc1 rfl ?_
    refine w_cutF h [5, 6, 7, 8, 9, 12, 13, 14, 15, 16, 17, 18, 19, 20, 21, 22, 23, 24, 25, 26, 27, 28, 29, 30, 31, 32, 33, 34, 35, 36, 37, 38, 39, 40, 41, 42] (fun j2 => []) (fun j2 => ⟨[(56, (Enc.cells (zeroA : Ar))), (56, (Enc.cells (j2 : Ar)))], [], [], 0, false⟩) ?_ ?_
    ·
     intro or2 h hr2
     refine w_block ?_
     refine w_seq (w_region ?_)
     refine w_op (a := .raw (.int .i64 0)) rfl rfl rfl rfl (by dsimp only [aput, List.set]) ?_
     refine w_block ?_
     refine w_loopF h [5, 6, 7, 8, 9, 12, 13, 14, 15, 16, 17, 18, 19, 20, 21, 22, 23, 24, 25, 26, 27, 28, 29, 30, 31, 32, 33, 34, 35, 36, 37, 38, 39, 40, 41, 42] (fun s2 => [(5, .raw (.int .i64 s2))]) (fun s2 => ⟨[(56, (Enc.cells (zeroA : Ar))), (56, (Enc.cells (s1.2 : Ar)))], [], [], 0, false⟩) ?_ ?_
     ·
      exact wm_of [true, true, true, true, true, true, false, false, false, false, true, true, false, false, false, false, false, false, false, false, false, false, false, false, false, false, false, false, false, false, false, false, false, false, false, false, false, false, false, false, false, false, false, true] (by kernel_rfl) (by kernel_rfl)
     ·
      intro s2 p2 h
      refine w_start (by dsimp only [setAll, topAll, List.foldl, List.set]) rfl ?_
      refine w_seq ?_
      refine w_seq (w_region ?_)
      refine w_op (a := .raw (.int .i64 s2)) rfl rfl rfl rfl (by dsimp only [aput, List.set]) ?_
      refine w_op (a := .raw (.int .i64 s1.1)) rfl rfl rfl rfl (by dsimp only [aput, List.set]) ?_
      refine w_op (a := .raw (.bool (decide (s2 ≤ s1.1)))) rfl rfl rfl rfl (by dsimp only [aput, List.set]) ?_
      refine bif_e h (fun hc2 h => ?_) (fun hc2 h => ?_)
      ·
       refine w_condT hc2 rfl ?_
       refine w_cutF h [6, 7, 12, 13, 14, 17, 18, 19, 20, 21, 22, 23, 24, 25, 26, 27, 28, 29, 30, 31, 32, 33, 34, 35, 36, 37, 38, 39, 40, 41, 42] (fun j3 => []) (fun j3 => ⟨[(56, (Enc.cells (zeroA : Ar))), (56, (Enc.cells (s1.2 : Ar)))], [], [], 0, false⟩) ?_ ?_
       ·
        intro or3 h hr3
        refine w_block ?_
        refine w_seq (w_region ?_)
        refine w_op (a := .raw (.bool true)) rfl rfl rfl rfl (by dsimp only [aput, List.set]) ?_
        refine w_cutF h [6, 7, 12, 13, 14, 17, 18, 19, 20, 21, 22, 23, 24, 25, 26, 27, 28, 29, 30, 31, 32, 33, 34, 35, 36, 37, 38] (fun j4 => [(6, .raw (.bool j4))]) (fun j4 => ⟨[(56, (Enc.cells (zeroA : Ar))), (56, (Enc.cells (s1.2 : Ar)))], [], [], 0, false⟩) ?_ ?_
        ·
         intro or4 h hr4
         refine w_seq (w_region ?_)
         refine w_op (a := .raw (.int .i64 0)) rfl rfl rfl rfl (by dsimp only [aput, List.set]) ?_
         refine w_block ?_
         refine w_loopF h [6, 7, 12, 13, 14, 17, 18, 19, 20, 21, 22, 23, 24, 25, 26, 27, 28, 29, 30, 31, 32, 33, 34, 35, 36, 37, 38] (fun s3 => [(6, .raw (.bool s3.1)), (7, .raw (.int .i64 s3.2))]) (fun s3 => ⟨[(56, (Enc.cells (zeroA : Ar))), (56, (Enc.cells (s1.2 : Ar)))], [], [], 0, false⟩) ?_ ?_
         ·
          exact wm_of [true, true, true, true, true, true, true, true, true, true, true, true, false, false, false, true, true, false, false, false, false, false, false, false, false, false, false, false, false, false, false, false, false, false, false, false, false, false, false, true, true, true, true, true] (by kernel_rfl) (by kernel_rfl)
         ·
          intro s3 p3 h
          refine w_start (by dsimp only [setAll, topAll, List.foldl, List.set]) rfl ?_
          refine w_seq ?_
          refine w_seq (w_region ?_)
          refine w_op (a := .raw (.int .i64 s3.2)) rfl rfl rfl rfl (by dsimp only [aput, List.set]) ?_
          refine w_op (a := .list (List.length (l : List Ar)) (Enc.cellsL (l : List Ar)) .none) rfl rfl rfl rfl (by dsimp only [aput, List.set]) ?_
          refine w_op (a := .raw (.int .i64 (List.length l : Int))) rfl rfl rfl rfl (by dsimp only [aput, List.set]) ?_
          refine w_op (a := .raw (.bool (decide (s3.2 < (List.length l : Int))))) rfl rfl rfl rfl (by dsimp only [aput, List.set]) ?_
          refine bif_e h (fun hc3 h => ?_) (fun hc3 h => ?_)
          ·
           refine w_condT hc3 rfl ?_
           refine w_cutF h [6, 17, 18, 19, 20, 23, 24, 25, 26, 27, 28, 29, 30, 31, 32, 33, 34, 35, 36, 37, 38] (fun j5 => [(6, .raw (.bool j5))]) (fun j5 => ⟨[(56, (Enc.cells (zeroA : Ar))), (56, (Enc.cells (s1.2 : Ar)))], [], [], 0, false⟩) ?_ ?_
           ·
            intro or5 h hr5
            refine w_block ?_
            refine w_draw (id := 12) 14 (by kernel_rfl) (by kernel_rfl) ?_
            refine h_op (a := .raw (.bool s3.1)) rfl rfl rfl rfl (by dsimp only [aput, List.set]) ?_
            refine bif_e h (fun hc4 h => ?_) (fun hc4 h => ?_)
            ·
             refine h_op (a := .raw (.bool true)) rfl rfl rfl (q_bool rfl hc4) (by dsimp only [aput, List.set]) ?_
             refine h_met rfl rfl ?_
             refine h_op (a := .list (List.length (l : List Ar)) (Enc.cellsL (l : List Ar)) .none) rfl rfl rfl rfl (by dsimp only [aput, List.set]) ?_
             refine h_met rfl rfl ?_
             refine h_op (a := .raw (.int .i64 s3.2)) rfl rfl rfl rfl (by dsimp only [aput, List.set]) ?_
             refine h_met rfl rfl ?_
             refine h_op (a := .raw (.int .i64 s1.1)) rfl rfl rfl rfl (by dsimp only [aput, List.set]) ?_
             refine h_met rfl rfl ?_
             obtain ⟨g1, h⟩ := chk_e h
             obtain ⟨x1, hx1, h⟩ := letE_e h
             refine h_op (a := .iptr (Enc.cells x1 ++ Enc.cellsL (List.drop (Int.toNat s3.2 + 1) l))) rfl rfl rfl (by rw [← hx1]; exact (q_idx (α := Ar) (l := l) g1 rfl rfl rfl rfl rfl)) (by dsimp only [aput, List.set]) ?_
             refine h_met rfl rfl ?_
             obtain ⟨g2, h⟩ := chk_e h
             refine h_op (a := .iptr (List.drop (Int.toNat s1.1 * 1) (Enc.cells x1 ++ Enc.cellsL (List.drop (Int.toNat s3.2 + 1) l)))) rfl rfl rfl (q_idxIA g2 rfl rfl rfl) (by dsimp only [aput, List.set]) ?_
             refine h_met rfl rfl ?_
             refine h_op (a := .raw (.int .i64 (rdA x1 s1.1))) rfl rfl rfl (q_loadIA x1 _ g2 rfl rfl) (by dsimp only [aput, List.set]) ?_
             refine h_met rfl rfl ?_
             refine h_op (a := .list (List.length (l : List Ar)) (Enc.cellsL (l : List Ar)) .none) rfl rfl rfl rfl (by dsimp only [aput, List.set]) ?_
             refine h_met rfl rfl ?_
             refine h_op (a := .raw (.int .i64 s3.2)) rfl rfl rfl rfl (by dsimp only [aput, List.set]) ?_
             refine h_met rfl rfl ?_
             refine h_op (a := .raw (.int .i64 s2)) rfl rfl rfl rfl (by dsimp only [aput, List.set]) ?_
             refine h_met rfl rfl ?_
             obtain ⟨g3, h⟩ := chk_e h
             obtain ⟨x2, hx2, h⟩ := letE_e h
             refine h_op (a := .iptr (Enc.cells x2 ++ Enc.cellsL (List.drop (Int.toNat s3.2 + 1) l))) rfl rfl rfl (by rw [← hx2]; exact (q_idx (α := Ar) (l := l) g3 rfl rfl rfl rfl rfl)) (by dsimp only [aput, List.set]) ?_
             refine h_met rfl rfl ?_
             obtain ⟨g4, h⟩ := chk_e h
             refine h_op (a := .iptr (List.drop (Int.toNat s2 * 1) (Enc.cells x2 ++ Enc.cellsL (List.drop (Int.toNat s3.2 + 1) l)))) rfl rfl rfl (q_idxIA g4 rfl rfl rfl) (by dsimp only [aput, List.set]) ?_
             refine h_met rfl rfl ?_
             refine h_op (a := .raw (.int .i64 (rdA x2 s2))) rfl rfl rfl (q_loadIA x2 _ g4 rfl rfl) (by dsimp only [aput, List.set]) ?_
             refine h_end ?_
             refine w_met rfl rfl ?_
             refine w_op (a := .raw (.bool ((rdA x1 s1.1) == (rdA x2 s2)))) rfl rfl rfl rfl (by dsimp only [aput, List.set]) ?_
             refine w_op (a := .raw (.bool ((rdA x1 s1.1) == (rdA x2 s2)))) rfl rfl rfl rfl (by dsimp only [aput, List.set]) ?_
             refine w_op (a := .raw (.bool ((rdA x1 s1.1) == (rdA x2 s2)))) rfl rfl rfl rfl (by dsimp only [aput, List.set]) ?_
             refine cut_done (o := or5) (((rdA x1 s1.1) == (rdA x2 s2))) h ?_
             exact wm_of [true, true, true, true, true, true, true, true, true, true, true, true, true, true, true, true, true, false, false, false, false, true, true, false, false, false, false, false, false, false, false, false, false, false, false, false, false, false, false, true, true, true, true, true] (by kernel_rfl) (by kernel_rfl)
            ·
             refine h_op (a := .raw (.bool false)) rfl rfl rfl (q_bool rfl hc4) (by dsimp only [aput, List.set]) ?_
             refine h_pass rfl rfl rfl (by decide) (by dsimp only [aput, List.set]) ?_
             refine h_pass rfl rfl rfl (by decide) (by dsimp only [aput, List.set]) ?_
             refine h_pass rfl rfl rfl (by decide) (by dsimp only [aput, List.set]) ?_
             refine h_pass rfl rfl rfl (by decide) (by dsimp only [aput, List.set]) ?_
             refine h_pass rfl rfl rfl (by decide) (by dsimp only [aput, List.set]) ?_
             refine h_pass rfl rfl rfl (by decide) (by dsimp only [aput, List.set]) ?_
             refine h_pass rfl rfl rfl (by decide) (by dsimp only [aput, List.set]) ?_
             refine h_pass rfl rfl rfl (by decide) (by dsimp only [aput, List.set]) ?_
             refine h_pass rfl rfl rfl (by decide) (by dsimp only [aput, List.set]) ?_
             refine h_pass rfl rfl rfl (by decide) (by dsimp only [aput, List.set]) ?_
             refine h_pass rfl rfl rfl (by decide) (by dsimp only [aput, List.set]) ?_
             refine h_pass rfl rfl rfl (by decide) (by dsimp only [aput, List.set]) ?_
             refine h_end ?_
             refine w_pass rfl rfl (by decide) (by dsimp only [aput, List.set]) ?_
             refine w_op (a := .raw (.bool false)) rfl rfl rfl rfl (by dsimp only [aput, List.set]) ?_
             refine w_op (a := .raw (.bool false)) rfl rfl rfl rfl (by dsimp only [aput, List.set]) ?_
             refine cut_done (o := or5) (false) h ?_
             exact wm_of [true, true, true, true, true, true, true, true, true, true, true, true, true, true, true, true, true, false, false, false, false, true, true, false, false, false, false, false, false, false, false, false, false, false, false, false, false, false, false, true, true, true, true, true] (by kernel_rfl) (by kernel_rfl)
           ·
            intro j5 h
            refine w_start (by dsimp only [setAll, topAll, List.foldl, List.set]) rfl ?_
            refine w_region (id := 11) ?_
            refine w_op (a := .raw (.int .i64 s3.2)) rfl rfl rfl rfl (by dsimp only [aput, List.set]) ?_
            obtain ⟨g5, h⟩ := chk_e h
            refine w_op (a := .raw (.int .i64 (s3.2 + 1))) rfl rfl rfl (op_q (q_add rfl rfl rfl rfl g5.1 g5.2)) (by dsimp only [aput, List.set]) ?_
            refine w_op (a := .raw (.int .i64 (s3.2 + 1))) rfl rfl rfl rfl (by dsimp only [aput, List.set]) ?_
            refine loop_next (p := p3) (j5, (s3.2 + 1)) h ?_
            exact wm_of [true, true, true, true, true, true, true, true, true, true, true, true, false, false, false, true, true, false, false, false, false, false, false, false, false, false, false, false, false, false, false, false, false, false, false, false, false, false, false, true, true, true, true, true] (by kernel_rfl) (by kernel_rfl)
          ·
           refine w_condF hc3 rfl ?_
           refine loop_exit h (fun h => ?_)
           refine cut_done (o := or4) (s3.1) h ?_
           exact wm_of [true, true, true, true, true, true, true, false, true, true, true, true, false, false, false, true, true, false, false, false, false, false, false, false, false, false, false, false, false, false, false, false, false, false, false, false, false, false, false, true, true, true, true, true] (by kernel_rfl) (by kernel_rfl)
        ·
         intro j4 h
         refine w_start (by dsimp only [setAll, topAll, List.foldl, List.set]) rfl ?_
         refine w_seq (w_region ?_)
         refine w_op (a := .raw (.bool j4)) rfl rfl rfl rfl (by dsimp only [aput, List.set]) ?_
         refine bif_e h (fun hc5 h => ?_) (fun hc5 h => ?_)
         ·
          refine w_condT hc5 rfl ?_
          refine w_seq (w_region ?_)
          refine w_op (a := .raw (.int .i64 s1.1)) rfl rfl rfl rfl (by dsimp only [aput, List.set]) ?_
          refine w_op (a := .raw (.int .i64 s2)) rfl rfl rfl rfl (by dsimp only [aput, List.set]) ?_
          obtain ⟨g6, h⟩ := chk_e h
          refine w_op (a := .ptr 1 (0 + Int.toNat s1.1 * 1)) rfl rfl rfl (op_q (q_idxA g6 rfl rfl rfl rfl rfl)) (by dsimp only [aput, List.set]) ?_
          refine w_opm (σ'' := ⟨[(56, (Enc.cells (zeroA : Ar))), (56, (Enc.cells ((wrA s1.2 s1.1 s2) : Ar)))], [], [], 0, false⟩) rfl rfl rfl (op_storeA s1.2 g6 rfl rfl rfl rfl) (by dsimp only [aput, List.set]) rfl ?_
          replace h := cut_inr h hr3
          refine loop_exit h (fun h => ?_)
          refine cut_done (o := or2) ((wrA s1.2 s1.1 s2)) h ?_
          exact wm_of [true, true, true, true, true, false, false, false, false, false, true, true, false, false, false, false, false, false, false, false, false, false, false, false, false, false, false, false, false, false, false, false, false, false, false, false, false, false, false, false, false, false, false, true] (by kernel_rfl) (by kernel_rfl)
         ·
          refine w_condF hc5 rfl ?_
          refine cut_done (o := or3) () h ?_
          exact wm_of [true, true, true, true, true, true, false, false, true, true, true, true, false, false, false, true, true, false, false, false, false, false, false, false, false, false, false, false, false, false, false, false, false, false, false, false, false, false, false, false, false, false, false, true] (by kernel_rfl) (by kernel_rfl)
       ·
        intro j3 h
        refine w_start (by dsimp only [setAll, topAll, List.foldl, List.set]) rfl ?_
        refine w_region (id := 7) ?_
        refine w_op (a := .raw (.int .i64 s2)) rfl rfl rfl rfl (by dsimp only [aput, List.set]) ?_
        obtain ⟨g7, h⟩ := chk_e h
        refine w_op (a := .raw (.int .i64 (s2 + 1))) rfl rfl rfl (op_q (q_add rfl rfl rfl rfl g7.1 g7.2)) (by dsimp only [aput, List.set]) ?_
        refine w_op (a := .raw (.int .i64 (s2 + 1))) rfl rfl rfl rfl (by dsimp only [aput, List.set]) ?_
        refine loop_next (p := p2) ((s2 + 1)) h ?_
        exact wm_of [true, true, true, true, true, true, false, false, false, false, true, true, false, false, false, false, false, false, false, false, false, false, false, false, false, false, false, false, false, false, false, false, false, false, false, false, false, false, false, false, false, false, false, true] (by kernel_rfl) (by kernel_rfl)
      ·
       refine w_condF hc2 rfl ?_
       refine loop_exit h (fun h => ?_)
       refine cut_done (o := or2) (s1.2) h ?_
       exact wm_of [true, true, true, true, true, false, false, false, false, false, true, true, false, false, false, false, false, false, false, false, false, false, false, false, false, false, false, false, false, false, false, false, false, false, false, false, false, false, false, false, false, false, false, true] (by kernel_rfl) (by kernel_rfl)
    ·
     intro j2 h
     refine w_start (by dsimp only [setAll, topAll, List.foldl, List.set]) rfl ?_
     refine w_region (id := 4) ?_
     refine w_op (a := .raw (.int .i64 s1.1)) rfl rfl rfl rfl (by dsimp only [aput, List.set]) ?_
     obtain ⟨g8, h⟩ := chk_e h
     refine w_op (a := .raw (.int .i64 (s1.1 + 1))) rfl rfl rfl (op_q (q_add rfl rfl rfl rfl g8.1 g8.2)) (by dsimp only [aput, List.set]) ?_
     refine w_op (a := .raw (.int .i64 (s1.1 + 1))) rfl rfl rfl rfl (by dsimp only [aput, List.set]) ?_
     refine loop_next (p := p1) ((s1.1 + 1), j2) h ?_
     exact wm_of [true, false, true, true, true, false, false, false, false, false, false, false, false, false, false, false, false, false, false, false, false, false, false, false, false, false, false, false, false, false, false, false, false, false, false, false, false, false, false, false, false, false, false, false] (by kernel_rfl) (by kernel_rfl)
   ·
    refine w_condF hc1 rfl ?_
    refine loop_exit h (fun h => ?_)
    refine cut_done (o := or1) (s1.2) h ?_
    exact wm_of [false, false, true, true, false, false, false, false, false, false, false, false, false, false, false, false, false, false, false, false, false, false, false, false, false, false, false, false, false, false, false, false, false, false, false, false, false, false, false, false, false, false, false, false] (by kernel_rfl) (by kernel_rfl)
 ·
  intro j1 h
  refine w_start (by dsimp only [setAll, topAll, List.foldl, List.set]) rfl ?_
  refine w_seq (w_region ?_)
  refine w_op (a := .agg (Enc.cells (j1 : Ar))) rfl rfl rfl (op_q (q_loadArr j1 (by decide) rfl rfl rfl)) (by dsimp only [aput, List.set]) ?_
  refine w_opm (σ'' := ⟨[(56, (Enc.cells (j1 : Ar))), (56, (Enc.cells (j1 : Ar)))], [], [], 0, false⟩) rfl rfl rfl (op_storeW (n := 256) rfl rfl rfl rfl rfl (Enc.len _) rfl (Enc.len _) (by decide)) (by dsimp only [aput, List.set]) rfl ?_
  exact end_pureF (fun (r : Ar) => (.agg (Enc.cells (r : Ar)) : AV)) h (a := .agg (Enc.cells (j1 : Ar))) rfl (okTrim_clo _ _ (clo_agg (Enc.clo _))) (strip_c (clo_agg (Enc.clo _)))
end Go.Ab
