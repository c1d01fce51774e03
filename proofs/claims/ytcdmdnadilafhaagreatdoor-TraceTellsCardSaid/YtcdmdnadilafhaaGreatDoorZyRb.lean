/-
  reparteeref02: what is said of one byte (the marks are always the quotation mark alone).
-/
import Derived.Test.YtcdmdnadilafhaaGreatDoorZyWa
import Derived.Test.YtcdmdnadilafhaaGreatDoorZyW7
import Derived.Test.YtcdmdnadilafhaaGreatDoorZyQc
set_option linter.unusedSimpArgs false
set_option linter.unusedVariables false
namespace Go.Ab
open Go Go.RowKit Go.Fwd Go.Proofs
def F_write (fuel : Nat) (t : Trc) : Option ((List UInt8) × Int) :=
  (bindE (F_check fuel t) (fun x1 => (bif (x1.2 != 0) then (some (([] : List UInt8), x1.2)) else (cutE (τ := (Bool × List UInt8)) (loopE (β := Int × (Bool × List UInt8)) (fun s1 => (bif (decide (s1.1 < (List.length t.l : Int))) then (chk (0 ≤ s1.1 ∧ s1.1 < (List.length t.l : Int)) (letE (ix t.l s1.1) (fun x2 => (bindE (F_line fuel x2) (fun x3 => (chk (List.length x3 + List.length ([10] : List UInt8) ≤ 9223372036854775807) (chk ((List.length s1.2.2 + List.length (x3 ++ ([10] : List UInt8))) * 1 ≤ 140737488355328) (chk (-9223372036854775808 ≤ (s1.1 + 1) ∧ (s1.1 + 1) < 9223372036854775808) (some (Sum.inl ((s1.1 + 1), (true, (s1.2.2 ++ (x3 ++ ([10] : List UInt8))))))))))))))) else (some (Sum.inr (Sum.inl ((s1.2.1, s1.2.2))))))) fuel (0, (false, ([] : List UInt8)))) (fun j1 => (bindE (F_endw t.e) (fun x4 => (chk (List.length x4 + List.length ([10] : List UInt8) ≤ 9223372036854775807) (chk ((List.length j1.2 + List.length (x4 ++ ([10] : List UInt8))) * 1 ≤ 140737488355328) (some ((j1.2 ++ (x4 ++ ([10] : List UInt8))), 0)))))))))))
theorem ent19 : Ent Tryz.prog 19 := enters_of Tryz.func19 (by kernel_rfl) rfl
set_option maxRecDepth 100000 in
set_option maxHeartbeats 4000000 in
theorem write_sh (fuel : Nat) (t : Trc) (r : ((List UInt8) × Int)) (h : F_write fuel t = some r) : Pure (ITP Tryz.prog) Tryz.prog 19 [.agg (Enc.cells (t : Trc))] (.tup [.raw (.string (bs r.1)), .raw (.int .i64 r.2)]) := by
 obtain ⟨d, hd⟩ : ∃ d, Tryz.f19.body = some d := ⟨_, rfl⟩
 refine pure_of mix Tryz.func19 hd ent19 ?_
 cases hd
 unfold F_write at h
 refine w_start (by dsimp only [abeginS, Tryz.f19, List.length_cons, List.length_nil, Nat.zero_add, Nat.reduceAdd, Nat.reduceSub, List.replicate, List.cons_append, List.nil_append]) (by dsimp only [St.empty]) ?_
 refine w_seq (w_region ?_)
 refine w_opm (a := .ptr 0 0) (σ'' := ⟨[(27, (Enc.cells (t : Trc)))], [], [], 0, false⟩) rfl rfl rfl rfl (by dsimp only [aput, List.set]) rfl ?_
 refine w_op (a := .raw (.string (bs ([] : List UInt8)))) rfl rfl rfl rfl (by dsimp only [aput, List.set]) ?_
 refine w_op (a := .raw (.int .i64 0)) rfl rfl rfl rfl (by dsimp only [aput, List.set]) ?_
 refine w_seq ?_
 refine w_seq (w_region ?_)
 refine w_op (a := .agg (Enc.cells (t : Trc))) rfl rfl rfl rfl (by dsimp only [aput, List.set]) ?_
 obtain ⟨x1, hx1, h⟩ := bindE_e h
 refine w_callc (args' := [.agg (Enc.cells (t : Trc))]) (r := .tup [.raw (.int .i64 x1.1), .raw (.int .i64 x1.2)]) (check_sh fuel t x1 hx1) rfl rfl (stripL_cons (strip_c (clo_agg (Enc.clo _))) rfl) (okTrimL_cons (okTrim_clo _ _ (clo_agg (Enc.clo _))) rfl) (by dsimp only [aput, List.set]) ?_
 refine w_op (a := .tup [.raw (.int .i64 x1.1), .raw (.int .i64 x1.2)]) rfl rfl rfl rfl (by dsimp only [aput, List.set]) ?_
 refine w_op (a := .raw (.int .i64 x1.1)) rfl rfl rfl rfl (by dsimp only [aput, List.set]) ?_
 refine w_op (a := .raw (.int .i64 x1.2)) rfl rfl rfl rfl (by dsimp only [aput, List.set]) ?_
 refine w_op (a := .raw (.int .i64 x1.1)) rfl rfl rfl rfl (by dsimp only [aput, List.set]) ?_
 refine w_op (a := .raw (.int .i64 x1.2)) rfl rfl rfl rfl (by dsimp only [aput, List.set]) ?_
 refine w_seq (w_region ?_)
 refine w_op (a := .raw (.int .i64 x1.2)) rfl rfl rfl rfl (by dsimp only [aput, List.set]) ?_
 refine w_op (a := .raw (.bool (x1.2 != 0))) rfl rfl rfl rfl (by dsimp only [aput, List.set]) ?_
 refine bif_e h (fun hc1 h => ?_) (fun hc1 h => ?_)
 ·
  refine w_condT hc1 rfl ?_
  refine w_seq (w_region ?_)
  refine w_op (a := .raw (.int .i64 x1.2)) rfl rfl rfl rfl (by dsimp only [aput, List.set]) ?_
  refine w_op (a := .raw (.string (bs ([] : List UInt8)))) rfl rfl rfl rfl (by dsimp only [aput, List.set]) ?_
  refine w_op (a := .raw (.int .i64 x1.2)) rfl rfl rfl rfl (by dsimp only [aput, List.set]) ?_
  exact end_pureF (fun (r : ((List UInt8) × Int)) => (.tup [.raw (.string (bs r.1)), .raw (.int .i64 r.2)] : AV)) h (a := .tup [.raw (.string (bs ([] : List UInt8))), .raw (.int .i64 x1.2)]) rfl (show okTrimL _ _ = true from (okTrimL_cons rfl (okTrimL_cons rfl rfl))) (show AV.tup (stripL _) = _ from congrArg AV.tup (stripL_cons rfl (stripL_cons rfl rfl)))
 ·
  refine w_condF hc1 rfl ?_
  refine w_seq (w_region ?_)
  refine w_opB (a := .ptr 1 0) (σ'' := (ownSt [(27, (Enc.cells (t : Trc))), (87, (bldC 1 false ([] : List UInt8)))] 5 (List.length (([] : List UInt8) : List UInt8)) 1)) rfl rfl rfl rfl (by dsimp only [aput, List.set]) rfl ?_
  refine w_cutF h [0, 2, 3, 4, 5, 7, 8, 9, 10, 11, 12, 13, 14, 15, 16, 17, 18, 19, 20, 21, 22, 23, 24, 25, 26, 27, 28, 29, 30, 31, 32, 33, 34] (fun j1 => []) (fun j1 => (ownSt [(27, (Enc.cells (t : Trc))), (87, (bldC 1 j1.1 j1.2))] 5 (List.length (j1.2 : List UInt8)) 1)) ?_ ?_
  ·
   intro or1 h hr1
   refine w_seq (w_region ?_)
   refine w_op (a := .ptr 0 0) rfl rfl rfl rfl (by dsimp only [aput, List.set]) ?_
   refine w_op (a := .list (List.length (t.l : List En)) (Enc.cellsL (t.l : List En)) .none) rfl rfl rfl rfl (by dsimp only [aput, List.set]) ?_
   refine w_op (a := .raw (.int .i64 (List.length t.l : Int))) rfl rfl rfl rfl (by dsimp only [aput, List.set]) ?_
   refine w_op (a := .raw (.int .i64 0)) rfl rfl rfl rfl (by dsimp only [aput, List.set]) ?_
   refine w_block ?_
   refine w_loopF h [0, 2, 3, 4, 5, 7, 8, 9, 10, 11, 12, 13, 14, 15, 16, 17, 20, 21, 22, 23, 24, 25, 26, 27, 28, 29, 30, 31, 32, 33, 34] (fun s1 => [(20, .raw (.int .i64 s1.1))]) (fun s1 => (ownSt [(27, (Enc.cells (t : Trc))), (87, (bldC 1 s1.2.1 s1.2.2))] 5 (List.length (s1.2.2 : List UInt8)) 1)) ?_ ?_
   ·
    exact wm_of [false, true, false, false, false, false, true, false, false, false, false, false, false, false, false, false, false, false, true, true, true, false, false, false, false, false, false, false, false, false, false, false, false, false, false] (by kernel_rfl) (by kernel_rfl)
   ·
    intro s1 p1 h
    refine w_start (by dsimp only [setAll, topAll, List.foldl, List.set]) rfl ?_
    refine w_seq (w_region ?_)
    refine w_op (a := .raw (.bool (decide (s1.1 < (List.length t.l : Int))))) rfl rfl rfl rfl (by dsimp only [aput, List.set]) ?_
    refine w_seq ?_
    refine bif_e h (fun hc2 h => ?_) (fun hc2 h => ?_)
    ·
     refine w_condT hc2 rfl ?_
     refine w_seq ?_
     refine w_block ?_
     refine w_seq (w_region ?_)
     obtain ⟨g1, h⟩ := chk_e h
     obtain ⟨x2, hx2, h⟩ := letE_e h
     refine w_op (a := .iptr (Enc.cells x2 ++ Enc.cellsL (List.drop (Int.toNat s1.1 + 1) t.l))) rfl rfl rfl (op_q (by rw [← hx2]; exact (q_idx (α := En) (l := t.l) g1 rfl rfl rfl rfl rfl))) (by dsimp only [aput, List.set]) ?_
     refine w_op (a := .agg (Enc.cells (x2 : En))) rfl rfl rfl rfl (by dsimp only [aput, List.set]) ?_
     refine w_opm (a := .ptr 2 0) (σ'' := (ownSt [(27, (Enc.cells (t : Trc))), (87, (bldC 1 s1.2.1 s1.2.2)), (41, (Enc.cells ((En.mk 0 0 0 []) : En)))] 5 (List.length (s1.2.2 : List UInt8)) 1)) rfl rfl rfl rfl (by dsimp only [aput, List.set]) rfl ?_
     refine w_opm (σ'' := (ownSt [(27, (Enc.cells (t : Trc))), (87, (bldC 1 s1.2.1 s1.2.2)), (41, (Enc.cells (x2 : En)))] 5 (List.length (s1.2.2 : List UInt8)) 1)) rfl rfl rfl (op_storeW (n := 4) rfl rfl rfl rfl rfl rfl rfl rfl (by decide)) (by dsimp only [aput, List.set]) rfl ?_
     refine w_region (k0 := 0) (id := 8) ?_
     refine w_op (a := .agg (Enc.cells (x2 : En))) rfl rfl rfl rfl (by dsimp only [aput, List.set]) ?_
     obtain ⟨x3, hx3, h⟩ := bindE_e h
     refine w_callc (args' := [.agg (Enc.cells (x2 : En))]) (r := .raw (.string (bs x3))) (line_sh fuel x2 x3 hx3) rfl rfl (stripL_cons (strip_c (clo_agg (Enc.clo _))) rfl) (okTrimL_cons (okTrim_clo _ _ (clo_agg (Enc.clo _))) rfl) (by dsimp only [aput, List.set]) ?_
     obtain ⟨g2, h⟩ := chk_e h
     refine w_op (a := .raw (.string (bs (x3 ++ ([10] : List UInt8))))) rfl rfl rfl (op_q (q_stradd g2 rfl rfl rfl)) (by dsimp only [aput, List.set]) ?_
     obtain ⟨g3, h⟩ := chk_e h
     refine w_snd (r := .tup [.raw (.int .i64 (List.length (x3 ++ ([10] : List UInt8)) : Int)), .raw .nilIface]) (σ' := (ownSt [(27, (Enc.cells (t : Trc))), (87, (bldC 1 true (s1.2.2 ++ (x3 ++ ([10] : List UInt8))))), (41, (Enc.cells (x2 : En)))] 5 (List.length ((s1.2.2 ++ (x3 ++ ([10] : List UInt8))) : List UInt8)) 1)) (bld_write (u := s1.2.1) (l := s1.2.2) (b := (x3 ++ ([10] : List UInt8))) g3 rfl) rfl rfl ⟨rfl, rfl⟩ (by dsimp only [aput, List.set]) ?_
     refine w_region (k0 := 0) (id := 9) ?_
     obtain ⟨g4, h⟩ := chk_e h
     refine w_op (a := .raw (.int .i64 (s1.1 + 1))) rfl rfl rfl (op_q (q_add rfl rfl rfl rfl g4.1 g4.2)) (by dsimp only [aput, List.set]) ?_
     refine w_op (a := .raw (.int .i64 (s1.1 + 1))) rfl rfl rfl rfl (by dsimp only [aput, List.set]) ?_
     refine loop_next (p := p1) ((s1.1 + 1), (true, (s1.2.2 ++ (x3 ++ ([10] : List UInt8))))) h ?_
     exact wm_trim [false, true, false, false, false, false, true, false, false, false, false, false, false, false, false, false, false, false, true, true, true, false, false, false, false, false, false, false, false, false, false, false, false, false, false] 2 (by kernel_rfl) (Nat.le_of_ble_eq_true rfl) (okSt_of (okB_cons (okTrimL_clo _ _ (Enc.clo _)) (okB_cons (okT_bld (by decide)) rfl))) (by dsimp only [setAll, topAll, List.foldl, List.set]; exact (okTrimL_cons rfl (okTrimL_cons (by decide) (okTrimL_cons rfl (okTrimL_cons rfl (okTrimL_cons rfl (okTrimL_cons rfl (okTrimL_cons (by decide) (okTrimL_cons rfl (okTrimL_cons rfl (okTrimL_cons rfl (okTrimL_cons rfl (okTrimL_cons rfl (okTrimL_cons rfl (okTrimL_cons rfl (okTrimL_cons rfl (okTrimL_cons rfl (okTrimL_cons rfl (okTrimL_cons rfl (okTrimL_cons (okTrim_l (Enc.cloL _)) (okTrimL_cons rfl (okTrimL_cons rfl (okTrimL_cons rfl (okTrimL_cons rfl (okTrimL_cons rfl (okTrimL_cons rfl (okTrimL_cons rfl (okTrimL_cons rfl (okTrimL_cons rfl (okTrimL_cons rfl (okTrimL_cons rfl (okTrimL_cons rfl (okTrimL_cons rfl (okTrimL_cons rfl (okTrimL_cons rfl (okTrimL_cons rfl rfl)))))))))))))))))))))))))))))))))))) (by kernel_rfl)
    ·
     refine w_condF hc2 rfl ?_
     refine loop_exit h (fun h => ?_)
     refine cut_done (o := or1) ((s1.2.1, s1.2.2)) h ?_
     exact wm_of [false, true, false, false, false, false, true, false, false, false, false, false, false, false, false, false, false, false, false, false, false, false, false, false, false, false, false, false, false, false, false, false, false, false, false] (by kernel_rfl) (by kernel_rfl)
  ·
   intro j1 h
   refine w_start (by dsimp only [setAll, topAll, List.foldl, List.set]) rfl ?_
   refine w_seq (w_region ?_)
   refine w_op (a := .ptr 0 1) rfl rfl rfl rfl (by dsimp only [aput, List.set]) ?_
   refine w_op (a := .agg (Enc.cells (t.e : Ed))) rfl rfl rfl rfl (by dsimp only [aput, List.set]) ?_
   obtain ⟨x4, hx4, h⟩ := bindE_e h
   refine w_callc (args' := [.agg (Enc.cells (t.e : Ed))]) (r := .raw (.string (bs x4))) (endw_sh t.e x4 hx4) rfl rfl (stripL_cons (strip_c (clo_agg (Enc.clo _))) rfl) (okTrimL_cons (okTrim_clo _ _ (clo_agg (Enc.clo _))) rfl) (by dsimp only [aput, List.set]) ?_
   obtain ⟨g5, h⟩ := chk_e h
   refine w_op (a := .raw (.string (bs (x4 ++ ([10] : List UInt8))))) rfl rfl rfl (op_q (q_stradd g5 rfl rfl rfl)) (by dsimp only [aput, List.set]) ?_
   obtain ⟨g6, h⟩ := chk_e h
   refine w_snd (r := .tup [.raw (.int .i64 (List.length (x4 ++ ([10] : List UInt8)) : Int)), .raw .nilIface]) (σ' := (ownSt [(27, (Enc.cells (t : Trc))), (87, (bldC 1 true (j1.2 ++ (x4 ++ ([10] : List UInt8)))))] 5 (List.length ((j1.2 ++ (x4 ++ ([10] : List UInt8))) : List UInt8)) 1)) (bld_write (u := j1.1) (l := j1.2) (b := (x4 ++ ([10] : List UInt8))) g6 rfl) rfl rfl ⟨rfl, rfl⟩ (by dsimp only [aput, List.set]) ?_
   refine w_seq (w_region ?_)
   refine w_snd (r := .raw (.string (bs (j1.2 ++ (x4 ++ ([10] : List UInt8)))))) (σ' := (ownSt [(27, (Enc.cells (t : Trc))), (87, (bldC 1 true (j1.2 ++ (x4 ++ ([10] : List UInt8)))))] 5 (List.length ((j1.2 ++ (x4 ++ ([10] : List UInt8))) : List UInt8)) 1)) (bld_string (u := true) (l := (j1.2 ++ (x4 ++ ([10] : List UInt8)))) rfl) rfl rfl ⟨rfl, rfl⟩ (by dsimp only [aput, List.set]) ?_
   refine w_op (a := .raw (.string (bs (j1.2 ++ (x4 ++ ([10] : List UInt8)))))) rfl rfl rfl rfl (by dsimp only [aput, List.set]) ?_
   refine w_op (a := .raw (.int .i64 0)) rfl rfl rfl rfl (by dsimp only [aput, List.set]) ?_
   exact end_pureF (fun (r : ((List UInt8) × Int)) => (.tup [.raw (.string (bs r.1)), .raw (.int .i64 r.2)] : AV)) h (a := .tup [.raw (.string (bs (j1.2 ++ (x4 ++ ([10] : List UInt8))))), .raw (.int .i64 0)]) rfl (show okTrimL _ _ = true from (okTrimL_cons rfl (okTrimL_cons rfl rfl))) (show AV.tup (stripL _) = _ from congrArg AV.tup (stripL_cons rfl (stripL_cons rfl rfl)))
def F_entry (fuel : Nat) (t : (List UInt8)) : Option (En × Bool) :=
  (chk (List.length t < 4294967281) (letE (Lib.cut t ([32] : List UInt8)) (fun x1 => (cutE (τ := En) (loopE (β := Int × En) (fun s1 => (bif (decide (s1.1 ≤ 3)) then (cutE (τ := En) (chk (1 ≤ s1.1 ∧ s1.1 ≤ 3) (bif ((kindAt s1.1).w == x1.1) then (some (Sum.inl ((En.mk s1.1 s1.2.fr s1.2.to s1.2.b)))) else (some (Sum.inl (s1.2))))) (fun j2 => (some (Sum.inl ((IntKind.u8.wrap (s1.1 + 1)), j2))))) else (some (Sum.inr (Sum.inl (s1.2)))))) fuel (1, (En.mk 0 0 0 []))) (fun j1 => (bif (j1.k == 0) then (some (j1, false)) else (bif (j1.k == 1) then (bindE (F_unquote fuel x1.2.1) (fun x2 => (bif (x2.2.2 == 0) then (bindE (F_line fuel (En.mk j1.k j1.fr j1.to x2.1)) (fun x3 => (some ((En.mk j1.k j1.fr j1.to x2.1), (x3 == t))))) else (some ((En.mk j1.k j1.fr j1.to x2.1), false))))) else (chk (List.length x1.2.1 < 4294967281) (letE (Lib.cut x1.2.1 ([32] : List UInt8)) (fun x4 => (chk (List.length x4.1 ≤ 281474976710656) (letE (atoiP x4.1) (fun x5 => (chk (List.length x4.2.1 ≤ 281474976710656) (letE (atoiP x4.2.1) (fun x6 => (bindE (F_line fuel (En.mk ((En.mk j1.k x5 j1.to j1.b).k) ((En.mk j1.k x5 j1.to j1.b).fr) x6 ((En.mk j1.k x5 j1.to j1.b).b))) (fun x7 => (some ((En.mk ((En.mk j1.k x5 j1.to j1.b).k) ((En.mk j1.k x5 j1.to j1.b).fr) x6 ((En.mk j1.k x5 j1.to j1.b).b)), (x7 == t)))))))))))))))))))))
end Go.Ab
set_option linter.unusedSimpArgs false
set_option linter.unusedVariables false
namespace Go.Ab
open Go Go.RowKit Go.Fwd
theorem byteCells_bs' (b : List UInt8) : (byteCells (bs b)).map AV.raw = Enc.cellsL b := by
  simp [byteCells, bs]
  rfl
theorem append_ownS {P : Program} {t tx e : TypeId} {i : TypeInfo} {z : Value} {bx : List (TypeId × List AV)} {a b : List UInt8} (hb : (a.length + b.length) * 1 ≤ 140737488355328) (hu : P.underlying t = some (.slice e)) (htx : P.underlying tx = some .string) (hi : P.info? e = some i) (hz : i.zero = some z) (hsz : i.size = 1) (hzs : z.cells.size = 1) (hby : i.bytes = 1) :
    aAppS P (ownSt bx e a.length 1) t tx (ownAV a.length (Enc.cellsL a)) (.raw (.string (bs b))) = some (ownAV (a ++ b).length (Enc.cellsL (a ++ b)), ownSt bx e (a ++ b).length 1) := by
  have hmax : 140737488355328 ≤ maxLen := by decide
  have hbs : (bs b).size = b.length := rfl
  have hbc := byteCells_bs' b
  have hca : (Enc.cellsL a).length = a.length := by rw [Enc.lenL]; exact Nat.mul_one _
  by_cases hb0 : b.length = 0
  · have := List.length_eq_zero_iff.1 hb0
    subst this
    rw [List.append_nil]
    unfold ownAV
    split <;> simp only [aAppS, hu, htx, hi, hz, hsz, hbs, List.length_nil, true_and, if_true]
  · have h1 : ¬ ((bs b).size = 0 ∧ i.size = 1) := fun h => hb0 (by rw [← hbs]; exact h.1)
    have hne : ¬ (a ++ b).length = 0 := by rw [List.length_append]; omega
    have hR : ownAV (a ++ b).length (Enc.cellsL (a ++ b)) = .list (a ++ b).length (Enc.cellsL (a ++ b)) (.own 0) := by unfold ownAV; rw [if_neg hne]
    rw [hR]
    by_cases ha : a.length = 0
    · have := List.length_eq_zero_iff.1 ha
      subst this
      have hc : ([] : List AV).length = 0 * i.size ∧ i.size = 1 ∧ 0 < (bs b).size ∧ z.cells.size = i.size ∧ 0 < i.size ∧ 0 + (bs b).size ≤ maxLen ∧ (0 + (bs b).size) * i.bytes ≤ 140737488355328 := by
        rw [hsz, hby, hbs]; exact ⟨rfl, rfl, by omega, hzs, by decide, by omega, by omega⟩
      have hA : ownAV ([] : List UInt8).length (Enc.cellsL ([] : List UInt8)) = .list 0 [] .full := rfl
      rw [hA]
      simp only [aAppS, hu, htx, hi, hz, if_neg h1, if_pos hc, hbc]
      simp [ownSt, hb0, hbs, hsz]
    · have hA : ownAV a.length (Enc.cellsL a) = .list a.length (Enc.cellsL a) (.own 0) := by unfold ownAV; rw [if_neg ha]
      have hc : (Enc.cellsL a).length = a.length * i.size ∧ i.size = 1 ∧ 0 < (bs b).size ∧ z.cells.size = i.size ∧ 0 < i.size ∧ a.length + (bs b).size ≤ maxLen ∧ (a.length + (bs b).size) * i.bytes ≤ 140737488355328 := by
        rw [hsz, hby, hbs]; exact ⟨by omega, rfl, by omega, hzs, by decide, by omega, by omega⟩
      have ho : (ownSt bx e a.length 1).lens[0]? = some (Enc.cellsL a).length ∧ (ownSt bx e a.length 1).elems[0]? = some e ∧ 0 < a.length := by
        simp [ownSt, ha, hca]; omega
      rw [hA]
      simp only [aAppS, hu, htx, hi, hz, if_neg h1, if_pos hc, if_pos ho, hbc]
      simp [ownSt, ha, hbs, hsz, Enc.app, hb0]
theorem op_appendS {P : Program} {ρ : Operand → AV} {σ σ' : St} {o : Oper} {c : Call} {x y : Operand} {t t' : TypeId} {a : AV} (ho : o.op = .call c) (hc : c.callee = .builtin .append) (ha : c.args.toList = [x, y]) (ht : c.argTypes.toList = [t, t']) (hne : ¬ t = t') (h : aAppS P σ t t' (ρ x) (ρ y) = some (a, σ')) : aop P ρ σ o = some (a, σ') := by
  simp [aop, qop, ho, hc, ha, ht, hne, h]
end Go.Ab
set_option linter.unusedSimpArgs false
set_option linter.unusedVariables false
namespace Go.Ab
open Go Go.RowKit Go.Fwd Go.Proofs
set_option maxRecDepth 100000
structure RSet where
  z : Bool
  deriving DecidableEq
def cellsRS : List AV := List.replicate 34 (.raw (.int .i64 0)) ++ .raw (.int .i64 1) :: List.replicate 221 (.raw (.int .i64 0))
def cellsR (s : RSet) : List AV := bif s.z then List.replicate 256 (.raw (.int .i64 0)) else cellsRS
instance : Enc RSet where
  inh := ⟨true⟩
  cells := cellsR
  cellsL l := l.flatMap cellsR
  sz := 256
  pos := by decide
  nil := rfl
  cons _ _ := rfl
  len a := by cases a with | mk z => cases z <;> rfl
  clo a := by cases a with | mk z => cases z <;> rfl
set_option maxRecDepth 100000 in
theorem rof_pure : Pure (ITP Tryz.prog) Tryz.prog 77 [.list 1 [.raw (.int .u8 34)] .none] (.agg cellsRS) := run1_ok (by kernel_rfl)
section
variable {ρ : Operand → AV} {σ : St} {o : Oper}
set_option maxRecDepth 100000 in
theorem sizeRS : sizeT Tryz.prog 128 = some 256 := by kernel_rfl
theorem undRS : ∃ e, Tryz.prog.underlying 128 = some (.array 256 e) := ⟨3, by kernel_rfl⟩
theorem rd_arr {P : Program} {t : TypeId} {cs : List AV} {n k : Nat} {e : TypeId} (hu : P.underlying t = some (.array k e)) (hs : sizeT P t = some n) (hl : cs.length = n) : rd P t cs = some (.agg cs) := by
  unfold sizeT at hs
  cases hi : P.info? t with
  | none => simp [hi] at hs
  | some i =>
    simp only [hi, Option.map_some, Option.some.injEq] at hs
    subst hs
    simp only [rd, hu, hi, hl, Nat.le_refl, if_true, List.take_of_length_le]
def rdA (a : RSet) (i : Int) : Int := bif a.z then 0 else bif i == 34 then 1 else 0
theorem sizeI3 : sizeT Tryz.prog 3 = some 1 := by kernel_rfl
theorem undI3 : Tryz.prog.underlying 3 = some (.int .i64) := by kernel_rfl
theorem rd_int {P : Program} {t : TypeId} {k : IntKind} {cs : List AV} {n : Nat} (hu : P.underlying t = some (.int k)) (hs : sizeT P t = some n) : rd P t cs = cs.head? := by
  unfold sizeT at hs
  cases hi : P.info? t with
  | none => simp [hi] at hs
  | some i => simp [rd, hu, hi]
theorem cellsR_get (a : RSet) (i : Nat) (h : i < 256) : (cellsR a)[i]? = some (.raw (.int .i64 (rdA a i))) := by
  obtain ⟨z⟩ := a
  cases z with
  | true =>
    show (List.replicate 256 (AV.raw (.int .i64 0)))[i]? = _
    rw [List.getElem?_replicate, if_pos h]; rfl
  | false =>
    show cellsRS[i]? = some (.raw (.int .i64 (bif ((i : Int) == 34) then 1 else 0)))
    unfold cellsRS
    rcases Nat.lt_trichotomy i 34 with h1 | h1 | h1
    · rw [List.getElem?_append_left (by simpa using h1), List.getElem?_replicate, if_pos h1]
      have : ((i : Int) == 34) = false := beq_eq_false_iff_ne.2 (by omega)
      rw [this]; rfl
    · subst h1; rfl
    · rw [List.getElem?_append_right (by simp; omega), List.length_replicate]
      obtain ⟨j, hj⟩ : ∃ j, i - 34 = j + 1 := ⟨i - 35, by omega⟩
      rw [hj, List.getElem?_cons_succ, List.getElem?_replicate, if_pos (by omega)]
      have : ((i : Int) == 34) = false := beq_eq_false_iff_ne.2 (by omega)
      rw [this]; rfl
theorem q_loadA {x : Operand} {b : Nat} {tt : TypeId} {i : Int} (a : RSet) (h : 0 ≤ i ∧ i < 256) (ho : o.op = .load 3 x) (hx : ρ x = .ptr b (0 + i.toNat * 1)) (hb : σ.boxes[b]? = some (tt, Enc.cells a)) : qop Tryz.prog ρ σ o = some (.raw (.int .i64 (rdA a i))) := by
  have key : ((Enc.cells a).drop (i.toNat)).head? = some (.raw (.int .i64 (rdA a i))) := by
    rw [List.head?_drop]
    have := cellsR_get a i.toNat (by omega)
    rw [show ((i.toNat : Nat) : Int) = i by omega] at this
    exact this
  simp only [qop, ho, aLoad, hx, hb, Nat.zero_add, Nat.mul_one, rd_int undI3 sizeI3, key]
theorem q_loadArr {t : TypeId} {x : Operand} {b : Nat} {tt : TypeId} (a : RSet) (ht : t = 128) (ho : o.op = .load t x) (hx : ρ x = .ptr b 0) (hb : σ.boxes[b]? = some (tt, Enc.cells a)) : qop Tryz.prog ρ σ o = some (.agg (Enc.cells a)) := by
  subst ht
  obtain ⟨e, he⟩ := undRS
  have key : rd Tryz.prog 128 ((Enc.cells a).drop 0) = some (.agg (Enc.cells a)) := by
    rw [List.drop_zero]
    exact rd_arr he sizeRS (Enc.len a)
  simp only [qop, ho, aLoad, hx, hb, key]
end
end Go.Ab

