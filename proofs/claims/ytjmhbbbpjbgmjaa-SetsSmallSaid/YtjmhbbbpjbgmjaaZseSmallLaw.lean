/-
  The law SetsSmall of the given program returns true. No condition.
-/
import Derived.Test.YtjmhbbbpjbgmjaaZseTr
import Derived.Test.YtjmhbbbpjbgmjaaZseTm
import Derived.Test.YtjmhbbbpjbgmjaaZseFr
set_option linter.unusedSimpArgs false
set_option linter.unusedVariables false
namespace Go.Ab
open Go Go.RowKit Go.Fwd Go.Proofs Go.Proofs.Ytjmhbbbpjbgmjaa
theorem k_tells (a b : BS) (c d : Int) (h : (0 ≤ c ∧ c < 256) ∧ 0 ≤ d ∧ d < 256) : Pure (ITP Try.prog) Try.prog 15 [.agg (Enc.cells a), .agg (Enc.cells b), .raw (.int .u8 c), .raw (.int .u8 d)] (.raw (.bool true)) := tells_sh 400 a b c d true (tells_eq 400 (by omega) a b c d h.1 h.2)
def F_setstells (a : BS) (b : BS) (c : Int) (d : Int) : Option Bool :=
  (chk ((0 ≤ c ∧ c < 256) ∧ 0 ≤ d ∧ d < 256) (some true))
theorem ent4 : Ent Try.prog 4 := enters_of Try.func4 (by kernel_rfl) rfl
set_option maxRecDepth 100000 in
set_option maxHeartbeats 4000000 in
theorem setstells_sh (a : BS) (b : BS) (c : Int) (d : Int) (r : Bool) (h : F_setstells a b c d = some r) : Pure (ITP Try.prog) Try.prog 4 [.agg (Enc.cells (a : BS)), .agg (Enc.cells (b : BS)), .raw (.int .u8 c), .raw (.int .u8 d)] (.raw (.bool r)) := by
 obtain ⟨d, hd⟩ : ∃ d, Try.f4.body = some d := ⟨_, rfl⟩
 refine pure_of mix Try.func4 hd ent4 ?_
 cases hd
 unfold F_setstells at h
 refine w_start (by dsimp only [abeginS, Try.f4, List.length_cons, List.length_nil, Nat.zero_add, Nat.reduceAdd, Nat.reduceSub, List.replicate, List.cons_append, List.nil_append]) (by dsimp only [St.empty]) ?_
 refine w_seq (w_region ?_)
 refine w_opm (a := .ptr 0 0) (σ'' := ⟨[(24, (Enc.cells (a : BS)))], [], [], 0, false⟩) rfl rfl rfl rfl (by dsimp only [aput, List.set]) rfl ?_
 refine w_opm (a := .ptr 1 0) (σ'' := ⟨[(24, (Enc.cells (a : BS))), (24, (Enc.cells (b : BS)))], [], [], 0, false⟩) rfl rfl rfl rfl (by dsimp only [aput, List.set]) rfl ?_
 refine w_op (a := .raw (.bool false)) rfl rfl rfl rfl (by dsimp only [aput, List.set]) ?_
 refine w_seq (w_region ?_)
 refine w_op (a := .agg (Enc.cells (a : BS))) rfl rfl rfl rfl (by dsimp only [aput, List.set]) ?_
 refine w_op (a := .agg (Enc.cells (b : BS))) rfl rfl rfl rfl (by dsimp only [aput, List.set]) ?_
 refine w_op (a := .raw (.int .u8 c)) rfl rfl rfl rfl (by dsimp only [aput, List.set]) ?_
 refine w_op (a := .raw (.int .u8 d)) rfl rfl rfl rfl (by dsimp only [aput, List.set]) ?_
 obtain ⟨g1, h⟩ := chk_e h
 refine w_callc (args' := [.agg (Enc.cells (a : BS)), .agg (Enc.cells (b : BS)), .raw (.int .u8 c), .raw (.int .u8 d)]) (r := .raw (.bool true)) (k_tells a b c d g1) rfl rfl (stripL_cons (strip_c (clo_agg (Enc.clo _))) (stripL_cons (strip_c (clo_agg (Enc.clo _))) (stripL_cons rfl (stripL_cons rfl rfl)))) (okTrimL_cons (okTrim_clo _ _ (clo_agg (Enc.clo _))) (okTrimL_cons (okTrim_clo _ _ (clo_agg (Enc.clo _))) (okTrimL_cons rfl (okTrimL_cons rfl rfl)))) (by dsimp only [aput, List.set]) ?_
 refine w_op (a := .raw (.bool true)) rfl rfl rfl rfl (by dsimp only [aput, List.set]) ?_
 refine w_met rfl rfl ?_
 refine w_callc (args' := []) (r := .raw (.bool true)) k_awake rfl rfl rfl rfl (by dsimp only [aput, List.set]) ?_
 refine w_op (a := .raw (.bool true)) rfl rfl rfl rfl (by dsimp only [aput, List.set]) ?_
 refine w_op (a := .raw (.bool true)) rfl rfl rfl rfl (by dsimp only [aput, List.set]) ?_
 exact end_pureF (fun (r : Bool) => (.raw (.bool r) : AV)) h (a := .raw (.bool true)) rfl rfl rfl
theorem setstells_pure (a b : BS) (c d : Int) (h : (0 ≤ c ∧ c < 256) ∧ 0 ≤ d ∧ d < 256) : Pure (ITP Try.prog) Try.prog 4 [.agg (Enc.cells a), .agg (Enc.cells b), .raw (.int .u8 c), .raw (.int .u8 d)] (.raw (.bool true)) := setstells_sh a b c d true (by
  unfold F_setstells
  exact chk_i h rfl)
end Go.Ab
set_option linter.unusedSimpArgs false
set_option linter.unusedVariables false
namespace Go.Ab
open Go Go.RowKit Go.Fwd Go.Proofs Go.Proofs.Ytjmhbbbpjbgmjaa
theorem k_lists (spans : List Sp) (l : List BS) : Pure (ITP Try.prog) Try.prog 25 [.list (List.length spans) (Enc.cellsL spans) .none, .list (List.length l) (Enc.cellsL l) .none] (.raw (.bool true)) := lists_sh 401 spans l true (lists_eq 401 (by omega) spans l)
def F_setslists (spans : (List Sp)) (l : (List BS)) : Option Bool :=
  (some true)
theorem ent7 : Ent Try.prog 7 := enters_of Try.func7 (by kernel_rfl) rfl
set_option maxRecDepth 100000 in
set_option maxHeartbeats 4000000 in
theorem setslists_sh (spans : (List Sp)) (l : (List BS)) (r : Bool) (h : F_setslists spans l = some r) : Pure (ITP Try.prog) Try.prog 7 [.list (List.length (spans : List Sp)) (Enc.cellsL (spans : List Sp)) .none, .list (List.length (l : List BS)) (Enc.cellsL (l : List BS)) .none] (.raw (.bool r)) := by
 obtain ⟨d, hd⟩ : ∃ d, Try.f7.body = some d := ⟨_, rfl⟩
 refine pure_of mix Try.func7 hd ent7 ?_
 cases hd
 unfold F_setslists at h
 refine w_start (by dsimp only [abeginS, Try.f7, List.length_cons, List.length_nil, Nat.zero_add, Nat.reduceAdd, Nat.reduceSub, List.replicate, List.cons_append, List.nil_append]) (by dsimp only [St.empty]) ?_
 refine w_seq (w_region ?_)
 refine w_op (a := .raw (.bool false)) rfl rfl rfl rfl (by dsimp only [aput, List.set]) ?_
 refine w_seq (w_region ?_)
 refine w_op (a := .list (List.length (spans : List Sp)) (Enc.cellsL (spans : List Sp)) .none) rfl rfl rfl rfl (by dsimp only [aput, List.set]) ?_
 refine w_op (a := .list (List.length (l : List BS)) (Enc.cellsL (l : List BS)) .none) rfl rfl rfl rfl (by dsimp only [aput, List.set]) ?_
 refine w_callc (args' := [.list (List.length (spans : List Sp)) (Enc.cellsL (spans : List Sp)) .none, .list (List.length (l : List BS)) (Enc.cellsL (l : List BS)) .none]) (r := .raw (.bool true)) (k_lists spans l) rfl rfl (stripL_cons (strip_l (Enc.cloL _)) (stripL_cons (strip_l (Enc.cloL _)) rfl)) (okTrimL_cons (okTrim_l (Enc.cloL _)) (okTrimL_cons (okTrim_l (Enc.cloL _)) rfl)) (by dsimp only [aput, List.set]) ?_
 refine w_op (a := .raw (.bool true)) rfl rfl rfl rfl (by dsimp only [aput, List.set]) ?_
 refine w_met rfl rfl ?_
 refine w_callc (args' := []) (r := .raw (.bool true)) k_awake rfl rfl rfl rfl (by dsimp only [aput, List.set]) ?_
 refine w_op (a := .raw (.bool true)) rfl rfl rfl rfl (by dsimp only [aput, List.set]) ?_
 refine w_op (a := .raw (.bool true)) rfl rfl rfl rfl (by dsimp only [aput, List.set]) ?_
 exact end_pureF (fun (r : Bool) => (.raw (.bool r) : AV)) h (a := .raw (.bool true)) rfl rfl rfl
theorem setslists_pure (spans : List Sp) (l : List BS) : Pure (ITP Try.prog) Try.prog 7 [.list (List.length spans) (Enc.cellsL spans) .none, .list (List.length l) (Enc.cellsL l) .none] (.raw (.bool true)) := setslists_sh spans l true rfl
end Go.Ab
set_option linter.unusedSimpArgs false
set_option linter.unusedVariables false
namespace Go.Ab
open Go Go.RowKit Go.Fwd Go.Proofs Go.Proofs.Ytjmhbbbpjbgmjaa
theorem u8_bld {P : Program} {ρ : Operand → AV} {σ : St} {o : Oper} {cs ds : List AV} (h : qop P ρ σ o = some (.agg cs)) (e : cs = ds) : qop P ρ σ o = some (.agg ds) := e ▸ h
def F_setssmall (fuel : Nat)  : Option Bool :=
  (cutE (τ := Unit) (loopE (β := Int) (fun s1 => (bif (decide (s1 < 256)) then (chk (0 ≤ (IntKind.u8.wrap s1) ∧ (IntKind.u8.wrap s1) < 256) (chk (0 < (([(u8of (IntKind.u8.wrap s1))] : List UInt8) : List UInt8).length ∧ (([(u8of (IntKind.u8.wrap s1))] : List UInt8) : List UInt8).length ≤ 1099511627776) (letE (ofS ((([(u8of (IntKind.u8.wrap s1))] : List UInt8) : List UInt8).map UInt8.toNat)) (fun x1 => (chk ((0 ≤ (IntKind.u8.wrap s1) ∧ (IntKind.u8.wrap s1) < 256) ∧ 0 ≤ (255 : Int) ∧ (255 : Int) < 256) (letE (rangeS (Int.toNat (IntKind.u8.wrap s1)) (Int.toNat (255 : Int))) (fun x2 => (chk (-9223372036854775808 ≤ (255 - s1) ∧ (255 - s1) < 9223372036854775808) (chk ((0 ≤ (IntKind.u8.wrap s1) ∧ (IntKind.u8.wrap s1) < 256) ∧ 0 ≤ (IntKind.u8.wrap (255 - s1)) ∧ (IntKind.u8.wrap (255 - s1)) < 256) (chk ((0 ≤ (0 : Int) ∧ (0 : Int) < 256) ∧ 0 ≤ (IntKind.u8.wrap s1) ∧ (IntKind.u8.wrap s1) < 256) (letE (rangeS (Int.toNat (0 : Int)) (Int.toNat (IntKind.u8.wrap s1))) (fun x3 => (letE (~~~x1) (fun x4 => (chk ((0 ≤ (IntKind.u8.wrap s1) ∧ (IntKind.u8.wrap s1) < 256) ∧ 0 ≤ (63 : Int) ∧ (63 : Int) < 256) (chk (0 ≤ (IntKind.u8.wrap s1) ∧ (IntKind.u8.wrap s1) < 256) (chk (0 ≤ (IntKind.u8.wrap s1) ∧ (IntKind.u8.wrap s1) < 256) (chk ((0 ≤ (IntKind.u8.wrap s1) ∧ (IntKind.u8.wrap s1) < 256) ∧ 0 ≤ (200 : Int) ∧ (200 : Int) < 256) (letE (rangeS (Int.toNat (IntKind.u8.wrap s1)) (Int.toNat (200 : Int))) (fun x5 => (chk (-9223372036854775808 ≤ (s1 + 1) ∧ (s1 + 1) < 9223372036854775808) (some (Sum.inl ((s1 + 1))))))))))))))))))))))))) else (some (Sum.inr (Sum.inl ()))))) fuel (0)) (fun j1 => (cutE (τ := Unit) (loopE (β := Int) (fun s2 => (bif (decide (s2 < 256)) then (cutE (τ := Unit) (cutE (τ := BS × BS) (loopE (β := Int × BS × BS) (fun s3 => (bif (decide (s3.1 < (List.length ([0, 63, 64, 255] : List UInt8) : Int))) then (cutE (τ := BS × BS) (chk (0 ≤ s3.1 ∧ s3.1 < (List.length ([0, 63, 64, 255] : List UInt8) : Int)) (letE (ix ([0, 63, 64, 255] : List UInt8) s3.1) (fun x6 => (cutE (τ := BS) (chk (0 ≤ s3.1) (bif ((andI .i64 (shrI .i64 s2 s3.1) 1) == 1) then (chk (0 ≤ (((x6).toNat : Nat) : Int) ∧ (((x6).toNat : Nat) : Int) < 256) (chk (0 < (([(u8of (((x6).toNat : Nat) : Int))] : List UInt8) : List UInt8).length ∧ (([(u8of (((x6).toNat : Nat) : Int))] : List UInt8) : List UInt8).length ≤ 1099511627776) (letE (ofS ((([(u8of (((x6).toNat : Nat) : Int))] : List UInt8) : List UInt8).map UInt8.toNat)) (fun x7 => (letE (s3.2.1 ||| x7) (fun x8 => (some (Sum.inl (x8))))))))) else (some (Sum.inl (s3.2.1))))) (fun j6 => (chk (-9223372036854775808 ≤ (4 + s3.1) ∧ (4 + s3.1) < 9223372036854775808) (chk (0 ≤ (4 + s3.1)) (bif ((andI .i64 (shrI .i64 s2 (4 + s3.1)) 1) == 1) then (chk (0 ≤ (((x6).toNat : Nat) : Int) ∧ (((x6).toNat : Nat) : Int) < 256) (chk (0 < (([(u8of (((x6).toNat : Nat) : Int))] : List UInt8) : List UInt8).length ∧ (([(u8of (((x6).toNat : Nat) : Int))] : List UInt8) : List UInt8).length ≤ 1099511627776) (letE (ofS ((([(u8of (((x6).toNat : Nat) : Int))] : List UInt8) : List UInt8).map UInt8.toNat)) (fun x9 => (letE (s3.2.2 ||| x9) (fun x10 => (some (Sum.inl (j6, x10))))))))) else (some (Sum.inl (j6, s3.2.2))))))))))) (fun j5 => (chk (-9223372036854775808 ≤ (s3.1 + 1) ∧ (s3.1 + 1) < 9223372036854775808) (some (Sum.inl ((s3.1 + 1), j5.1, j5.2)))))) else (some (Sum.inr (Sum.inl (s3.2.1, s3.2.2)))))) fuel (0, 0#256, 0#256)) (fun j4 => (chk (0 ≤ (Int.tmod s2 4) ∧ (Int.tmod s2 4) < (List.length ([0, 63, 64, 255] : List UInt8) : Int)) (letE (ix ([0, 63, 64, 255] : List UInt8) (Int.tmod s2 4)) (fun x11 => (chk (0 ≤ (Int.tmod (IntKind.i64.wrap (Int.tdiv s2 4)) 4) ∧ (Int.tmod (IntKind.i64.wrap (Int.tdiv s2 4)) 4) < (List.length ([0, 63, 64, 255] : List UInt8) : Int)) (letE (ix ([0, 63, 64, 255] : List UInt8) (Int.tmod (IntKind.i64.wrap (Int.tdiv s2 4)) 4)) (fun x12 => (chk ((0 ≤ (((x11).toNat : Nat) : Int) ∧ (((x11).toNat : Nat) : Int) < 256) ∧ 0 ≤ (((x12).toNat : Nat) : Int) ∧ (((x12).toNat : Nat) : Int) < 256) (letE (~~~j4.1) (fun x13 => (chk (0 ≤ (Int.tmod s2 4) ∧ (Int.tmod s2 4) < (List.length ([0, 63, 64, 255] : List UInt8) : Int)) (letE (ix ([0, 63, 64, 255] : List UInt8) (Int.tmod s2 4)) (fun x14 => (chk ((0 ≤ (((x14).toNat : Nat) : Int) ∧ (((x14).toNat : Nat) : Int) < 256) ∧ 0 ≤ (127 : Int) ∧ (127 : Int) < 256) (letE (~~~j4.1) (fun x15 => (some (Sum.inl ()))))))))))))))))))) (fun j3 => (chk (-9223372036854775808 ≤ (s2 + 1) ∧ (s2 + 1) < 9223372036854775808) (some (Sum.inl ((s2 + 1))))))) else (some (Sum.inr (Sum.inl ()))))) fuel (0)) (fun j2 => (letE (BitVec.allOnes 256) (fun x16 => (chk ((0 ≤ (0 : Int) ∧ (0 : Int) < 256) ∧ 0 ≤ (255 : Int) ∧ (255 : Int) < 256) (letE (BitVec.allOnes 256) (fun x17 => (chk ((0 ≤ (255 : Int) ∧ (255 : Int) < 256) ∧ 0 ≤ (0 : Int) ∧ (0 : Int) < 256) (letE (BitVec.allOnes 256) (fun x18 => (some true)))))))))))))
theorem ent9 : Ent Try.prog 9 := enters_of Try.func9 (by kernel_rfl) rfl
set_option maxRecDepth 100000 in
set_option maxHeartbeats 4000000 in
theorem setssmall_sh (fuel : Nat)  (r : Bool) (h : F_setssmall fuel  = some r) : Pure (ITP Try.prog) Try.prog 9 [] (.raw (.bool r)) := by
 obtain ⟨d, hd⟩ : ∃ d, Try.f9.body = some d := ⟨_, rfl⟩
 refine pure_of mix Try.func9 hd ent9 ?_
 cases hd
 unfold F_setssmall at h
 refine w_start (by dsimp only [abeginS, Try.f9, List.length_cons, List.length_nil, Nat.zero_add, Nat.reduceAdd, Nat.reduceSub, List.replicate, List.cons_append, List.nil_append]) (by dsimp only [St.empty]) ?_
 refine w_seq (w_region ?_)
 refine w_op (a := .raw (.bool false)) rfl rfl rfl rfl (by dsimp only [aput, List.set]) ?_
 refine w_cutF h [0, 1, 2, 3, 4, 5, 6, 7, 8, 9, 10, 11, 12, 13, 14, 15, 16, 17, 18, 19, 20, 21, 22, 23, 24, 25, 26, 27, 28, 29, 30, 31, 32, 33, 34, 35, 36, 37, 38, 39, 40, 41, 42, 43, 44, 45, 46, 47, 48, 49, 50, 51, 52, 53, 54, 55, 56, 57, 58, 59, 60, 61, 62, 63, 64, 65, 66, 67, 68, 69, 70, 71, 72, 73, 74, 75, 76, 77, 78, 79, 80, 81, 82, 83, 84, 85, 86, 87, 88, 89, 90, 91, 92, 93, 94, 95, 96, 97, 98, 99, 100, 101, 102, 103, 104, 105, 106, 107, 108, 109, 110, 111, 112, 113, 114, 115, 116, 117, 118, 119, 120, 121, 122, 123, 124, 125, 126, 127, 128, 129, 130, 131, 132, 133, 134, 135, 136, 137, 138, 139, 140, 141, 142, 143, 144, 145, 146] (fun j1 => []) (fun j1 => ⟨[], [], [], 0, false⟩) ?_ ?_
 ·
  intro or1 h hr1
  refine w_seq (w_region ?_)
  refine w_op (a := .raw (.int .i64 0)) rfl rfl rfl rfl (by dsimp only [aput, List.set]) ?_
  refine w_block ?_
  refine w_loopF h [0, 1, 2, 3, 4, 5, 6, 7, 8, 9, 10, 11, 12, 13, 14, 15, 16, 17, 18, 19, 20, 21, 22, 23, 24, 25, 26, 27, 28, 29, 30, 31, 32, 33, 34, 35, 36, 37, 38, 39, 40, 41, 42, 43, 44, 45, 46, 47, 48, 49, 50, 51, 52, 53, 54, 55, 56, 57, 58, 59, 60, 61, 62, 63, 64, 65, 66, 67, 68, 69, 70, 71, 72, 73, 74, 75, 76, 77, 78, 79, 80, 81, 82, 83, 84, 85, 86, 87, 88, 89, 90, 91, 92, 93, 94, 95, 96, 97, 98, 99, 100, 101, 102, 103, 104, 105, 106, 107, 108, 109, 110, 111, 112, 113, 114, 115, 116, 117, 118, 119, 120, 121, 122, 123, 124, 125, 126, 127, 128, 129, 130, 131, 132, 133, 134, 135, 136, 137, 138, 139, 140, 141, 142, 143, 144, 145, 146] (fun s1 => [(9, .raw (.int .i64 s1))]) (fun s1 => ⟨[], [], [], 0, false⟩) ?_ ?_
  ·
   exact wm_of [false, false, false, false, false, false, false, false, false, true, false, false, false, false, false, false, false, false, false, false, false, false, false, false, false, false, false, false, false, false, false, false, false, false, false, false, false, false, false, false, false, false, false, false, false, false, false, false, false, false, false, false, false, false, false, false, false, false, false, false, false, false, false, false, false, false, false, false, false, false, false, false, false, false, false, false, false, false, false, false, false, false, false, false, false, false, false, false, false, false, false, false, false, false, false, false, false, false, false, false, false, false, false, false, false, false, false, false, false, false, false, false, false, false, false, false, false, false, false, false, false, false, false, false, false, false, false, false, false, false, false, false, false, false, false, false, false, false, false, false, false, false, false, false, false, false, false] (by kernel_rfl) (by kernel_rfl)
  ·
   intro s1 p1 h
   refine w_start (by dsimp only [setAll, topAll, List.foldl, List.set]) rfl ?_
   refine w_seq (w_region ?_)
   refine w_op (a := .raw (.bool (decide (s1 < 256)))) rfl rfl rfl rfl (by dsimp only [aput, List.set]) ?_
   refine w_seq ?_
   refine bif_e h (fun hc1 h => ?_) (fun hc1 h => ?_)
   ·
    refine w_condT hc1 rfl ?_
    refine w_seq ?_
    refine w_block ?_
    refine w_seq (w_region ?_)
    refine w_op (a := .raw (.int .i64 s1)) rfl rfl rfl rfl (by dsimp only [aput, List.set]) ?_
    refine w_op (a := .raw (.int .i64 s1)) rfl rfl rfl rfl (by dsimp only [aput, List.set]) ?_
    refine w_seq (w_region ?_)
    refine w_op (a := .raw (.int .i64 s1)) rfl rfl rfl rfl (by dsimp only [aput, List.set]) ?_
    refine w_op (a := .raw (.int .u8 (IntKind.u8.wrap s1))) rfl rfl rfl rfl (by dsimp only [aput, List.set]) ?_
    obtain ⟨g1, h⟩ := chk_e h
    refine w_op (a := .list (List.length (([(u8of (IntKind.u8.wrap s1))] : List UInt8) : List UInt8)) (Enc.cellsL (([(u8of (IntKind.u8.wrap s1))] : List UInt8) : List UInt8)) .full) rfl rfl rfl (op_q (q_lit (α := UInt8) (l := ([(u8of (IntKind.u8.wrap s1))] : List UInt8)) (cs := [.raw (.int .u8 (IntKind.u8.wrap s1))]) rfl (by show List.map _ _ = _; simp only [List.map_cons, List.map_nil, u8c g1]))) (by dsimp only [aput, List.set]) ?_
    obtain ⟨g2, h⟩ := chk_e h
    obtain ⟨x1, hx1, h⟩ := letE_e h
    refine w_callc (args' := [.list (List.length (([(u8of (IntKind.u8.wrap s1))] : List UInt8) : List UInt8)) (Enc.cellsL (([(u8of (IntKind.u8.wrap s1))] : List UInt8) : List UInt8)) .none]) (r := .agg (Enc.cells (x1 : BS))) (by rw [← hx1]; exact (k_of ([(u8of (IntKind.u8.wrap s1))] : List UInt8) g2)) rfl rfl (stripL_cons (strip_l (Enc.cloL _)) rfl) (okTrimL_cons (okTrim_l (Enc.cloL _)) rfl) (by dsimp only [aput, List.set]) ?_
    refine w_opm (a := .ptr 0 0) (σ'' := ⟨[(24, (Enc.cells (0#256 : BS)))], [], [], 0, false⟩) rfl rfl rfl rfl (by dsimp only [aput, List.set]) rfl ?_
    refine w_opm (σ'' := ⟨[(24, (Enc.cells (x1 : BS)))], [], [], 0, false⟩) rfl rfl rfl (op_storeW (n := 4) rfl rfl rfl rfl rfl rfl rfl rfl (by decide)) (by dsimp only [aput, List.set]) rfl ?_
    refine w_seq ?_
    refine w_draw (id := 5) 35 (by kernel_rfl) (by kernel_rfl) ?_
    refine h_op (a := .agg (Enc.cells (x1 : BS))) rfl rfl rfl rfl (by dsimp only [aput, List.set]) ?_
    refine h_op (a := .raw (.int .i64 s1)) rfl rfl rfl rfl (by dsimp only [aput, List.set]) ?_
    refine h_op (a := .raw (.int .u8 (IntKind.u8.wrap s1))) rfl rfl rfl rfl (by dsimp only [aput, List.set]) ?_
    obtain ⟨g3, h⟩ := chk_e h
    obtain ⟨x2, hx2, h⟩ := letE_e h
    refine h_call (args' := [.raw (.int .u8 (IntKind.u8.wrap s1)), .raw (.int .u8 255)]) (r := .agg (Enc.cells (x2 : BS))) (by rw [← hx2]; exact (k_range (IntKind.u8.wrap s1) (255 : Int) g3)) rfl rfl rfl (stripL_cons rfl (stripL_cons rfl rfl)) (okTrimL_cons rfl (okTrimL_cons rfl rfl)) (by dsimp only [aput, List.set]) ?_
    refine h_op (a := .raw (.int .i64 s1)) rfl rfl rfl rfl (by dsimp only [aput, List.set]) ?_
    refine h_op (a := .raw (.int .u8 (IntKind.u8.wrap s1))) rfl rfl rfl rfl (by dsimp only [aput, List.set]) ?_
    refine h_op (a := .raw (.int .i64 s1)) rfl rfl rfl rfl (by dsimp only [aput, List.set]) ?_
    obtain ⟨g4, h⟩ := chk_e h
    refine h_op (a := .raw (.int .i64 (255 - s1))) rfl rfl rfl (q_sub rfl rfl rfl rfl g4.1 g4.2) (by dsimp only [aput, List.set]) ?_
    refine h_op (a := .raw (.int .u8 (IntKind.u8.wrap (255 - s1)))) rfl rfl rfl rfl (by dsimp only [aput, List.set]) ?_
    obtain ⟨g5, h⟩ := chk_e h
    refine h_call (args' := [.agg (Enc.cells (x1 : BS)), .agg (Enc.cells (x2 : BS)), .raw (.int .u8 (IntKind.u8.wrap s1)), .raw (.int .u8 (IntKind.u8.wrap (255 - s1)))]) (r := .raw (.bool true)) (k_tells x1 x2 (IntKind.u8.wrap s1) (IntKind.u8.wrap (255 - s1)) g5) rfl rfl rfl (stripL_cons (strip_c (clo_agg (Enc.clo _))) (stripL_cons (strip_c (clo_agg (Enc.clo _))) (stripL_cons rfl (stripL_cons rfl rfl)))) (okTrimL_cons (okTrim_clo _ _ (clo_agg (Enc.clo _))) (okTrimL_cons (okTrim_clo _ _ (clo_agg (Enc.clo _))) (okTrimL_cons rfl (okTrimL_cons rfl rfl)))) (by dsimp only [aput, List.set]) ?_
    refine h_op (a := .raw (.bool false)) rfl rfl rfl rfl (by dsimp only [aput, List.set]) ?_
    refine h_op (a := .raw (.bool false)) rfl rfl rfl rfl (by dsimp only [aput, List.set]) ?_
    refine h_met rfl rfl ?_
    refine h_op (a := .raw (.int .i64 s1)) rfl rfl rfl rfl (by dsimp only [aput, List.set]) ?_
    refine h_met rfl rfl ?_
    refine h_op (a := .raw (.int .u8 (IntKind.u8.wrap s1))) rfl rfl rfl rfl (by dsimp only [aput, List.set]) ?_
    refine h_met rfl rfl ?_
    obtain ⟨g6, h⟩ := chk_e h
    obtain ⟨x3, hx3, h⟩ := letE_e h
    refine h_call (args' := [.raw (.int .u8 0), .raw (.int .u8 (IntKind.u8.wrap s1))]) (r := .agg (Enc.cells (x3 : BS))) (by rw [← hx3]; exact (k_range (0 : Int) (IntKind.u8.wrap s1) g6)) rfl rfl rfl (stripL_cons rfl (stripL_cons rfl rfl)) (okTrimL_cons rfl (okTrimL_cons rfl rfl)) (by dsimp only [aput, List.set]) ?_
    refine h_met rfl rfl ?_
    refine h_op (a := .agg (Enc.cells (x1 : BS))) rfl rfl rfl rfl (by dsimp only [aput, List.set]) ?_
    refine h_met rfl rfl ?_
    obtain ⟨x4, hx4, h⟩ := letE_e h
    refine h_call (args' := [.agg (Enc.cells (x1 : BS))]) (r := .agg (Enc.cells (x4 : BS))) (by rw [← hx4]; exact (k_not x1)) rfl rfl rfl (stripL_cons (strip_c (clo_agg (Enc.clo _))) rfl) (okTrimL_cons (okTrim_clo _ _ (clo_agg (Enc.clo _))) rfl) (by dsimp only [aput, List.set]) ?_
    refine h_met rfl rfl ?_
    refine h_op (a := .raw (.int .i64 s1)) rfl rfl rfl rfl (by dsimp only [aput, List.set]) ?_
    refine h_met rfl rfl ?_
    refine h_op (a := .raw (.int .u8 (IntKind.u8.wrap s1))) rfl rfl rfl rfl (by dsimp only [aput, List.set]) ?_
    refine h_met rfl rfl ?_
    obtain ⟨g7, h⟩ := chk_e h
    refine h_call (args' := [.agg (Enc.cells (x3 : BS)), .agg (Enc.cells (x4 : BS)), .raw (.int .u8 (IntKind.u8.wrap s1)), .raw (.int .u8 63)]) (r := .raw (.bool true)) (k_tells x3 x4 (IntKind.u8.wrap s1) 63 g7) rfl rfl rfl (stripL_cons (strip_c (clo_agg (Enc.clo _))) (stripL_cons (strip_c (clo_agg (Enc.clo _))) (stripL_cons rfl (stripL_cons rfl rfl)))) (okTrimL_cons (okTrim_clo _ _ (clo_agg (Enc.clo _))) (okTrimL_cons (okTrim_clo _ _ (clo_agg (Enc.clo _))) (okTrimL_cons rfl (okTrimL_cons rfl rfl)))) (by dsimp only [aput, List.set]) ?_
    refine h_met rfl rfl ?_
    refine h_op (a := .raw (.bool false)) rfl rfl rfl rfl (by dsimp only [aput, List.set]) ?_
    refine h_op (a := .raw (.bool false)) rfl rfl rfl rfl (by dsimp only [aput, List.set]) ?_
    refine h_op (a := .raw (.bool false)) rfl rfl rfl rfl (by dsimp only [aput, List.set]) ?_
    refine h_met rfl rfl ?_
    refine h_op (a := .raw (.int .i64 s1)) rfl rfl rfl rfl (by dsimp only [aput, List.set]) ?_
    refine h_met rfl rfl ?_
    refine h_op (a := .raw (.int .u8 (IntKind.u8.wrap s1))) rfl rfl rfl rfl (by dsimp only [aput, List.set]) ?_
    refine h_met rfl rfl ?_
    obtain ⟨g8, h⟩ := chk_e h
    refine h_op (a := .agg (Enc.cells (((u8of (IntKind.u8.wrap s1)), 64) : Sp))) rfl rfl rfl (u8_bld (cs := [.raw (.int .u8 (IntKind.u8.wrap s1)), .raw (.int .u8 64)]) rfl (by show ([.raw (.int .u8 (IntKind.u8.wrap s1)), .raw (.int .u8 64)] : List AV) = _; simp only [Enc.cells, cellsS, u8c g8]; first | done | rfl)) (by dsimp only [aput, List.set]) ?_
    refine h_met rfl rfl ?_
    refine h_op (a := .raw (.int .i64 s1)) rfl rfl rfl rfl (by dsimp only [aput, List.set]) ?_
    refine h_met rfl rfl ?_
    refine h_op (a := .raw (.int .u8 (IntKind.u8.wrap s1))) rfl rfl rfl rfl (by dsimp only [aput, List.set]) ?_
    refine h_met rfl rfl ?_
    obtain ⟨g9, h⟩ := chk_e h
    refine h_op (a := .agg (Enc.cells ((128, (u8of (IntKind.u8.wrap s1))) : Sp))) rfl rfl rfl (u8_bld (cs := [.raw (.int .u8 128), .raw (.int .u8 (IntKind.u8.wrap s1))]) rfl (by show ([.raw (.int .u8 128), .raw (.int .u8 (IntKind.u8.wrap s1))] : List AV) = _; simp only [Enc.cells, cellsS, u8c g9]; first | done | rfl)) (by dsimp only [aput, List.set]) ?_
    refine h_met rfl rfl ?_
    refine h_op (a := .list (List.length ([((u8of (IntKind.u8.wrap s1)), 64), (128, (u8of (IntKind.u8.wrap s1)))] : List Sp)) (Enc.cellsL ([((u8of (IntKind.u8.wrap s1)), 64), (128, (u8of (IntKind.u8.wrap s1)))] : List Sp)) .full) rfl rfl rfl (q_lit (α := Sp) (l := [((u8of (IntKind.u8.wrap s1)), 64), (128, (u8of (IntKind.u8.wrap s1)))]) (cs := Enc.cells (((u8of (IntKind.u8.wrap s1)), 64) : Sp) ++ (Enc.cells ((128, (u8of (IntKind.u8.wrap s1))) : Sp) ++ [])) rfl (by rw [Enc.cons, Enc.cons, Enc.nil])) (by dsimp only [aput, List.set]) ?_
    refine h_met rfl rfl ?_
    refine h_op (a := .agg (Enc.cells (x1 : BS))) rfl rfl rfl rfl (by dsimp only [aput, List.set]) ?_
    refine h_met rfl rfl ?_
    refine h_op (a := .raw (.int .i64 s1)) rfl rfl rfl rfl (by dsimp only [aput, List.set]) ?_
    refine h_met rfl rfl ?_
    refine h_op (a := .raw (.int .u8 (IntKind.u8.wrap s1))) rfl rfl rfl rfl (by dsimp only [aput, List.set]) ?_
    refine h_met rfl rfl ?_
    obtain ⟨g10, h⟩ := chk_e h
    obtain ⟨x5, hx5, h⟩ := letE_e h
    refine h_call (args' := [.raw (.int .u8 (IntKind.u8.wrap s1)), .raw (.int .u8 200)]) (r := .agg (Enc.cells (x5 : BS))) (by rw [← hx5]; exact (k_range (IntKind.u8.wrap s1) (200 : Int) g10)) rfl rfl rfl (stripL_cons rfl (stripL_cons rfl rfl)) (okTrimL_cons rfl (okTrimL_cons rfl rfl)) (by dsimp only [aput, List.set]) ?_
    refine h_met rfl rfl ?_
    refine h_op (a := .list (List.length ([x1, x5] : List BS)) (Enc.cellsL ([x1, x5] : List BS)) .full) rfl rfl rfl (q_lit (α := BS) (l := [x1, x5]) (cs := Enc.cells (x1 : BS) ++ (Enc.cells (x5 : BS) ++ [])) rfl (by rw [Enc.cons, Enc.cons, Enc.nil])) (by dsimp only [aput, List.set]) ?_
    refine h_end ?_
    refine w_met rfl rfl ?_
    refine w_callc (args' := [.list (List.length ([((u8of (IntKind.u8.wrap s1)), 64), (128, (u8of (IntKind.u8.wrap s1)))] : List Sp)) (Enc.cellsL ([((u8of (IntKind.u8.wrap s1)), 64), (128, (u8of (IntKind.u8.wrap s1)))] : List Sp)) .none, .list (List.length ([x1, x5] : List BS)) (Enc.cellsL ([x1, x5] : List BS)) .none]) (r := .raw (.bool true)) (k_lists [((u8of (IntKind.u8.wrap s1)), 64), (128, (u8of (IntKind.u8.wrap s1)))] [x1, x5]) rfl rfl (stripL_cons (strip_l (Enc.cloL _)) (stripL_cons (strip_l (Enc.cloL _)) rfl)) (okTrimL_cons (okTrim_l (Enc.cloL _)) (okTrimL_cons (okTrim_l (Enc.cloL _)) rfl)) (by dsimp only [aput, List.set]) ?_
    refine w_met rfl rfl ?_
    refine w_op (a := .raw (.bool false)) rfl rfl rfl rfl (by dsimp only [aput, List.set]) ?_
    refine w_op (a := .raw (.bool false)) rfl rfl rfl rfl (by dsimp only [aput, List.set]) ?_
    refine w_false rfl ?_
    refine w_region (id := 7) ?_
    obtain ⟨g11, h⟩ := chk_e h
    refine w_op (a := .raw (.int .i64 (s1 + 1))) rfl rfl rfl (op_q (q_add rfl rfl rfl rfl g11.1 g11.2)) (by dsimp only [aput, List.set]) ?_
    refine w_op (a := .raw (.int .i64 (s1 + 1))) rfl rfl rfl rfl (by dsimp only [aput, List.set]) ?_
    refine loop_next (p := p1) ((s1 + 1)) h ?_
    exact wm_trim [false, false, false, false, false, false, false, false, false, true, false, false, false, false, false, false, false, false, false, false, false, false, false, false, false, false, false, false, false, false, false, false, false, false, false, false, false, false, false, false, false, false, false, false, false, false, false, false, false, false, false, false, false, false, false, false, false, false, false, false, false, false, false, false, false, false, false, false, false, false, false, false, false, false, false, false, false, false, false, false, false, false, false, false, false, false, false, false, false, false, false, false, false, false, false, false, false, false, false, false, false, false, false, false, false, false, false, false, false, false, false, false, false, false, false, false, false, false, false, false, false, false, false, false, false, false, false, false, false, false, false, false, false, false, false, false, false, false, false, false, false, false, false, false, false, false, false] 0 (by kernel_rfl) (Nat.le_of_ble_eq_true rfl) (okSt_of rfl) (by dsimp only [setAll, topAll, List.foldl, List.set]; exact (okTrimL_cons rfl (okTrimL_cons rfl (okTrimL_cons rfl (okTrimL_cons rfl (okTrimL_cons rfl (okTrimL_cons rfl (okTrimL_cons rfl (okTrimL_cons rfl (okTrimL_cons rfl (okTrimL_cons rfl (okTrimL_cons rfl (okTrimL_cons rfl (okTrimL_cons rfl (okTrimL_cons rfl (okTrimL_cons rfl (okTrimL_cons rfl (okTrimL_cons rfl (okTrimL_cons rfl (okTrimL_cons rfl (okTrimL_cons rfl (okTrimL_cons rfl (okTrimL_cons rfl (okTrimL_cons rfl (okTrimL_cons rfl (okTrimL_cons rfl (okTrimL_cons rfl (okTrimL_cons rfl (okTrimL_cons rfl (okTrimL_cons rfl (okTrimL_cons rfl (okTrimL_cons rfl (okTrimL_cons rfl (okTrimL_cons rfl (okTrimL_cons rfl (okTrimL_cons rfl (okTrimL_cons rfl (okTrimL_cons rfl (okTrimL_cons rfl (okTrimL_cons rfl (okTrimL_cons rfl (okTrimL_cons rfl (okTrimL_cons rfl (okTrimL_cons rfl (okTrimL_cons rfl (okTrimL_cons rfl (okTrimL_cons rfl (okTrimL_cons rfl (okTrimL_cons rfl (okTrimL_cons rfl (okTrimL_cons rfl (okTrimL_cons rfl (okTrimL_cons rfl (okTrimL_cons rfl (okTrimL_cons rfl (okTrimL_cons rfl (okTrimL_cons rfl (okTrimL_cons rfl (okTrimL_cons rfl (okTrimL_cons rfl (okTrimL_cons rfl (okTrimL_cons rfl (okTrimL_cons rfl (okTrimL_cons rfl (okTrimL_cons rfl (okTrimL_cons rfl (okTrimL_cons rfl (okTrimL_cons rfl (okTrimL_cons rfl (okTrimL_cons rfl (okTrimL_cons rfl (okTrimL_cons rfl (okTrimL_cons rfl (okTrimL_cons rfl (okTrimL_cons rfl (okTrimL_cons rfl (okTrimL_cons rfl (okTrimL_cons rfl (okTrimL_cons rfl (okTrimL_cons rfl (okTrimL_cons rfl (okTrimL_cons rfl (okTrimL_cons rfl (okTrimL_cons rfl (okTrimL_cons rfl (okTrimL_cons rfl (okTrimL_cons rfl (okTrimL_cons rfl (okTrimL_cons rfl (okTrimL_cons rfl (okTrimL_cons rfl (okTrimL_cons rfl (okTrimL_cons rfl (okTrimL_cons rfl (okTrimL_cons rfl (okTrimL_cons rfl (okTrimL_cons rfl (okTrimL_cons rfl (okTrimL_cons rfl (okTrimL_cons rfl (okTrimL_cons rfl (okTrimL_cons rfl (okTrimL_cons rfl (okTrimL_cons rfl (okTrimL_cons rfl (okTrimL_cons rfl (okTrimL_cons rfl (okTrimL_cons rfl (okTrimL_cons rfl (okTrimL_cons rfl (okTrimL_cons rfl (okTrimL_cons rfl (okTrimL_cons rfl (okTrimL_cons rfl (okTrimL_cons rfl (okTrimL_cons rfl (okTrimL_cons rfl (okTrimL_cons rfl (okTrimL_cons rfl (okTrimL_cons rfl (okTrimL_cons rfl (okTrimL_cons rfl (okTrimL_cons rfl (okTrimL_cons rfl (okTrimL_cons rfl (okTrimL_cons rfl (okTrimL_cons rfl (okTrimL_cons rfl (okTrimL_cons rfl (okTrimL_cons rfl (okTrimL_cons rfl (okTrimL_cons rfl (okTrimL_cons rfl (okTrimL_cons rfl (okTrimL_cons rfl (okTrimL_cons rfl (okTrimL_cons rfl (okTrimL_cons rfl (okTrimL_cons rfl (okTrimL_cons rfl (okTrimL_cons rfl (okTrimL_cons rfl (okTrimL_cons rfl (okTrimL_cons rfl (okTrimL_cons rfl (okTrimL_cons rfl (okTrimL_cons rfl (okTrimL_cons rfl rfl)))))))))))))))))))))))))))))))))))))))))))))))))))))))))))))))))))))))))))))))))))))))))))))))))))))))))))))))))))))))))))))))))))))))))))))))))))) (by kernel_rfl)
   ·
    refine w_condF hc1 rfl ?_
    refine loop_exit h (fun h => ?_)
    refine cut_done (o := or1) () h ?_
    exact wm_of [false, false, false, false, false, false, false, false, false, false, false, false, false, false, false, false, false, false, false, false, false, false, false, false, false, false, false, false, false, false, false, false, false, false, false, false, false, false, false, false, false, false, false, false, false, false, false, false, false, false, false, false, false, false, false, false, false, false, false, false, false, false, false, false, false, false, false, false, false, false, false, false, false, false, false, false, false, false, false, false, false, false, false, false, false, false, false, false, false, false, false, false, false, false, false, false, false, false, false, false, false, false, false, false, false, false, false, false, false, false, false, false, false, false, false, false, false, false, false, false, false, false, false, false, false, false, false, false, false, false, false, false, false, false, false, false, false, false, false, false, false, false, false, false, false, false, false] (by kernel_rfl) (by kernel_rfl)
 ·
  intro j1 h
  refine w_start (by dsimp only [setAll, topAll, List.foldl, List.set]) rfl ?_
  refine w_seq (w_region ?_)
  refine w_op (a := .list (List.length (([0, 63, 64, 255] : List UInt8) : List UInt8)) (Enc.cellsL (([0, 63, 64, 255] : List UInt8) : List UInt8)) .full) rfl rfl rfl (op_q (q_lit (α := UInt8) (l := ([0, 63, 64, 255] : List UInt8)) (cs := [.raw (.int .u8 0), .raw (.int .u8 63), .raw (.int .u8 64), .raw (.int .u8 255)]) (by kernel_rfl) rfl)) (by dsimp only [aput, List.set]) ?_
  refine w_op (a := .list (List.length (([0, 63, 64, 255] : List UInt8) : List UInt8)) (Enc.cellsL (([0, 63, 64, 255] : List UInt8) : List UInt8)) .full) rfl rfl rfl rfl (by dsimp only [aput, List.set]) ?_
  refine w_cutF h [0, 3, 4, 5, 6, 7, 8, 55, 56, 57, 58, 59, 60, 61, 62, 63, 64, 65, 66, 67, 68, 69, 70, 71, 72, 73, 74, 75, 76, 77, 78, 79, 80, 81, 82, 83, 84, 85, 86, 87, 88, 89, 90, 91, 92, 93, 94, 95, 96, 97, 98, 99, 100, 101, 102, 103, 104, 105, 106, 107, 108, 109, 110, 111, 112, 113, 114, 115, 116, 117, 118, 119, 120, 121, 122, 123, 124] (fun j2 => []) (fun j2 => ⟨[], [], [], 0, false⟩) ?_ ?_
  ·
   intro or2 h hr2
   refine w_seq (w_region ?_)
   refine w_op (a := .raw (.int .i64 0)) rfl rfl rfl rfl (by dsimp only [aput, List.set]) ?_
   refine w_block ?_
   refine w_loopF h [0, 4, 5, 6, 7, 8, 55, 56, 57, 58, 59, 60, 61, 62, 63, 64, 65, 66, 67, 68, 69, 70, 71, 72, 73, 74, 75, 76, 77, 78, 79, 80, 81, 82, 83, 84, 85, 86, 87, 88, 89, 90, 91, 92, 93, 94, 95, 96, 97, 98, 99, 100, 101, 102, 103, 104, 105, 106, 107, 108, 109, 110, 111, 112, 113, 114, 115, 116, 117, 118, 119, 120, 121, 122, 123, 124] (fun s2 => [(56, .raw (.int .i64 s2))]) (fun s2 => ⟨[], [], [], 0, false⟩) ?_ ?_
   ·
    exact wm_of [false, true, true, true, false, false, false, false, false, true, true, true, true, true, true, true, true, true, true, true, true, true, true, true, true, true, true, true, true, true, true, true, true, true, true, true, true, true, true, true, true, true, true, true, true, true, true, true, true, true, true, true, true, true, true, false, true, false, false, false, false, false, false, false, false, false, false, false, false, false, false, false, false, false, false, false, false, false, false, false, false, false, false, false, false, false, false, false, false, false, false, false, false, false, false, false, false, false, false, false, false, false, false, false, false, false, false, false, false, false, false, false, false, false, false, false, false, false, false, false, false, false, false, false, false, true, true, true, true, true, true, true, true, true, true, true, true, true, true, true, true, true, true, true, true, true, true] (by kernel_rfl) (by kernel_rfl)
   ·
    intro s2 p2 h
    refine w_start (by dsimp only [setAll, topAll, List.foldl, List.set]) rfl ?_
    refine w_seq (w_region ?_)
    refine w_op (a := .raw (.bool (decide (s2 < 256)))) rfl rfl rfl rfl (by dsimp only [aput, List.set]) ?_
    refine w_seq ?_
    refine bif_e h (fun hc2 h => ?_) (fun hc2 h => ?_)
    ·
     refine w_condT hc2 rfl ?_
     refine w_cutF h [0, 4, 5, 6, 7, 8, 57, 58, 59, 60, 61, 62, 63, 64, 65, 66, 67, 68, 69, 70, 71, 72, 73, 74, 75, 76, 77, 78, 79, 80, 81, 82, 83, 84, 85, 86, 87, 88, 89, 90, 91, 92, 93, 94, 95, 96, 97, 98, 99, 100, 101, 102, 103, 104, 105, 106, 107, 108, 109, 110, 111, 112, 113, 114, 115, 116, 117, 118, 119, 120, 121, 122, 123] (fun j3 => []) (fun j3 => ⟨[], [], [], 0, false⟩) ?_ ?_
     ·
      intro or3 h hr3
      refine w_block ?_
      refine w_seq (w_region ?_)
      refine w_op (a := .raw (.int .i64 s2)) rfl rfl rfl rfl (by dsimp only [aput, List.set]) ?_
      refine w_op (a := .raw (.int .i64 s2)) rfl rfl rfl rfl (by dsimp only [aput, List.set]) ?_
      refine w_seq (w_region ?_)
      refine w_opm (a := .ptr 0 0) (σ'' := ⟨[(24, (Enc.cells (0#256 : BS)))], [], [], 0, false⟩) rfl rfl rfl rfl (by dsimp only [aput, List.set]) rfl ?_
      refine w_opm (a := .ptr 1 0) (σ'' := ⟨[(24, (Enc.cells (0#256 : BS))), (24, (Enc.cells (0#256 : BS)))], [], [], 0, false⟩) rfl rfl rfl rfl (by dsimp only [aput, List.set]) rfl ?_
      refine w_cutF h [7, 8, 57, 58, 59, 60, 61, 62, 63, 64, 65, 66, 67, 68, 69, 70, 71, 72, 73, 74, 75, 76, 77, 78, 79, 80, 81, 82, 83, 84, 85, 86, 87] (fun j4 => []) (fun j4 => ⟨[(24, (Enc.cells (j4.1 : BS))), (24, (Enc.cells (j4.2 : BS)))], [], [], 0, false⟩) ?_ ?_
      ·
       intro or4 h hr4
       refine w_seq (w_region ?_)
       refine w_op (a := .list (List.length (([0, 63, 64, 255] : List UInt8) : List UInt8)) (Enc.cellsL (([0, 63, 64, 255] : List UInt8) : List UInt8)) .full) rfl rfl rfl rfl (by dsimp only [aput, List.set]) ?_
       refine w_op (a := .raw (.int .i64 (List.length ([0, 63, 64, 255] : List UInt8) : Int))) rfl rfl rfl rfl (by dsimp only [aput, List.set]) ?_
       refine w_op (a := .raw (.int .i64 0)) rfl rfl rfl rfl (by dsimp only [aput, List.set]) ?_
       refine w_block ?_
       refine w_loopF h [7, 8, 57, 58, 61, 62, 63, 64, 65, 66, 67, 68, 69, 70, 71, 72, 73, 74, 75, 76, 77, 78, 79, 80, 81, 82, 83, 84, 85, 86, 87] (fun s3 => [(61, .raw (.int .i64 s3.1))]) (fun s3 => ⟨[(24, (Enc.cells (s3.2.1 : BS))), (24, (Enc.cells (s3.2.2 : BS)))], [], [], 0, false⟩) ?_ ?_
       ·
        exact wm_of [true, true, true, true, true, true, true, false, false, true, true, true, true, true, true, true, true, true, true, true, true, true, true, true, true, true, true, true, true, true, true, true, true, true, true, true, true, true, true, true, true, true, true, true, true, true, true, true, true, true, true, true, true, true, true, true, true, false, false, true, true, true, false, false, false, false, false, false, false, false, false, false, false, false, false, false, false, false, false, false, false, false, false, false, false, false, false, false, true, true, true, true, true, true, true, true, true, true, true, true, true, true, true, true, true, true, true, true, true, true, true, true, true, true, true, true, true, true, true, true, true, true, true, true, true, true, true, true, true, true, true, true, true, true, true, true, true, true, true, true, true, true, true, true, true, true, true] (by kernel_rfl) (by kernel_rfl)
       ·
        intro s3 p3 h
        refine w_start (by dsimp only [setAll, topAll, List.foldl, List.set]) rfl ?_
        refine w_seq (w_region ?_)
        refine w_op (a := .raw (.bool (decide (s3.1 < (List.length ([0, 63, 64, 255] : List UInt8) : Int))))) rfl rfl rfl rfl (by dsimp only [aput, List.set]) ?_
        refine w_seq ?_
        refine bif_e h (fun hc3 h => ?_) (fun hc3 h => ?_)
        ·
         refine w_condT hc3 rfl ?_
         refine w_cutF h [7, 8, 62, 63, 64, 65, 66, 67, 68, 69, 70, 71, 72, 73, 74, 75, 76, 77, 78, 79, 80, 81, 82, 83, 84, 85, 86] (fun j5 => []) (fun j5 => ⟨[(24, (Enc.cells (j5.1 : BS))), (24, (Enc.cells (j5.2 : BS)))], [], [], 0, false⟩) ?_ ?_
         ·
          intro or5 h hr5
          refine w_block ?_
          refine w_seq (w_region ?_)
          refine w_op (a := .raw (.int .i64 s3.1)) rfl rfl rfl rfl (by dsimp only [aput, List.set]) ?_
          obtain ⟨g12, h⟩ := chk_e h
          obtain ⟨x6, hx6, h⟩ := letE_e h
          refine w_op (a := .iptr (Enc.cells x6 ++ Enc.cellsL (List.drop (Int.toNat s3.1 + 1) ([0, 63, 64, 255] : List UInt8)))) rfl rfl rfl (op_q (by rw [← hx6]; exact (q_idx (α := UInt8) (l := ([0, 63, 64, 255] : List UInt8)) g12 rfl rfl rfl rfl rfl))) (by dsimp only [aput, List.set]) ?_
          refine w_op (a := .raw (.int .u8 (((x6).toNat : Nat) : Int))) rfl rfl rfl rfl (by dsimp only [aput, List.set]) ?_
          refine w_op (a := .raw (.int .i64 s3.1)) rfl rfl rfl rfl (by dsimp only [aput, List.set]) ?_
          refine w_op (a := .raw (.int .u8 (((x6).toNat : Nat) : Int))) rfl rfl rfl rfl (by dsimp only [aput, List.set]) ?_
          refine w_cutF h [62, 63, 64, 65, 66, 67, 68, 69, 70, 71, 72, 73, 74, 75] (fun j6 => []) (fun j6 => ⟨[(24, (Enc.cells (j6 : BS))), (24, (Enc.cells (s3.2.2 : BS)))], [], [], 0, false⟩) ?_ ?_
          ·
           intro or6 h hr6
           refine w_seq (w_region ?_)
           refine w_op (a := .raw (.int .i64 s2)) rfl rfl rfl rfl (by dsimp only [aput, List.set]) ?_
           refine w_op (a := .raw (.int .i64 s3.1)) rfl rfl rfl rfl (by dsimp only [aput, List.set]) ?_
           obtain ⟨g13, h⟩ := chk_e h
           refine w_op (a := .raw (.int .i64 (shrI .i64 s2 s3.1))) rfl rfl rfl (op_q (q_shr g13 rfl rfl rfl)) (by dsimp only [aput, List.set]) ?_
           refine w_op (a := .raw (.int .i64 (andI .i64 (shrI .i64 s2 s3.1) 1))) rfl rfl rfl rfl (by dsimp only [aput, List.set]) ?_
           refine w_op (a := .raw (.bool ((andI .i64 (shrI .i64 s2 s3.1) 1) == 1))) rfl rfl rfl rfl (by dsimp only [aput, List.set]) ?_
           refine bif_e h (fun hc4 h => ?_) (fun hc4 h => ?_)
           ·
            refine w_condT hc4 rfl ?_
            refine w_draw (id := 17) 4 (by kernel_rfl) (by kernel_rfl) ?_
            refine h_op (a := .agg (Enc.cells (s3.2.1 : BS))) rfl rfl rfl rfl (by dsimp only [aput, List.set]) ?_
            refine h_op (a := .raw (.int .u8 (((x6).toNat : Nat) : Int))) rfl rfl rfl rfl (by dsimp only [aput, List.set]) ?_
            obtain ⟨g14, h⟩ := chk_e h
            refine h_op (a := .list (List.length (([(u8of (((x6).toNat : Nat) : Int))] : List UInt8) : List UInt8)) (Enc.cellsL (([(u8of (((x6).toNat : Nat) : Int))] : List UInt8) : List UInt8)) .full) rfl rfl rfl (q_lit (α := UInt8) (l := ([(u8of (((x6).toNat : Nat) : Int))] : List UInt8)) (cs := [.raw (.int .u8 (((x6).toNat : Nat) : Int))]) rfl (by show List.map _ _ = _; simp only [List.map_cons, List.map_nil, u8c g14])) (by dsimp only [aput, List.set]) ?_
            obtain ⟨g15, h⟩ := chk_e h
            obtain ⟨x7, hx7, h⟩ := letE_e h
            refine h_call (args' := [.list (List.length (([(u8of (((x6).toNat : Nat) : Int))] : List UInt8) : List UInt8)) (Enc.cellsL (([(u8of (((x6).toNat : Nat) : Int))] : List UInt8) : List UInt8)) .none]) (r := .agg (Enc.cells (x7 : BS))) (by rw [← hx7]; exact (k_of ([(u8of (((x6).toNat : Nat) : Int))] : List UInt8) g15)) rfl rfl rfl (stripL_cons (strip_l (Enc.cloL _)) rfl) (okTrimL_cons (okTrim_l (Enc.cloL _)) rfl) (by dsimp only [aput, List.set]) ?_
            refine h_end ?_
            obtain ⟨x8, hx8, h⟩ := letE_e h
            refine w_callc (args' := [.agg (Enc.cells (s3.2.1 : BS)), .agg (Enc.cells (x7 : BS))]) (r := .agg (Enc.cells (x8 : BS))) (by rw [← hx8]; exact (k_or s3.2.1 x7)) rfl rfl (stripL_cons (strip_c (clo_agg (Enc.clo _))) (stripL_cons (strip_c (clo_agg (Enc.clo _))) rfl)) (okTrimL_cons (okTrim_clo _ _ (clo_agg (Enc.clo _))) (okTrimL_cons (okTrim_clo _ _ (clo_agg (Enc.clo _))) rfl)) (by dsimp only [aput, List.set]) ?_
            refine w_opm (σ'' := ⟨[(24, (Enc.cells (x8 : BS))), (24, (Enc.cells (s3.2.2 : BS)))], [], [], 0, false⟩) rfl rfl rfl (op_storeW (n := 4) rfl rfl rfl rfl rfl rfl rfl rfl (by decide)) (by dsimp only [aput, List.set]) rfl ?_
            refine cut_done (o := or6) (x8) h ?_
            exact wm_of [true, true, true, true, true, true, true, true, true, true, true, true, true, true, true, true, true, true, true, true, true, true, true, true, true, true, true, true, true, true, true, true, true, true, true, true, true, true, true, true, true, true, true, true, true, true, true, true, true, true, true, true, true, true, true, true, true, true, true, true, true, true, false, false, false, false, false, false, false, false, false, false, false, false, false, false, true, true, true, true, true, true, true, true, true, true, true, true, true, true, true, true, true, true, true, true, true, true, true, true, true, true, true, true, true, true, true, true, true, true, true, true, true, true, true, true, true, true, true, true, true, true, true, true, true, true, true, true, true, true, true, true, true, true, true, true, true, true, true, true, true, true, true, true, true, true, true] (by kernel_rfl) (by kernel_rfl)
           ·
            refine w_condF hc4 rfl ?_
            refine cut_done (o := or6) (s3.2.1) h ?_
            exact wm_of [true, true, true, true, true, true, true, true, true, true, true, true, true, true, true, true, true, true, true, true, true, true, true, true, true, true, true, true, true, true, true, true, true, true, true, true, true, true, true, true, true, true, true, true, true, true, true, true, true, true, true, true, true, true, true, true, true, true, true, true, true, true, false, false, false, false, false, false, false, false, false, false, false, false, false, false, true, true, true, true, true, true, true, true, true, true, true, true, true, true, true, true, true, true, true, true, true, true, true, true, true, true, true, true, true, true, true, true, true, true, true, true, true, true, true, true, true, true, true, true, true, true, true, true, true, true, true, true, true, true, true, true, true, true, true, true, true, true, true, true, true, true, true, true, true, true, true] (by kernel_rfl) (by kernel_rfl)
          ·
           intro j6 h
           refine w_start (by dsimp only [setAll, topAll, List.foldl, List.set]) rfl ?_
           refine w_seq (w_region ?_)
           refine w_op (a := .raw (.int .i64 s2)) rfl rfl rfl rfl (by dsimp only [aput, List.set]) ?_
           refine w_op (a := .raw (.int .i64 s3.1)) rfl rfl rfl rfl (by dsimp only [aput, List.set]) ?_
           obtain ⟨g16, h⟩ := chk_e h
           refine w_op (a := .raw (.int .i64 (4 + s3.1))) rfl rfl rfl (op_q (q_add rfl rfl rfl rfl g16.1 g16.2)) (by dsimp only [aput, List.set]) ?_
           obtain ⟨g17, h⟩ := chk_e h
           refine w_op (a := .raw (.int .i64 (shrI .i64 s2 (4 + s3.1)))) rfl rfl rfl (op_q (q_shr g17 rfl rfl rfl)) (by dsimp only [aput, List.set]) ?_
           refine w_op (a := .raw (.int .i64 (andI .i64 (shrI .i64 s2 (4 + s3.1)) 1))) rfl rfl rfl rfl (by dsimp only [aput, List.set]) ?_
           refine w_op (a := .raw (.bool ((andI .i64 (shrI .i64 s2 (4 + s3.1)) 1) == 1))) rfl rfl rfl rfl (by dsimp only [aput, List.set]) ?_
           refine bif_e h (fun hc5 h => ?_) (fun hc5 h => ?_)
           ·
            refine w_condT hc5 rfl ?_
            refine w_draw (id := 19) 4 (by kernel_rfl) (by kernel_rfl) ?_
            refine h_op (a := .agg (Enc.cells (s3.2.2 : BS))) rfl rfl rfl rfl (by dsimp only [aput, List.set]) ?_
            refine h_op (a := .raw (.int .u8 (((x6).toNat : Nat) : Int))) rfl rfl rfl rfl (by dsimp only [aput, List.set]) ?_
            obtain ⟨g18, h⟩ := chk_e h
            refine h_op (a := .list (List.length (([(u8of (((x6).toNat : Nat) : Int))] : List UInt8) : List UInt8)) (Enc.cellsL (([(u8of (((x6).toNat : Nat) : Int))] : List UInt8) : List UInt8)) .full) rfl rfl rfl (q_lit (α := UInt8) (l := ([(u8of (((x6).toNat : Nat) : Int))] : List UInt8)) (cs := [.raw (.int .u8 (((x6).toNat : Nat) : Int))]) rfl (by show List.map _ _ = _; simp only [List.map_cons, List.map_nil, u8c g18])) (by dsimp only [aput, List.set]) ?_
            obtain ⟨g19, h⟩ := chk_e h
            obtain ⟨x9, hx9, h⟩ := letE_e h
            refine h_call (args' := [.list (List.length (([(u8of (((x6).toNat : Nat) : Int))] : List UInt8) : List UInt8)) (Enc.cellsL (([(u8of (((x6).toNat : Nat) : Int))] : List UInt8) : List UInt8)) .none]) (r := .agg (Enc.cells (x9 : BS))) (by rw [← hx9]; exact (k_of ([(u8of (((x6).toNat : Nat) : Int))] : List UInt8) g19)) rfl rfl rfl (stripL_cons (strip_l (Enc.cloL _)) rfl) (okTrimL_cons (okTrim_l (Enc.cloL _)) rfl) (by dsimp only [aput, List.set]) ?_
            refine h_end ?_
            obtain ⟨x10, hx10, h⟩ := letE_e h
            refine w_callc (args' := [.agg (Enc.cells (s3.2.2 : BS)), .agg (Enc.cells (x9 : BS))]) (r := .agg (Enc.cells (x10 : BS))) (by rw [← hx10]; exact (k_or s3.2.2 x9)) rfl rfl (stripL_cons (strip_c (clo_agg (Enc.clo _))) (stripL_cons (strip_c (clo_agg (Enc.clo _))) rfl)) (okTrimL_cons (okTrim_clo _ _ (clo_agg (Enc.clo _))) (okTrimL_cons (okTrim_clo _ _ (clo_agg (Enc.clo _))) rfl)) (by dsimp only [aput, List.set]) ?_
            refine w_opm (σ'' := ⟨[(24, (Enc.cells (j6 : BS))), (24, (Enc.cells (x10 : BS)))], [], [], 0, false⟩) rfl rfl rfl (op_storeW (n := 4) rfl rfl rfl rfl rfl rfl rfl rfl (by decide)) (by dsimp only [aput, List.set]) rfl ?_
            refine cut_done (o := or5) (j6, x10) h ?_
            exact wm_of [true, true, true, true, true, true, true, false, false, true, true, true, true, true, true, true, true, true, true, true, true, true, true, true, true, true, true, true, true, true, true, true, true, true, true, true, true, true, true, true, true, true, true, true, true, true, true, true, true, true, true, true, true, true, true, true, true, true, true, true, true, true, false, false, false, false, false, false, false, false, false, false, false, false, false, false, false, false, false, false, false, false, false, false, false, false, false, true, true, true, true, true, true, true, true, true, true, true, true, true, true, true, true, true, true, true, true, true, true, true, true, true, true, true, true, true, true, true, true, true, true, true, true, true, true, true, true, true, true, true, true, true, true, true, true, true, true, true, true, true, true, true, true, true, true, true, true] (by kernel_rfl) (by kernel_rfl)
           ·
            refine w_condF hc5 rfl ?_
            refine cut_done (o := or5) (j6, s3.2.2) h ?_
            exact wm_of [true, true, true, true, true, true, true, false, false, true, true, true, true, true, true, true, true, true, true, true, true, true, true, true, true, true, true, true, true, true, true, true, true, true, true, true, true, true, true, true, true, true, true, true, true, true, true, true, true, true, true, true, true, true, true, true, true, true, true, true, true, true, false, false, false, false, false, false, false, false, false, false, false, false, false, false, false, false, false, false, false, false, false, false, false, false, false, true, true, true, true, true, true, true, true, true, true, true, true, true, true, true, true, true, true, true, true, true, true, true, true, true, true, true, true, true, true, true, true, true, true, true, true, true, true, true, true, true, true, true, true, true, true, true, true, true, true, true, true, true, true, true, true, true, true, true, true] (by kernel_rfl) (by kernel_rfl)
         ·
          intro j5 h
          refine w_start (by dsimp only [setAll, topAll, List.foldl, List.set]) rfl ?_
          refine w_region (id := 20) ?_
          obtain ⟨g20, h⟩ := chk_e h
          refine w_op (a := .raw (.int .i64 (s3.1 + 1))) rfl rfl rfl (op_q (q_add rfl rfl rfl rfl g20.1 g20.2)) (by dsimp only [aput, List.set]) ?_
          refine w_op (a := .raw (.int .i64 (s3.1 + 1))) rfl rfl rfl rfl (by dsimp only [aput, List.set]) ?_
          refine loop_next (p := p3) ((s3.1 + 1), j5.1, j5.2) h ?_
          exact wm_of [true, true, true, true, true, true, true, false, false, true, true, true, true, true, true, true, true, true, true, true, true, true, true, true, true, true, true, true, true, true, true, true, true, true, true, true, true, true, true, true, true, true, true, true, true, true, true, true, true, true, true, true, true, true, true, true, true, false, false, true, true, true, false, false, false, false, false, false, false, false, false, false, false, false, false, false, false, false, false, false, false, false, false, false, false, false, false, false, true, true, true, true, true, true, true, true, true, true, true, true, true, true, true, true, true, true, true, true, true, true, true, true, true, true, true, true, true, true, true, true, true, true, true, true, true, true, true, true, true, true, true, true, true, true, true, true, true, true, true, true, true, true, true, true, true, true, true] (by kernel_rfl) (by kernel_rfl)
        ·
         refine w_condF hc3 rfl ?_
         refine loop_exit h (fun h => ?_)
         refine cut_done (o := or4) (s3.2.1, s3.2.2) h ?_
         exact wm_of [true, true, true, true, true, true, true, false, false, true, true, true, true, true, true, true, true, true, true, true, true, true, true, true, true, true, true, true, true, true, true, true, true, true, true, true, true, true, true, true, true, true, true, true, true, true, true, true, true, true, true, true, true, true, true, true, true, false, false, false, false, false, false, false, false, false, false, false, false, false, false, false, false, false, false, false, false, false, false, false, false, false, false, false, false, false, false, false, true, true, true, true, true, true, true, true, true, true, true, true, true, true, true, true, true, true, true, true, true, true, true, true, true, true, true, true, true, true, true, true, true, true, true, true, true, true, true, true, true, true, true, true, true, true, true, true, true, true, true, true, true, true, true, true, true, true, true] (by kernel_rfl) (by kernel_rfl)
      ·
       intro j4 h
       refine w_start (by dsimp only [setAll, topAll, List.foldl, List.set]) rfl ?_
       refine w_seq ?_
       refine w_draw (id := 21) 32 (by kernel_rfl) (by kernel_rfl) ?_
       refine h_op (a := .agg (Enc.cells (j4.1 : BS))) rfl rfl rfl rfl (by dsimp only [aput, List.set]) ?_
       refine h_op (a := .agg (Enc.cells (j4.2 : BS))) rfl rfl rfl rfl (by dsimp only [aput, List.set]) ?_
       refine h_op (a := .list (List.length (([0, 63, 64, 255] : List UInt8) : List UInt8)) (Enc.cellsL (([0, 63, 64, 255] : List UInt8) : List UInt8)) .full) rfl rfl rfl rfl (by dsimp only [aput, List.set]) ?_
       refine h_op (a := .raw (.int .i64 s2)) rfl rfl rfl rfl (by dsimp only [aput, List.set]) ?_
       refine h_op (a := .raw (.int .i64 (Int.tmod s2 4))) rfl rfl rfl rfl (by dsimp only [aput, List.set]) ?_
       obtain ⟨g21, h⟩ := chk_e h
       obtain ⟨x11, hx11, h⟩ := letE_e h
       refine h_op (a := .iptr (Enc.cells x11 ++ Enc.cellsL (List.drop (Int.toNat (Int.tmod s2 4) + 1) ([0, 63, 64, 255] : List UInt8)))) rfl rfl rfl (by rw [← hx11]; exact (q_idx (α := UInt8) (l := ([0, 63, 64, 255] : List UInt8)) g21 rfl rfl rfl rfl rfl)) (by dsimp only [aput, List.set]) ?_
       refine h_op (a := .raw (.int .u8 (((x11).toNat : Nat) : Int))) rfl rfl rfl rfl (by dsimp only [aput, List.set]) ?_
       refine h_op (a := .list (List.length (([0, 63, 64, 255] : List UInt8) : List UInt8)) (Enc.cellsL (([0, 63, 64, 255] : List UInt8) : List UInt8)) .full) rfl rfl rfl rfl (by dsimp only [aput, List.set]) ?_
       refine h_op (a := .raw (.int .i64 s2)) rfl rfl rfl rfl (by dsimp only [aput, List.set]) ?_
       refine h_op (a := .raw (.int .i64 (IntKind.i64.wrap (Int.tdiv s2 4)))) rfl rfl rfl rfl (by dsimp only [aput, List.set]) ?_
       refine h_op (a := .raw (.int .i64 (Int.tmod (IntKind.i64.wrap (Int.tdiv s2 4)) 4))) rfl rfl rfl rfl (by dsimp only [aput, List.set]) ?_
       obtain ⟨g22, h⟩ := chk_e h
       obtain ⟨x12, hx12, h⟩ := letE_e h
       refine h_op (a := .iptr (Enc.cells x12 ++ Enc.cellsL (List.drop (Int.toNat (Int.tmod (IntKind.i64.wrap (Int.tdiv s2 4)) 4) + 1) ([0, 63, 64, 255] : List UInt8)))) rfl rfl rfl (by rw [← hx12]; exact (q_idx (α := UInt8) (l := ([0, 63, 64, 255] : List UInt8)) g22 rfl rfl rfl rfl rfl)) (by dsimp only [aput, List.set]) ?_
       refine h_op (a := .raw (.int .u8 (((x12).toNat : Nat) : Int))) rfl rfl rfl rfl (by dsimp only [aput, List.set]) ?_
       obtain ⟨g23, h⟩ := chk_e h
       refine h_call (args' := [.agg (Enc.cells (j4.1 : BS)), .agg (Enc.cells (j4.2 : BS)), .raw (.int .u8 (((x11).toNat : Nat) : Int)), .raw (.int .u8 (((x12).toNat : Nat) : Int))]) (r := .raw (.bool true)) (k_tells j4.1 j4.2 (((x11).toNat : Nat) : Int) (((x12).toNat : Nat) : Int) g23) rfl rfl rfl (stripL_cons (strip_c (clo_agg (Enc.clo _))) (stripL_cons (strip_c (clo_agg (Enc.clo _))) (stripL_cons rfl (stripL_cons rfl rfl)))) (okTrimL_cons (okTrim_clo _ _ (clo_agg (Enc.clo _))) (okTrimL_cons (okTrim_clo _ _ (clo_agg (Enc.clo _))) (okTrimL_cons rfl (okTrimL_cons rfl rfl)))) (by dsimp only [aput, List.set]) ?_
       refine h_op (a := .raw (.bool false)) rfl rfl rfl rfl (by dsimp only [aput, List.set]) ?_
       refine h_op (a := .raw (.bool false)) rfl rfl rfl rfl (by dsimp only [aput, List.set]) ?_
       refine h_met rfl rfl ?_
       refine h_op (a := .agg (Enc.cells (j4.1 : BS))) rfl rfl rfl rfl (by dsimp only [aput, List.set]) ?_
       refine h_met rfl rfl ?_
       obtain ⟨x13, hx13, h⟩ := letE_e h
       refine h_call (args' := [.agg (Enc.cells (j4.1 : BS))]) (r := .agg (Enc.cells (x13 : BS))) (by rw [← hx13]; exact (k_not j4.1)) rfl rfl rfl (stripL_cons (strip_c (clo_agg (Enc.clo _))) rfl) (okTrimL_cons (okTrim_clo _ _ (clo_agg (Enc.clo _))) rfl) (by dsimp only [aput, List.set]) ?_
       refine h_met rfl rfl ?_
       refine h_op (a := .agg (Enc.cells (j4.2 : BS))) rfl rfl rfl rfl (by dsimp only [aput, List.set]) ?_
       refine h_met rfl rfl ?_
       refine h_op (a := .list (List.length (([0, 63, 64, 255] : List UInt8) : List UInt8)) (Enc.cellsL (([0, 63, 64, 255] : List UInt8) : List UInt8)) .full) rfl rfl rfl rfl (by dsimp only [aput, List.set]) ?_
       refine h_met rfl rfl ?_
       refine h_op (a := .raw (.int .i64 s2)) rfl rfl rfl rfl (by dsimp only [aput, List.set]) ?_
       refine h_met rfl rfl ?_
       refine h_op (a := .raw (.int .i64 (Int.tmod s2 4))) rfl rfl rfl rfl (by dsimp only [aput, List.set]) ?_
       refine h_met rfl rfl ?_
       obtain ⟨g24, h⟩ := chk_e h
       obtain ⟨x14, hx14, h⟩ := letE_e h
       refine h_op (a := .iptr (Enc.cells x14 ++ Enc.cellsL (List.drop (Int.toNat (Int.tmod s2 4) + 1) ([0, 63, 64, 255] : List UInt8)))) rfl rfl rfl (by rw [← hx14]; exact (q_idx (α := UInt8) (l := ([0, 63, 64, 255] : List UInt8)) g24 rfl rfl rfl rfl rfl)) (by dsimp only [aput, List.set]) ?_
       refine h_met rfl rfl ?_
       refine h_op (a := .raw (.int .u8 (((x14).toNat : Nat) : Int))) rfl rfl rfl rfl (by dsimp only [aput, List.set]) ?_
       refine h_met rfl rfl ?_
       obtain ⟨g25, h⟩ := chk_e h
       refine h_call (args' := [.agg (Enc.cells (x13 : BS)), .agg (Enc.cells (j4.2 : BS)), .raw (.int .u8 (((x14).toNat : Nat) : Int)), .raw (.int .u8 127)]) (r := .raw (.bool true)) (k_tells x13 j4.2 (((x14).toNat : Nat) : Int) 127 g25) rfl rfl rfl (stripL_cons (strip_c (clo_agg (Enc.clo _))) (stripL_cons (strip_c (clo_agg (Enc.clo _))) (stripL_cons rfl (stripL_cons rfl rfl)))) (okTrimL_cons (okTrim_clo _ _ (clo_agg (Enc.clo _))) (okTrimL_cons (okTrim_clo _ _ (clo_agg (Enc.clo _))) (okTrimL_cons rfl (okTrimL_cons rfl rfl)))) (by dsimp only [aput, List.set]) ?_
       refine h_met rfl rfl ?_
       refine h_op (a := .raw (.bool false)) rfl rfl rfl rfl (by dsimp only [aput, List.set]) ?_
       refine h_op (a := .raw (.bool false)) rfl rfl rfl rfl (by dsimp only [aput, List.set]) ?_
       refine h_op (a := .raw (.bool false)) rfl rfl rfl rfl (by dsimp only [aput, List.set]) ?_
       refine h_met rfl rfl ?_
       refine h_op (a := .agg (Enc.cells (j4.1 : BS))) rfl rfl rfl rfl (by dsimp only [aput, List.set]) ?_
       refine h_met rfl rfl ?_
       refine h_op (a := .agg (Enc.cells (j4.2 : BS))) rfl rfl rfl rfl (by dsimp only [aput, List.set]) ?_
       refine h_met rfl rfl ?_
       refine h_op (a := .agg (Enc.cells (j4.1 : BS))) rfl rfl rfl rfl (by dsimp only [aput, List.set]) ?_
       refine h_met rfl rfl ?_
       obtain ⟨x15, hx15, h⟩ := letE_e h
       refine h_call (args' := [.agg (Enc.cells (j4.1 : BS))]) (r := .agg (Enc.cells (x15 : BS))) (by rw [← hx15]; exact (k_not j4.1)) rfl rfl rfl (stripL_cons (strip_c (clo_agg (Enc.clo _))) rfl) (okTrimL_cons (okTrim_clo _ _ (clo_agg (Enc.clo _))) rfl) (by dsimp only [aput, List.set]) ?_
       refine h_end ?_
       refine w_met rfl rfl ?_
       refine w_op (a := .list (List.length ([j4.1, j4.2, x15] : List BS)) (Enc.cellsL ([j4.1, j4.2, x15] : List BS)) .full) rfl rfl rfl (op_q (q_lit (α := BS) (l := [j4.1, j4.2, x15]) (cs := Enc.cells (j4.1 : BS) ++ (Enc.cells (j4.2 : BS) ++ (Enc.cells (x15 : BS) ++ []))) (by kernel_rfl) (by rw [Enc.cons, Enc.cons, Enc.cons, Enc.nil]))) (by dsimp only [aput, List.set]) ?_
       refine w_met rfl rfl ?_
       refine w_callc (args' := [.list 0 [] .none, .list (List.length ([j4.1, j4.2, x15] : List BS)) (Enc.cellsL ([j4.1, j4.2, x15] : List BS)) .none]) (r := .raw (.bool true)) (k_lists ([] : List Sp) [j4.1, j4.2, x15]) rfl rfl (stripL_cons rfl (stripL_cons (strip_l (Enc.cloL _)) rfl)) (okTrimL_cons rfl (okTrimL_cons (okTrim_l (Enc.cloL _)) rfl)) (by dsimp only [aput, List.set]) ?_
       refine w_met rfl rfl ?_
       refine w_op (a := .raw (.bool false)) rfl rfl rfl rfl (by dsimp only [aput, List.set]) ?_
       refine w_op (a := .raw (.bool false)) rfl rfl rfl rfl (by dsimp only [aput, List.set]) ?_
       refine w_false rfl ?_
       refine cut_done (o := or3) () h ?_
       exact wm_trim [false, true, true, true, false, false, false, false, false, true, true, true, true, true, true, true, true, true, true, true, true, true, true, true, true, true, true, true, true, true, true, true, true, true, true, true, true, true, true, true, true, true, true, true, true, true, true, true, true, true, true, true, true, true, true, true, true, false, false, false, false, false, false, false, false, false, false, false, false, false, false, false, false, false, false, false, false, false, false, false, false, false, false, false, false, false, false, false, false, false, false, false, false, false, false, false, false, false, false, false, false, false, false, false, false, false, false, false, false, false, false, false, false, false, false, false, false, false, false, false, false, false, false, false, true, true, true, true, true, true, true, true, true, true, true, true, true, true, true, true, true, true, true, true, true, true, true] 0 (by kernel_rfl) (Nat.le_of_ble_eq_true rfl) (okSt_of rfl) (by dsimp only [setAll, topAll, List.foldl, List.set]; exact (okTrimL_cons rfl (okTrimL_cons rfl (okTrimL_cons rfl (okTrimL_cons (okTrim_l (Enc.cloL _)) (okTrimL_cons rfl (okTrimL_cons rfl (okTrimL_cons rfl (okTrimL_cons rfl (okTrimL_cons rfl (okTrimL_cons rfl (okTrimL_cons rfl (okTrimL_cons rfl (okTrimL_cons rfl (okTrimL_cons rfl (okTrimL_cons rfl (okTrimL_cons rfl (okTrimL_cons rfl (okTrimL_cons rfl (okTrimL_cons rfl (okTrimL_cons rfl (okTrimL_cons rfl (okTrimL_cons rfl (okTrimL_cons rfl (okTrimL_cons rfl (okTrimL_cons rfl (okTrimL_cons rfl (okTrimL_cons rfl (okTrimL_cons rfl (okTrimL_cons rfl (okTrimL_cons rfl (okTrimL_cons rfl (okTrimL_cons rfl (okTrimL_cons rfl (okTrimL_cons rfl (okTrimL_cons rfl (okTrimL_cons rfl (okTrimL_cons rfl (okTrimL_cons rfl (okTrimL_cons rfl (okTrimL_cons rfl (okTrimL_cons rfl (okTrimL_cons rfl (okTrimL_cons rfl (okTrimL_cons rfl (okTrimL_cons rfl (okTrimL_cons rfl (okTrimL_cons rfl (okTrimL_cons rfl (okTrimL_cons rfl (okTrimL_cons rfl (okTrimL_cons rfl (okTrimL_cons rfl (okTrimL_cons rfl (okTrimL_cons rfl (okTrimL_cons rfl (okTrimL_cons rfl (okTrimL_cons rfl (okTrimL_cons rfl (okTrimL_cons rfl (okTrimL_cons rfl (okTrimL_cons rfl (okTrimL_cons rfl (okTrimL_cons rfl (okTrimL_cons rfl (okTrimL_cons rfl (okTrimL_cons rfl (okTrimL_cons rfl (okTrimL_cons rfl (okTrimL_cons rfl (okTrimL_cons rfl (okTrimL_cons rfl (okTrimL_cons rfl (okTrimL_cons rfl (okTrimL_cons rfl (okTrimL_cons rfl (okTrimL_cons rfl (okTrimL_cons rfl (okTrimL_cons rfl (okTrimL_cons rfl (okTrimL_cons rfl (okTrimL_cons rfl (okTrimL_cons rfl (okTrimL_cons rfl (okTrimL_cons rfl (okTrimL_cons rfl (okTrimL_cons rfl (okTrimL_cons rfl (okTrimL_cons rfl (okTrimL_cons rfl (okTrimL_cons rfl (okTrimL_cons rfl (okTrimL_cons rfl (okTrimL_cons rfl (okTrimL_cons rfl (okTrimL_cons rfl (okTrimL_cons rfl (okTrimL_cons rfl (okTrimL_cons rfl (okTrimL_cons rfl (okTrimL_cons rfl (okTrimL_cons rfl (okTrimL_cons rfl (okTrimL_cons rfl (okTrimL_cons rfl (okTrimL_cons rfl (okTrimL_cons rfl (okTrimL_cons rfl (okTrimL_cons rfl (okTrimL_cons rfl (okTrimL_cons rfl (okTrimL_cons rfl (okTrimL_cons rfl (okTrimL_cons rfl (okTrimL_cons rfl (okTrimL_cons rfl (okTrimL_cons rfl (okTrimL_cons rfl (okTrimL_cons rfl (okTrimL_cons rfl (okTrimL_cons rfl (okTrimL_cons rfl (okTrimL_cons rfl (okTrimL_cons rfl (okTrimL_cons rfl (okTrimL_cons rfl (okTrimL_cons rfl (okTrimL_cons rfl (okTrimL_cons rfl (okTrimL_cons rfl (okTrimL_cons rfl (okTrimL_cons rfl (okTrimL_cons rfl (okTrimL_cons rfl (okTrimL_cons rfl (okTrimL_cons rfl (okTrimL_cons rfl (okTrimL_cons rfl (okTrimL_cons rfl (okTrimL_cons rfl (okTrimL_cons rfl (okTrimL_cons rfl (okTrimL_cons rfl (okTrimL_cons rfl (okTrimL_cons rfl (okTrimL_cons rfl (okTrimL_cons rfl (okTrimL_cons rfl rfl)))))))))))))))))))))))))))))))))))))))))))))))))))))))))))))))))))))))))))))))))))))))))))))))))))))))))))))))))))))))))))))))))))))))))))))))))))) (by kernel_rfl)
     ·
      intro j3 h
      refine w_start (by dsimp only [setAll, topAll, List.foldl, List.set]) rfl ?_
      refine w_region (id := 23) ?_
      obtain ⟨g26, h⟩ := chk_e h
      refine w_op (a := .raw (.int .i64 (s2 + 1))) rfl rfl rfl (op_q (q_add rfl rfl rfl rfl g26.1 g26.2)) (by dsimp only [aput, List.set]) ?_
      refine w_op (a := .raw (.int .i64 (s2 + 1))) rfl rfl rfl rfl (by dsimp only [aput, List.set]) ?_
      refine loop_next (p := p2) ((s2 + 1)) h ?_
      exact wm_of [false, true, true, true, false, false, false, false, false, true, true, true, true, true, true, true, true, true, true, true, true, true, true, true, true, true, true, true, true, true, true, true, true, true, true, true, true, true, true, true, true, true, true, true, true, true, true, true, true, true, true, true, true, true, true, false, true, false, false, false, false, false, false, false, false, false, false, false, false, false, false, false, false, false, false, false, false, false, false, false, false, false, false, false, false, false, false, false, false, false, false, false, false, false, false, false, false, false, false, false, false, false, false, false, false, false, false, false, false, false, false, false, false, false, false, false, false, false, false, false, false, false, false, false, false, true, true, true, true, true, true, true, true, true, true, true, true, true, true, true, true, true, true, true, true, true, true] (by kernel_rfl) (by kernel_rfl)
    ·
     refine w_condF hc2 rfl ?_
     refine loop_exit h (fun h => ?_)
     refine cut_done (o := or2) () h ?_
     exact wm_of [false, true, true, false, false, false, false, false, false, true, true, true, true, true, true, true, true, true, true, true, true, true, true, true, true, true, true, true, true, true, true, true, true, true, true, true, true, true, true, true, true, true, true, true, true, true, true, true, true, true, true, true, true, true, true, false, false, false, false, false, false, false, false, false, false, false, false, false, false, false, false, false, false, false, false, false, false, false, false, false, false, false, false, false, false, false, false, false, false, false, false, false, false, false, false, false, false, false, false, false, false, false, false, false, false, false, false, false, false, false, false, false, false, false, false, false, false, false, false, false, false, false, false, false, false, true, true, true, true, true, true, true, true, true, true, true, true, true, true, true, true, true, true, true, true, true, true] (by kernel_rfl) (by kernel_rfl)
  ·
   intro j2 h
   refine w_start (by dsimp only [setAll, topAll, List.foldl, List.set]) rfl ?_
   refine w_seq (w_region ?_)
   refine w_op (a := .agg (Enc.cells (0#256 : BS))) rfl rfl rfl rfl (by dsimp only [aput, List.set]) ?_
   obtain ⟨x16, hx16, h⟩ := letE_e h
   refine w_callc (args' := []) (r := .agg (Enc.cells (x16 : BS))) (by rw [← hx16]; exact k_all) rfl rfl rfl rfl (by dsimp only [aput, List.set]) ?_
   obtain ⟨g27, h⟩ := chk_e h
   refine w_callc (args' := [.agg (Enc.cells (0#256 : BS)), .agg (Enc.cells (x16 : BS)), .raw (.int .u8 0), .raw (.int .u8 255)]) (r := .raw (.bool true)) (k_tells (0#256) x16 0 255 g27) rfl rfl (stripL_cons (strip_c (clo_agg (Enc.clo _))) (stripL_cons (strip_c (clo_agg (Enc.clo _))) (stripL_cons rfl (stripL_cons rfl rfl)))) (okTrimL_cons (okTrim_clo _ _ (clo_agg (Enc.clo _))) (okTrimL_cons (okTrim_clo _ _ (clo_agg (Enc.clo _))) (okTrimL_cons rfl (okTrimL_cons rfl rfl)))) (by dsimp only [aput, List.set]) ?_
   refine w_op (a := .raw (.bool true)) rfl rfl rfl rfl (by dsimp only [aput, List.set]) ?_
   refine w_met rfl rfl ?_
   obtain ⟨x17, hx17, h⟩ := letE_e h
   refine w_callc (args' := []) (r := .agg (Enc.cells (x17 : BS))) (by rw [← hx17]; exact k_all) rfl rfl rfl rfl (by dsimp only [aput, List.set]) ?_
   refine w_met rfl rfl ?_
   refine w_op (a := .agg (Enc.cells (0#256 : BS))) rfl rfl rfl rfl (by dsimp only [aput, List.set]) ?_
   refine w_met rfl rfl ?_
   obtain ⟨g28, h⟩ := chk_e h
   refine w_callc (args' := [.agg (Enc.cells (x17 : BS)), .agg (Enc.cells (0#256 : BS)), .raw (.int .u8 255), .raw (.int .u8 0)]) (r := .raw (.bool true)) (k_tells x17 (0#256) 255 0 g28) rfl rfl (stripL_cons (strip_c (clo_agg (Enc.clo _))) (stripL_cons (strip_c (clo_agg (Enc.clo _))) (stripL_cons rfl (stripL_cons rfl rfl)))) (okTrimL_cons (okTrim_clo _ _ (clo_agg (Enc.clo _))) (okTrimL_cons (okTrim_clo _ _ (clo_agg (Enc.clo _))) (okTrimL_cons rfl (okTrimL_cons rfl rfl)))) (by dsimp only [aput, List.set]) ?_
   refine w_op (a := .raw (.bool true)) rfl rfl rfl rfl (by dsimp only [aput, List.set]) ?_
   refine w_op (a := .raw (.bool true)) rfl rfl rfl rfl (by dsimp only [aput, List.set]) ?_
   refine w_met rfl rfl ?_
   refine w_callc (args' := [.list 0 [] .none, .list 0 [] .none]) (r := .raw (.bool true)) (k_lists ([] : List Sp) ([] : List BS)) rfl rfl (stripL_cons rfl (stripL_cons rfl rfl)) (okTrimL_cons rfl (okTrimL_cons rfl rfl)) (by dsimp only [aput, List.set]) ?_
   refine w_op (a := .raw (.bool true)) rfl rfl rfl rfl (by dsimp only [aput, List.set]) ?_
   refine w_op (a := .raw (.bool true)) rfl rfl rfl rfl (by dsimp only [aput, List.set]) ?_
   refine w_met rfl rfl ?_
   refine w_op (a := .agg (Enc.cells ((5, 4) : Sp))) rfl rfl rfl rfl (by dsimp only [aput, List.set]) ?_
   refine w_met rfl rfl ?_
   refine w_op (a := .list (List.length ([(5, 4)] : List Sp)) (Enc.cellsL ([(5, 4)] : List Sp)) .full) rfl rfl rfl (op_q (q_lit (α := Sp) (l := [(5, 4)]) (cs := Enc.cells ((5, 4) : Sp) ++ []) rfl (by rw [Enc.cons, Enc.nil]))) (by dsimp only [aput, List.set]) ?_
   refine w_met rfl rfl ?_
   refine w_op (a := .agg (Enc.cells (0#256 : BS))) rfl rfl rfl rfl (by dsimp only [aput, List.set]) ?_
   refine w_met rfl rfl ?_
   obtain ⟨x18, hx18, h⟩ := letE_e h
   refine w_callc (args' := []) (r := .agg (Enc.cells (x18 : BS))) (by rw [← hx18]; exact k_all) rfl rfl rfl rfl (by dsimp only [aput, List.set]) ?_
   refine w_met rfl rfl ?_
   refine w_op (a := .list (List.length ([0#256, x18] : List BS)) (Enc.cellsL ([0#256, x18] : List BS)) .full) rfl rfl rfl (op_q (q_lit (α := BS) (l := [0#256, x18]) (cs := Enc.cells (0#256 : BS) ++ (Enc.cells (x18 : BS) ++ [])) rfl (by rw [Enc.cons, Enc.cons, Enc.nil]))) (by dsimp only [aput, List.set]) ?_
   refine w_met rfl rfl ?_
   refine w_callc (args' := [.list (List.length ([(5, 4)] : List Sp)) (Enc.cellsL ([(5, 4)] : List Sp)) .none, .list (List.length ([0#256, x18] : List BS)) (Enc.cellsL ([0#256, x18] : List BS)) .none]) (r := .raw (.bool true)) (k_lists [(5, 4)] [0#256, x18]) rfl rfl (stripL_cons (strip_l (Enc.cloL _)) (stripL_cons (strip_l (Enc.cloL _)) rfl)) (okTrimL_cons (okTrim_l (Enc.cloL _)) (okTrimL_cons (okTrim_l (Enc.cloL _)) rfl)) (by dsimp only [aput, List.set]) ?_
   refine w_op (a := .raw (.bool true)) rfl rfl rfl rfl (by dsimp only [aput, List.set]) ?_
   refine w_op (a := .raw (.bool true)) rfl rfl rfl rfl (by dsimp only [aput, List.set]) ?_
   refine w_met rfl rfl ?_
   refine w_callc (args' := []) (r := .raw (.bool true)) k_awake rfl rfl rfl rfl (by dsimp only [aput, List.set]) ?_
   refine w_op (a := .raw (.bool true)) rfl rfl rfl rfl (by dsimp only [aput, List.set]) ?_
   refine w_op (a := .raw (.bool true)) rfl rfl rfl rfl (by dsimp only [aput, List.set]) ?_
   exact end_pureF (fun (r : Bool) => (.raw (.bool r) : AV)) h (a := .raw (.bool true)) rfl rfl rfl
end Go.Ab
set_option linter.unusedSimpArgs false
set_option linter.unusedVariables false
namespace Go.Ab
open Go Go.RowKit Go.Fwd Go.Proofs Go.Proofs.Ytjmhbbbpjbgmjaa
/-- A loop by an invariant. -/
theorem loop_ex {β ρ : Type} {body : β → Option (β ⊕ ρ)} (T : Nat → β → Prop) (Q : ρ → Prop) (N : Nat) (hs : ∀ i s, i < N → T i s → ∃ s', body s = some (.inl s') ∧ T (i + 1) s') (he : ∀ s, T N s → ∃ o, body s = some (.inr o) ∧ Q o) {n : Nat} (hn : N < n) {s0 : β} (h0 : T 0 s0) : ∃ o, loopE body n s0 = some o ∧ Q o := by
  suffices ∀ k i n s, i + k = N → k < n → T i s → ∃ o, loopE body n s = some o ∧ Q o from this N 0 n s0 (by omega) hn h0
  intro k
  induction k with
  | zero =>
    intro i n s hi hk ht
    obtain rfl : i = N := by omega
    match n, hk with
    | n + 1, _ =>
      obtain ⟨o, h1, h2⟩ := he s ht
      exact ⟨o, by rw [loopE, h1], h2⟩
  | succ k ih =>
    intro i n s hi hk ht
    match n, hk with
    | n + 1, hk =>
      obtain ⟨s', h1, h2⟩ := hs i s (by omega) ht
      rw [loopE, h1]
      exact ih (i + 1) n s' (by omega) (by omega) h2
theorem u8_rng (x : Int) : 0 ≤ IntKind.u8.wrap x ∧ IntKind.u8.wrap x < 256 := by
  simp only [IntKind.wrap, IntKind.bits, IntKind.signed]
  simp; omega
theorem u8_nat (x : UInt8) : 0 ≤ ((x.toNat : Nat) : Int) ∧ ((x.toNat : Nat) : Int) < 256 := by have := x.toNat_lt; omega
theorem small_eq : F_setssmall 300 = some true := by
  unfold F_setssmall
  refine cutE_i () (loopE_i 256 (fun i => (i : Int)) rfl (fun i hi => ?_) ?_ (by decide)) ?_
  · have h8 := u8_rng (i : Int)
    have h9 := u8_rng (255 - (i : Int))
    refine bif_t (by simp; omega) ?_
    repeat (first | with_reducible apply letE_s | (with_reducible apply chk_i; · first | omega | simp))
    rfl
  · exact bif_f (by simp) rfl
  refine cutE_i () (loopE_i 256 (fun i => (i : Int)) rfl (fun n hn => ?_) ?_ (by decide)) ?_
  · refine bif_t (by simp; omega) (cutE_i () ?_ (chk_i (by omega) rfl))
    have ht : ∀ m : Nat, (Int.tmod (m : Int) 4) = ((m % 4 : Nat) : Int) := fun m => rfl
    have hq : IntKind.i64.wrap (Int.tdiv (n : Int) 4) = ((n / 4 : Nat) : Int) := by
      rw [show Int.tdiv (n : Int) 4 = ((n / 4 : Nat) : Int) from rfl]; exact i64_wrap (by omega)
    simp only [hq, ht]
    have loop : ∃ j4, loopE (β := Int × BS × BS) (ρ := (BS × BS) ⊕ (Unit ⊕ (Int ⊕ (Unit ⊕ Bool)))) (fun s3 => (bif (decide (s3.1 < (List.length ([0, 63, 64, 255] : List UInt8) : Int))) then (cutE (τ := BS × BS) (chk (0 ≤ s3.1 ∧ s3.1 < (List.length ([0, 63, 64, 255] : List UInt8) : Int)) (letE (ix ([0, 63, 64, 255] : List UInt8) s3.1) (fun x6 => (cutE (τ := BS) (chk (0 ≤ s3.1) (bif ((andI .i64 (shrI .i64 (n : Int) s3.1) 1) == 1) then (chk (0 ≤ (((x6).toNat : Nat) : Int) ∧ (((x6).toNat : Nat) : Int) < 256) (chk (0 < (([(u8of (((x6).toNat : Nat) : Int))] : List UInt8) : List UInt8).length ∧ (([(u8of (((x6).toNat : Nat) : Int))] : List UInt8) : List UInt8).length ≤ 1099511627776) (letE (ofS ((([(u8of (((x6).toNat : Nat) : Int))] : List UInt8) : List UInt8).map UInt8.toNat)) (fun x7 => (letE (s3.2.1 ||| x7) (fun x8 => (some (Sum.inl (x8))))))))) else (some (Sum.inl (s3.2.1))))) (fun j6 => (chk (-9223372036854775808 ≤ (4 + s3.1) ∧ (4 + s3.1) < 9223372036854775808) (chk (0 ≤ (4 + s3.1)) (bif ((andI .i64 (shrI .i64 (n : Int) (4 + s3.1)) 1) == 1) then (chk (0 ≤ (((x6).toNat : Nat) : Int) ∧ (((x6).toNat : Nat) : Int) < 256) (chk (0 < (([(u8of (((x6).toNat : Nat) : Int))] : List UInt8) : List UInt8).length ∧ (([(u8of (((x6).toNat : Nat) : Int))] : List UInt8) : List UInt8).length ≤ 1099511627776) (letE (ofS ((([(u8of (((x6).toNat : Nat) : Int))] : List UInt8) : List UInt8).map UInt8.toNat)) (fun x9 => (letE (s3.2.2 ||| x9) (fun x10 => (some (Sum.inl (j6, x10))))))))) else (some (Sum.inl (j6, s3.2.2))))))))))) (fun j5 => (chk (-9223372036854775808 ≤ (s3.1 + 1) ∧ (s3.1 + 1) < 9223372036854775808) (some (Sum.inl ((s3.1 + 1), j5.1, j5.2)))))) else (some (Sum.inr (Sum.inl (s3.2.1, s3.2.2)))))) 300 (0, 0#256, 0#256) = some (Sum.inl j4) := by
      have hx : ∀ k m : Int, 0 ≤ k → shrI .i64 m k = shrI .i64 m k := fun _ _ _ => rfl
      have step : ∀ (i : Nat) (s : BS × BS), i < 4 → ∃ s' : BS × BS, (fun s3 => (bif (decide (s3.1 < (List.length ([0, 63, 64, 255] : List UInt8) : Int))) then (cutE (τ := BS × BS) (chk (0 ≤ s3.1 ∧ s3.1 < (List.length ([0, 63, 64, 255] : List UInt8) : Int)) (letE (ix ([0, 63, 64, 255] : List UInt8) s3.1) (fun x6 => (cutE (τ := BS) (chk (0 ≤ s3.1) (bif ((andI .i64 (shrI .i64 (n : Int) s3.1) 1) == 1) then (chk (0 ≤ (((x6).toNat : Nat) : Int) ∧ (((x6).toNat : Nat) : Int) < 256) (chk (0 < (([(u8of (((x6).toNat : Nat) : Int))] : List UInt8) : List UInt8).length ∧ (([(u8of (((x6).toNat : Nat) : Int))] : List UInt8) : List UInt8).length ≤ 1099511627776) (letE (ofS ((([(u8of (((x6).toNat : Nat) : Int))] : List UInt8) : List UInt8).map UInt8.toNat)) (fun x7 => (letE (s3.2.1 ||| x7) (fun x8 => (some (Sum.inl (x8))))))))) else (some (Sum.inl (s3.2.1))))) (fun j6 => (chk (-9223372036854775808 ≤ (4 + s3.1) ∧ (4 + s3.1) < 9223372036854775808) (chk (0 ≤ (4 + s3.1)) (bif ((andI .i64 (shrI .i64 (n : Int) (4 + s3.1)) 1) == 1) then (chk (0 ≤ (((x6).toNat : Nat) : Int) ∧ (((x6).toNat : Nat) : Int) < 256) (chk (0 < (([(u8of (((x6).toNat : Nat) : Int))] : List UInt8) : List UInt8).length ∧ (([(u8of (((x6).toNat : Nat) : Int))] : List UInt8) : List UInt8).length ≤ 1099511627776) (letE (ofS ((([(u8of (((x6).toNat : Nat) : Int))] : List UInt8) : List UInt8).map UInt8.toNat)) (fun x9 => (letE (s3.2.2 ||| x9) (fun x10 => (some (Sum.inl (j6, x10))))))))) else (some (Sum.inl (j6, s3.2.2))))))))))) (fun j5 => (chk (-9223372036854775808 ≤ (s3.1 + 1) ∧ (s3.1 + 1) < 9223372036854775808) (some (Sum.inl ((s3.1 + 1), j5.1, j5.2)))))) else (some (Sum.inr (Sum.inl (s3.2.1, s3.2.2)))))) ((i : Int), s) = (some (Sum.inl (((i + 1 : Nat) : Int), s')) : Option ((Int × BS × BS) ⊕ ((BS × BS) ⊕ (Unit ⊕ (Int ⊕ (Unit ⊕ Bool)))))) := by
        intro i s hi
        obtain ⟨s1, s2⟩ := s
        have hu := u8_nat (ix ([0, 63, 64, 255] : List UInt8) (i : Int))
        by_cases c1 : (andI .i64 (shrI .i64 (n : Int) (i : Int)) 1 == 1) = true <;> by_cases c2 : (andI .i64 (shrI .i64 (n : Int) (4 + (i : Int))) 1 == 1) = true
        · refine ⟨((s1 ||| ofS (([(u8of ((((ix ([0, 63, 64, 255] : List UInt8) (i : Int))).toNat : Nat) : Int))] : List UInt8).map UInt8.toNat)), (s2 ||| ofS (([(u8of ((((ix ([0, 63, 64, 255] : List UInt8) (i : Int))).toNat : Nat) : Int))] : List UInt8).map UInt8.toNat))), bif_t (by simp; omega) (cutE_i ((s1 ||| ofS (([(u8of ((((ix ([0, 63, 64, 255] : List UInt8) (i : Int))).toNat : Nat) : Int))] : List UInt8).map UInt8.toNat)), (s2 ||| ofS (([(u8of ((((ix ([0, 63, 64, 255] : List UInt8) (i : Int))).toNat : Nat) : Int))] : List UInt8).map UInt8.toNat))) ?_ ?_)⟩
          · refine chk_i (by simp; omega) (letE_s (cutE_i (s1 ||| ofS (([(u8of ((((ix ([0, 63, 64, 255] : List UInt8) (i : Int))).toNat : Nat) : Int))] : List UInt8).map UInt8.toNat)) ?_ ?_))
            · refine chk_i (by simp only; omega) (bif_t c1 ?_)
              repeat (first | with_reducible apply letE_s | (with_reducible apply chk_i; · first | omega | simp))
              rfl
            · refine chk_i (by simp only; omega) (chk_i (by simp only; omega) (bif_t c2 ?_))
              repeat (first | with_reducible apply letE_s | (with_reducible apply chk_i; · first | omega | simp))
              rfl
          · refine chk_i (by simp only; omega) rfl
        · refine ⟨((s1 ||| ofS (([(u8of ((((ix ([0, 63, 64, 255] : List UInt8) (i : Int))).toNat : Nat) : Int))] : List UInt8).map UInt8.toNat)), s2), bif_t (by simp; omega) (cutE_i ((s1 ||| ofS (([(u8of ((((ix ([0, 63, 64, 255] : List UInt8) (i : Int))).toNat : Nat) : Int))] : List UInt8).map UInt8.toNat)), s2) ?_ ?_)⟩
          · refine chk_i (by simp; omega) (letE_s (cutE_i (s1 ||| ofS (([(u8of ((((ix ([0, 63, 64, 255] : List UInt8) (i : Int))).toNat : Nat) : Int))] : List UInt8).map UInt8.toNat)) ?_ ?_))
            · refine chk_i (by simp only; omega) (bif_t c1 ?_)
              repeat (first | with_reducible apply letE_s | (with_reducible apply chk_i; · first | omega | simp))
              rfl
            · refine chk_i (by simp only; omega) (chk_i (by simp only; omega) (bif_f (by simpa using c2) ?_))
              repeat (first | with_reducible apply letE_s | (with_reducible apply chk_i; · first | omega | simp))
              rfl
          · refine chk_i (by simp only; omega) rfl
        · refine ⟨(s1, (s2 ||| ofS (([(u8of ((((ix ([0, 63, 64, 255] : List UInt8) (i : Int))).toNat : Nat) : Int))] : List UInt8).map UInt8.toNat))), bif_t (by simp; omega) (cutE_i (s1, (s2 ||| ofS (([(u8of ((((ix ([0, 63, 64, 255] : List UInt8) (i : Int))).toNat : Nat) : Int))] : List UInt8).map UInt8.toNat))) ?_ ?_)⟩
          · refine chk_i (by simp; omega) (letE_s (cutE_i s1 ?_ ?_))
            · refine chk_i (by simp only; omega) (bif_f (by simpa using c1) ?_)
              repeat (first | with_reducible apply letE_s | (with_reducible apply chk_i; · first | omega | simp))
              rfl
            · refine chk_i (by simp only; omega) (chk_i (by simp only; omega) (bif_t c2 ?_))
              repeat (first | with_reducible apply letE_s | (with_reducible apply chk_i; · first | omega | simp))
              rfl
          · refine chk_i (by simp only; omega) rfl
        · refine ⟨(s1, s2), bif_t (by simp; omega) (cutE_i (s1, s2) ?_ ?_)⟩
          · refine chk_i (by simp; omega) (letE_s (cutE_i s1 ?_ ?_))
            · refine chk_i (by simp only; omega) (bif_f (by simpa using c1) ?_)
              repeat (first | with_reducible apply letE_s | (with_reducible apply chk_i; · first | omega | simp))
              rfl
            · refine chk_i (by simp only; omega) (chk_i (by simp only; omega) (bif_f (by simpa using c2) ?_))
              repeat (first | with_reducible apply letE_s | (with_reducible apply chk_i; · first | omega | simp))
              rfl
          · refine chk_i (by simp only; omega) rfl
      have h := loop_ex (body := (fun s3 => (bif (decide (s3.1 < (List.length ([0, 63, 64, 255] : List UInt8) : Int))) then (cutE (τ := BS × BS) (chk (0 ≤ s3.1 ∧ s3.1 < (List.length ([0, 63, 64, 255] : List UInt8) : Int)) (letE (ix ([0, 63, 64, 255] : List UInt8) s3.1) (fun x6 => (cutE (τ := BS) (chk (0 ≤ s3.1) (bif ((andI .i64 (shrI .i64 (n : Int) s3.1) 1) == 1) then (chk (0 ≤ (((x6).toNat : Nat) : Int) ∧ (((x6).toNat : Nat) : Int) < 256) (chk (0 < (([(u8of (((x6).toNat : Nat) : Int))] : List UInt8) : List UInt8).length ∧ (([(u8of (((x6).toNat : Nat) : Int))] : List UInt8) : List UInt8).length ≤ 1099511627776) (letE (ofS ((([(u8of (((x6).toNat : Nat) : Int))] : List UInt8) : List UInt8).map UInt8.toNat)) (fun x7 => (letE (s3.2.1 ||| x7) (fun x8 => (some (Sum.inl (x8))))))))) else (some (Sum.inl (s3.2.1))))) (fun j6 => (chk (-9223372036854775808 ≤ (4 + s3.1) ∧ (4 + s3.1) < 9223372036854775808) (chk (0 ≤ (4 + s3.1)) (bif ((andI .i64 (shrI .i64 (n : Int) (4 + s3.1)) 1) == 1) then (chk (0 ≤ (((x6).toNat : Nat) : Int) ∧ (((x6).toNat : Nat) : Int) < 256) (chk (0 < (([(u8of (((x6).toNat : Nat) : Int))] : List UInt8) : List UInt8).length ∧ (([(u8of (((x6).toNat : Nat) : Int))] : List UInt8) : List UInt8).length ≤ 1099511627776) (letE (ofS ((([(u8of (((x6).toNat : Nat) : Int))] : List UInt8) : List UInt8).map UInt8.toNat)) (fun x9 => (letE (s3.2.2 ||| x9) (fun x10 => (some (Sum.inl (j6, x10))))))))) else (some (Sum.inl (j6, s3.2.2))))))))))) (fun j5 => (chk (-9223372036854775808 ≤ (s3.1 + 1) ∧ (s3.1 + 1) < 9223372036854775808) (some (Sum.inl ((s3.1 + 1), j5.1, j5.2)))))) else (some (Sum.inr (Sum.inl (s3.2.1, s3.2.2))))))) (fun i s => s.1 = (i : Int)) (fun o => ∃ j4, o = Sum.inl j4) 4 (fun i s hi hs => by
        obtain ⟨a, b⟩ := s
        simp only at hs
        subst hs
        obtain ⟨s', h⟩ := step i b hi
        exact ⟨_, h, rfl⟩) (fun s hs => by
        obtain ⟨a, b⟩ := s
        simp only at hs
        subst hs
        exact ⟨_, rfl, _, rfl⟩) (by decide : 4 < 300) (s0 := ((0 : Int), (0#256, 0#256))) rfl
      obtain ⟨o, h1, j4, rfl⟩ := h
      exact ⟨j4, h1⟩
    obtain ⟨j4, hj⟩ := loop
    refine cutE_i j4 hj ?_
    have hl : (([0, 63, 64, 255] : List UInt8).length : Int) = 4 := rfl
    repeat (first | with_reducible apply letE_s | (with_reducible apply chk_i; · first | omega | (rw [hl]; omega) | exact ⟨u8_nat _, u8_nat _⟩ | exact ⟨u8_nat _, by decide⟩))
    rfl
  · exact bif_f (by simp) rfl
  exact letE_s (chk_i (by decide) (letE_s (chk_i (by decide) (letE_s rfl))))
theorem setssmall_pure : Pure (ITP Try.prog) Try.prog 9 [] (.raw (.bool true)) := setssmall_sh 300 true small_eq
end Go.Ab
namespace Go.Proofs.Ytjmhbbbpjbgmjaa
open Go Go.Ab Go.ChangeShapes Go.WideShapes Go.ChangeAt Go.RowKit Go.Fwd

set_option maxRecDepth 100000 in
theorem setsSmall_lifted (os : Os) (started : os.Started) (H : Type) (enc : TypeId × Value → H) :
    ReturnsInHanded {} Try.checked os 9 .any (Rows.setsSmallSpec.pre6 enc Try.prog Try.f9 Rows.setsSmallRow.domain false) (Rows.setsSmallSpec.post enc Try.prog Try.f9 false true false false) := by
  refine returnsInHanded_of_change (C := Try.checked) Ytjmhbbbpjbgmjaa.ownLess started (by kernel_rfl) Try.func9
    (ChangeSpec.witness6 (enc := enc) (C := Try.checked) false ⟨#[], #[], []⟩ 8 (by kernel_rfl) (by kernel_rfl) (by kernel_rfl) (by kernel_rfl)) ?_
  intro W base args ds gs before hval0 hW _ _
  have hW' := hW
  obtain ⟨p, q, hA0, hV, rfl, _, _⟩ := hW
  have hA : DataW.TrodAll enc Try.prog W 0 (fun _ => true) true Try.f9.params.toList args.toList ds p := hA0
  rw [show Try.f9.params.toList = [] from by kernel_rfl] at hA
  obtain ⟨rfl, rfl, rfl⟩ := trodAll_none hA
  obtain ⟨rfl, rfl⟩ := trodVars_none hV
  clear hA0 hval0
  refine (frame_of setssmall_pure W (vs := []) rfl).mono fun e W' ⟨he, hw⟩ => ?_
  subst he
  refine ⟨_, rfl, ?_⟩
  refine ⟨_, _, _, [] ++ [], [], [], hW', ?_, ?_, rfl, hw.toBelow.frame _, fun h => by cases h⟩
  · exact trodAll_mk1 (shut_bool (show Try.prog.underlying 4 = some .bool from by kernel_rfl) true)
  · exact hA

theorem setsSmall_holds : Rows.SetsSmallSaid :=
  OpenClaim.holds_of_wide 9 Try.f9 rfl rfl rfl rfl rfl rfl rfl ⟨rfl, rfl, rfl, rfl, rfl⟩ rfl rfl rfl rfl rfl (by kernel_rfl) Try.func9 (by kernel_rfl)
    (of_decide_eq_true (by kernel_rfl)) (by unfold Func.isWrapper; rw [if_neg (by decide +kernel)]; exact ⟨rfl, rfl⟩)
    (fun os started H enc _ => setsSmall_lifted os started H enc)
end Go.Proofs.Ytjmhbbbpjbgmjaa
