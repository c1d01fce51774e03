/-
  SetsTells: the walk.
-/
import Derived.Test.YtjmhbbbpjbgmjaaZseTx
set_option linter.unusedSimpArgs false
set_option linter.unusedVariables false
namespace Go.Ab
open Go Go.RowKit Go.Fwd Go.Proofs Go.Proofs.Ytjmhbbbpjbgmjaa
def F_tells (fuel : Nat) (a : BS) (b : BS) (c : Int) (d : Int) : Option Bool :=
  (bindE (F_words fuel a) (fun x1 => (bindE (F_words fuel b) (fun x2 => (cutE (τ := Ar) (loopE (β := Int × Ar) (fun s1 => (bif (decide (s1.1 < 256)) then (chk (0 ≤ s1.1 ∧ s1.1 < 256) (chk (-9223372036854775808 ≤ (s1.1 + 1) ∧ (s1.1 + 1) < 9223372036854775808) (some (Sum.inl ((s1.1 + 1), (wrA s1.2 s1.1 1)))))) else (some (Sum.inr (Sum.inl (s1.2)))))) fuel (0, zeroA)) (fun j1 => (chk (0 ≤ c ∧ c < 256) (chk (0 ≤ d ∧ d < 256) (chk (0 ≤ c ∧ c < 256) (chk (0 < (([(u8of c), (u8of d), (u8of c)] : List UInt8) : List UInt8).length ∧ (([(u8of c), (u8of d), (u8of c)] : List UInt8) : List UInt8).length ≤ 1099511627776) (letE (ofS ((([(u8of c), (u8of d), (u8of c)] : List UInt8) : List UInt8).map UInt8.toNat)) (fun x3 => (chk (0 ≤ c ∧ c < 256) (chk (0 ≤ d ∧ d < 256) (bindE (F_rof fuel ([(u8of c), (u8of d)] : List UInt8)) (fun x4 => (bindE (F_is fuel x3 x4) (fun x5 => (bif (!x5) then (some false) else (chk ((0 ≤ c ∧ c < 256) ∧ 0 ≤ d ∧ d < 256) (letE (rangeS (Int.toNat c) (Int.toNat d)) (fun x6 => (bindE (F_rrange fuel c d) (fun x7 => (bindE (F_is fuel x6 x7) (fun x8 => (bif (!x8) then (some false) else (letE (BitVec.allOnes 256) (fun x9 => (bindE (F_is fuel x9 j1) (fun x10 => (bif (!x10) then (some false) else (chk (0 ≤ c ∧ c < 256) (letE (a.getLsbD (Int.toNat c)) (fun x11 => (chk (0 ≤ c ∧ c < 256) (bif (!(x11 == ((rdA x1 c) == 1))) then (some false) else (letE ((bytesOf a).length : Int) (fun x12 => (bindE (F_rsize fuel x1) (fun x13 => (bif (x12 != x13) then (some false) else (letE (a ||| b) (fun x14 => (bindE (F_rboth fuel x1 x2 0) (fun x15 => (bindE (F_is fuel x14 x15) (fun x16 => (bif (!x16) then (some false) else (letE (a &&& b) (fun x17 => (bindE (F_rboth fuel x1 x2 1) (fun x18 => (bindE (F_is fuel x17 x18) (fun x19 => (bif (!x19) then (some false) else (letE (a &&& ~~~b) (fun x20 => (bindE (F_rboth fuel x1 x2 2) (fun x21 => (bindE (F_is fuel x20 x21) (fun x22 => (bif (!x22) then (some false) else (letE (~~~a) (fun x23 => (bindE (F_rboth fuel j1 x1 2) (fun x24 => (bindE (F_is fuel x23 x24) (fun x25 => (bif (!x25) then (some false) else (letE (a &&& ~~~b == 0#256) (fun x26 => (bindE (F_rboth fuel x1 x2 2) (fun x27 => (bindE (F_rsize fuel x27) (fun x28 => (bif (!(x26 == (x28 == 0))) then (some false) else (letE (!(a &&& b == 0#256)) (fun x29 => (bindE (F_rboth fuel x1 x2 1) (fun x30 => (bindE (F_rsize fuel x30) (fun x31 => (bif (!(x29 == (decide (x31 > 0)))) then (some false) else (letE (cmpS a b) (fun x32 => (bindE (F_rcompare fuel x1 x2) (fun x33 => (bif (x32 != x33) then (some false) else (letE (u8L (bytesOf a)) (fun x34 => (bindE (F_rbytes fuel x1) (fun x35 => (bindE (F_same fuel x34 x35) (fun x36 => (bif (!x36) then (some false) else (letE (leastS a, someS a) (fun x37 => (chk (0 ≤ c ∧ c < 256) (letE (optC (nextO a (Int.toNat c)), (nextO a (Int.toNat c)).isSome) (fun x38 => (bindE (F_rnext fuel x1 0) (fun x39 => (chk (-9223372036854775808 ≤ c ∧ c < 9223372036854775808) (chk (-9223372036854775808 ≤ (c + 1) ∧ (c + 1) < 9223372036854775808) (bindE (F_rnext fuel x1 (c + 1)) (fun x40 => (cutE (τ := Unit) (bif (!(x37.2 == (decide (x39 ≥ 0)))) then (some (Sum.inr false)) else (bif x37.2 then (chk (-9223372036854775808 ≤ x37.1 ∧ x37.1 < 9223372036854775808) (bif (x37.1 != x39) then (some (Sum.inr false)) else (bif (!x37.2) then (bif (x37.1 != 0) then (some (Sum.inr false)) else (bif (!(x38.2 == (decide (x40 ≥ 0)))) then (some (Sum.inr false)) else (bif x38.2 then (chk (-9223372036854775808 ≤ x38.1 ∧ x38.1 < 9223372036854775808) (bif (x38.1 != x40) then (some (Sum.inr false)) else (bif (!x38.2) then (bif (x38.1 != 0) then (some (Sum.inr false)) else (some (Sum.inl ()))) else (some (Sum.inl ()))))) else (bif (!x38.2) then (bif (x38.1 != 0) then (some (Sum.inr false)) else (some (Sum.inl ()))) else (some (Sum.inl ())))))) else (bif (!(x38.2 == (decide (x40 ≥ 0)))) then (some (Sum.inr false)) else (bif x38.2 then (chk (-9223372036854775808 ≤ x38.1 ∧ x38.1 < 9223372036854775808) (bif (x38.1 != x40) then (some (Sum.inr false)) else (bif (!x38.2) then (bif (x38.1 != 0) then (some (Sum.inr false)) else (some (Sum.inl ()))) else (some (Sum.inl ()))))) else (bif (!x38.2) then (bif (x38.1 != 0) then (some (Sum.inr false)) else (some (Sum.inl ()))) else (some (Sum.inl ())))))))) else (bif (!x37.2) then (bif (x37.1 != 0) then (some (Sum.inr false)) else (bif (!(x38.2 == (decide (x40 ≥ 0)))) then (some (Sum.inr false)) else (bif x38.2 then (chk (-9223372036854775808 ≤ x38.1 ∧ x38.1 < 9223372036854775808) (bif (x38.1 != x40) then (some (Sum.inr false)) else (bif (!x38.2) then (bif (x38.1 != 0) then (some (Sum.inr false)) else (some (Sum.inl ()))) else (some (Sum.inl ()))))) else (bif (!x38.2) then (bif (x38.1 != 0) then (some (Sum.inr false)) else (some (Sum.inl ()))) else (some (Sum.inl ())))))) else (bif (!(x38.2 == (decide (x40 ≥ 0)))) then (some (Sum.inr false)) else (bif x38.2 then (chk (-9223372036854775808 ≤ x38.1 ∧ x38.1 < 9223372036854775808) (bif (x38.1 != x40) then (some (Sum.inr false)) else (bif (!x38.2) then (bif (x38.1 != 0) then (some (Sum.inr false)) else (some (Sum.inl ()))) else (some (Sum.inl ()))))) else (bif (!x38.2) then (bif (x38.1 != 0) then (some (Sum.inr false)) else (some (Sum.inl ()))) else (some (Sum.inl ())))))))) (fun j2 => (letE (spL (spansOf a)) (fun x41 => (bindE (F_rspans fuel x1) (fun x42 => (chk (-9223372036854775808 ≤ (2 * (List.length x41 : Int)) ∧ (2 * (List.length x41 : Int)) < 9223372036854775808) (bif ((2 * (List.length x41 : Int)) != (List.length x42 : Int)) then (some false) else (cutE (τ := Unit) (loopE (β := Int) (fun s2 => (bif (decide (s2 < (List.length x41 : Int))) then (chk (0 ≤ s2 ∧ s2 < (List.length x41 : Int)) (letE (ix x41 s2) (fun x43 => (chk (-9223372036854775808 ≤ (((x43.1).toNat : Nat) : Int) ∧ (((x43.1).toNat : Nat) : Int) < 9223372036854775808) (chk (-9223372036854775808 ≤ (2 * s2) ∧ (2 * s2) < 9223372036854775808) (chk (0 ≤ (2 * s2) ∧ (2 * s2) < (List.length x42 : Int)) (bif ((((x43.1).toNat : Nat) : Int) != (ix x42 (2 * s2))) then (some (Sum.inr (Sum.inr false))) else (chk (-9223372036854775808 ≤ (((x43.2).toNat : Nat) : Int) ∧ (((x43.2).toNat : Nat) : Int) < 9223372036854775808) (chk (-9223372036854775808 ≤ (2 * s2) ∧ (2 * s2) < 9223372036854775808) (chk (-9223372036854775808 ≤ ((2 * s2) + 1) ∧ ((2 * s2) + 1) < 9223372036854775808) (chk (0 ≤ ((2 * s2) + 1) ∧ ((2 * s2) + 1) < (List.length x42 : Int)) (letE (ix x42 ((2 * s2) + 1)) (fun x44 => (bif ((((x43.2).toNat : Nat) : Int) != x44) then (some (Sum.inr (Sum.inr false))) else (chk (-9223372036854775808 ≤ (s2 + 1) ∧ (s2 + 1) < 9223372036854775808) (some (Sum.inl ((s2 + 1))))))))))))))))))) else (some (Sum.inr (Sum.inl ()))))) fuel (0)) (fun j3 => (some true))))))))))))))))))))))))))))))))))))))))))))))))))))))))))))))))))))))))))))))))))))))))))))))))))))))))))))))))))))))
theorem ent15 : Ent Try.prog 15 := enters_of Try.func15 (by kernel_rfl) rfl
set_option maxRecDepth 100000 in
set_option maxHeartbeats 4000000 in
theorem tells_sh (fuel : Nat) (a : BS) (b : BS) (c : Int) (d : Int) (r : Bool) (h : F_tells fuel a b c d = some r) : Pure (ITP Try.prog) Try.prog 15 [.agg (Enc.cells (a : BS)), .agg (Enc.cells (b : BS)), .raw (.int .u8 c), .raw (.int .u8 d)] (.raw (.bool r)) := by
 obtain ⟨d, hd⟩ : ∃ d, Try.f15.body = some d := ⟨_, rfl⟩
 refine pure_of mix Try.func15 hd ent15 ?_
 cases hd
 unfold F_tells at h
 refine w_start (by dsimp only [abeginS, Try.f15, List.length_cons, List.length_nil, Nat.zero_add, Nat.reduceAdd, Nat.reduceSub, List.replicate, List.cons_append, List.nil_append]) (by dsimp only [St.empty]) ?_
 refine w_seq (w_region ?_)
 refine w_opm (a := .ptr 0 0) (σ'' := ⟨[(24, (Enc.cells (a : BS)))], [], [], 0, false⟩) rfl rfl rfl rfl (by dsimp only [aput, List.set]) rfl ?_
 refine w_opm (a := .ptr 1 0) (σ'' := ⟨[(24, (Enc.cells (a : BS))), (24, (Enc.cells (b : BS)))], [], [], 0, false⟩) rfl rfl rfl rfl (by dsimp only [aput, List.set]) rfl ?_
 refine w_op (a := .raw (.bool false)) rfl rfl rfl rfl (by dsimp only [aput, List.set]) ?_
 refine w_seq ?_
 refine w_drawB (id := 1) 6 (by kernel_rfl) (by kernel_rfl) ?_
 refine hB_op (a := .agg (Enc.cells (a : BS))) rfl rfl rfl rfl rfl (by dsimp only [aput, List.set]) ?_
 obtain ⟨x1, hx1, h⟩ := bindE_e h
 refine hB_call (args' := [.agg (Enc.cells (a : BS))]) (r := .agg (Enc.cells (x1 : Ar))) (words_sh fuel a x1 hx1) rfl rfl rfl rfl (stripL_cons (strip_c (clo_agg (Enc.clo _))) rfl) (okTrimL_cons (okTrim_clo _ _ (clo_agg (Enc.clo _))) rfl) (by dsimp only [aput, List.set]) ?_
 refine hB_op (a := .agg (Enc.cells (b : BS))) rfl rfl rfl rfl rfl (by dsimp only [aput, List.set]) ?_
 obtain ⟨x2, hx2, h⟩ := bindE_e h
 refine hB_call (args' := [.agg (Enc.cells (b : BS))]) (r := .agg (Enc.cells (x2 : Ar))) (words_sh fuel b x2 hx2) rfl rfl rfl rfl (stripL_cons (strip_c (clo_agg (Enc.clo _))) rfl) (okTrimL_cons (okTrim_clo _ _ (clo_agg (Enc.clo _))) rfl) (by dsimp only [aput, List.set]) ?_
 refine hB_new zv57 rfl rfl rfl rfl rfl zero57 (by dsimp only [List.set]) ?_
 refine hB_new zv57 rfl rfl rfl rfl rfl zero57 (by dsimp only [List.set]) ?_
 refine hB_doneF (n := 2) rfl (show _ = (⟨[(24, (Enc.cells (a : BS))), (24, (Enc.cells (b : BS))), (57, (Enc.cells (zeroA : Ar))), (57, (Enc.cells (zeroA : Ar)))], [], [], 0, false⟩ : St) from by kernel_rfl) (by dsimp only [List.nil_append, List.cons_append, pendS, List.set, Nat.reduceAdd]) ?_
 refine w_opm (σ'' := ⟨[(24, (Enc.cells (a : BS))), (24, (Enc.cells (b : BS))), (57, (Enc.cells (x1 : Ar))), (57, (Enc.cells (zeroA : Ar)))], [], [], 0, false⟩) rfl rfl rfl (op_storeW (n := 256) rfl rfl rfl rfl rfl (Enc.len _) rfl (Enc.len _) (by decide)) (by dsimp only [aput, List.set]) rfl ?_
 refine w_opm (σ'' := ⟨[(24, (Enc.cells (a : BS))), (24, (Enc.cells (b : BS))), (57, (Enc.cells (x1 : Ar))), (57, (Enc.cells (x2 : Ar)))], [], [], 0, false⟩) rfl rfl rfl (op_storeW (n := 256) rfl rfl rfl rfl rfl (Enc.len _) rfl (Enc.len _) (by decide)) (by dsimp only [aput, List.set]) rfl ?_
 refine w_seq (w_region ?_)
 refine w_opm (a := .ptr 4 0) (σ'' := ⟨[(24, (Enc.cells (a : BS))), (24, (Enc.cells (b : BS))), (57, (Enc.cells (x1 : Ar))), (57, (Enc.cells (x2 : Ar))), (57, (Enc.cells (zeroA : Ar)))], [], [], 0, false⟩) rfl rfl rfl (op_allocA (by decide) rfl) (by dsimp only [aput, List.set]) rfl ?_
 refine w_cutF h [0, 1, 6, 7, 8, 12, 13, 14, 15, 16, 17, 18, 19, 20, 21, 22, 23, 24, 25, 26, 27, 28, 29, 30, 31, 32, 33, 34, 35, 36, 37, 38, 39, 40, 41, 42, 43, 44, 45, 46, 47, 48, 49, 50, 51, 52, 53, 54, 55, 56, 57, 58, 59, 60, 61, 62, 63, 64, 65, 66, 67, 68, 69, 70, 71, 72, 73, 74, 75, 76, 77, 78, 79, 80, 81, 82, 83, 84, 85, 86, 87, 88, 89, 90, 91, 92, 93, 94, 95, 96, 97, 98, 99, 100, 101, 102, 103, 104, 105, 106, 107, 108, 109, 110, 111, 112, 113, 114, 115, 116, 117, 118, 119, 120, 121, 122, 123, 124, 125, 126, 127, 128, 129, 130, 131, 132, 133, 134, 135, 136, 137, 138, 139, 140, 141, 142, 143, 144, 145, 146, 147, 148, 149, 150, 151, 152, 153, 154, 155, 156, 157, 158, 159, 160, 161, 162, 163, 164, 165, 166, 167, 168, 169, 170, 171, 172, 173, 174, 175, 176, 177, 178, 179, 180, 181, 182, 183, 184, 185, 186, 187, 188, 189, 190, 191, 192, 193, 194, 195, 196, 197, 198, 199, 200, 201, 202, 203, 204, 205, 206, 207, 208, 209, 210, 211, 212, 213, 214, 215, 216, 217, 218, 219, 220, 221, 222, 223, 224, 225, 226, 227, 228, 229, 230, 231, 232, 233, 234, 235, 236, 237, 238, 239, 240, 241, 242, 243, 244, 245, 246, 247, 248, 249, 250, 251, 252, 253] (fun j1 => []) (fun j1 => ⟨[(24, (Enc.cells (a : BS))), (24, (Enc.cells (b : BS))), (57, (Enc.cells (x1 : Ar))), (57, (Enc.cells (x2 : Ar))), (57, (Enc.cells (j1 : Ar)))], [], [], 0, false⟩) ?_ ?_
 ·
  intro or1 h hr1
  refine w_seq (w_region ?_)
  refine w_op (a := .raw (.int .i64 0)) rfl rfl rfl rfl (by dsimp only [aput, List.set]) ?_
  refine w_block ?_
  refine w_loopF h [0, 1, 6, 7, 8, 12, 13, 14, 15, 16, 17, 18, 19, 20, 21, 22, 23, 24, 25, 26, 27, 28, 29, 30, 31, 32, 33, 34, 35, 36, 37, 38, 39, 40, 41, 42, 43, 44, 45, 46, 47, 48, 49, 50, 51, 52, 53, 54, 55, 56, 57, 58, 59, 60, 61, 62, 63, 64, 65, 66, 67, 68, 69, 70, 71, 72, 73, 74, 75, 76, 77, 78, 79, 80, 81, 82, 83, 84, 85, 86, 87, 88, 89, 90, 91, 92, 93, 94, 95, 96, 97, 98, 99, 100, 101, 102, 103, 104, 105, 106, 107, 108, 109, 110, 111, 112, 113, 114, 115, 116, 117, 118, 119, 120, 121, 122, 123, 124, 125, 126, 127, 128, 129, 130, 131, 132, 133, 134, 135, 136, 137, 138, 139, 140, 141, 142, 143, 144, 145, 146, 147, 148, 149, 150, 151, 152, 153, 154, 155, 156, 157, 158, 159, 160, 161, 162, 163, 164, 165, 166, 167, 168, 169, 170, 171, 172, 173, 174, 175, 176, 177, 178, 179, 180, 181, 182, 183, 184, 185, 186, 187, 188, 189, 190, 191, 192, 193, 194, 195, 196, 197, 198, 199, 200, 201, 202, 203, 204, 205, 206, 207, 208, 209, 210, 211, 212, 213, 214, 215, 216, 217, 218, 219, 220, 221, 222, 223, 224, 225, 226, 227, 228, 229, 230, 231, 232, 233, 234, 235, 236, 237, 238, 239, 240, 241, 242, 243, 244, 245, 246, 247, 248, 249, 250, 251, 252, 253] (fun s1 => [(27, .raw (.int .i64 s1.1))]) (fun s1 => ⟨[(24, (Enc.cells (a : BS))), (24, (Enc.cells (b : BS))), (57, (Enc.cells (x1 : Ar))), (57, (Enc.cells (x2 : Ar))), (57, (Enc.cells (s1.2 : Ar)))], [], [], 0, false⟩) ?_ ?_
  ·
   exact wm_of [false, false, true, true, true, true, false, false, false, true, true, true, false, false, false, false, false, false, false, false, false, false, false, false, false, false, false, true, false, false, false, false, false, false, false, false, false, false, false, false, false, false, false, false, false, false, false, false, false, false, false, false, false, false, false, false, false, false, false, false, false, false, false, false, false, false, false, false, false, false, false, false, false, false, false, false, false, false, false, false, false, false, false, false, false, false, false, false, false, false, false, false, false, false, false, false, false, false, false, false, false, false, false, false, false, false, false, false, false, false, false, false, false, false, false, false, false, false, false, false, false, false, false, false, false, false, false, false, false, false, false, false, false, false, false, false, false, false, false, false, false, false, false, false, false, false, false, false, false, false, false, false, false, false, false, false, false, false, false, false, false, false, false, false, false, false, false, false, false, false, false, false, false, false, false, false, false, false, false, false, false, false, false, false, false, false, false, false, false, false, false, false, false, false, false, false, false, false, false, false, false, false, false, false, false, false, false, false, false, false, false, false, false, false, false, false, false, false, false, false, false, false, false, false, false, false, false, false, false, false, false, false, false, false, false, false, false, false, false, false, false, false, false, false, false, false, false, false, false, false, false, false, false, false] (by kernel_rfl) (by kernel_rfl)
  ·
   intro s1 p1 h
   refine w_start (by dsimp only [setAll, topAll, List.foldl, List.set]) rfl ?_
   refine w_seq (w_region ?_)
   refine w_op (a := .raw (.bool (decide (s1.1 < 256)))) rfl rfl rfl rfl (by dsimp only [aput, List.set]) ?_
   refine w_seq ?_
   refine bif_e h (fun hc1 h => ?_) (fun hc1 h => ?_)
   ·
    refine w_condT hc1 rfl ?_
    refine w_seq ?_
    refine w_block ?_
    refine w_seq (w_region ?_)
    refine w_op (a := .raw (.int .i64 s1.1)) rfl rfl rfl rfl (by dsimp only [aput, List.set]) ?_
    refine w_op (a := .raw (.int .i64 s1.1)) rfl rfl rfl rfl (by dsimp only [aput, List.set]) ?_
    refine w_region (id := 6) ?_
    refine w_op (a := .raw (.int .i64 s1.1)) rfl rfl rfl rfl (by dsimp only [aput, List.set]) ?_
    obtain ⟨g1, h⟩ := chk_e h
    refine w_op (a := .ptr 4 (0 + Int.toNat s1.1 * 1)) rfl rfl rfl (op_q (q_idxA g1 rfl rfl rfl rfl rfl)) (by dsimp only [aput, List.set]) ?_
    refine w_opm (σ'' := ⟨[(24, (Enc.cells (a : BS))), (24, (Enc.cells (b : BS))), (57, (Enc.cells (x1 : Ar))), (57, (Enc.cells (x2 : Ar))), (57, (Enc.cells ((wrA s1.2 s1.1 1) : Ar)))], [], [], 0, false⟩) rfl rfl rfl (op_storeA s1.2 g1 rfl rfl rfl rfl) (by dsimp only [aput, List.set]) rfl ?_
    refine w_region (id := 7) ?_
    obtain ⟨g2, h⟩ := chk_e h
    refine w_op (a := .raw (.int .i64 (s1.1 + 1))) rfl rfl rfl (op_q (q_add rfl rfl rfl rfl g2.1 g2.2)) (by dsimp only [aput, List.set]) ?_
    refine w_op (a := .raw (.int .i64 (s1.1 + 1))) rfl rfl rfl rfl (by dsimp only [aput, List.set]) ?_
    refine loop_next (p := p1) ((s1.1 + 1), (wrA s1.2 s1.1 1)) h ?_
    exact wm_of [false, false, true, true, true, true, false, false, false, true, true, true, false, false, false, false, false, false, false, false, false, false, false, false, false, false, false, true, false, false, false, false, false, false, false, false, false, false, false, false, false, false, false, false, false, false, false, false, false, false, false, false, false, false, false, false, false, false, false, false, false, false, false, false, false, false, false, false, false, false, false, false, false, false, false, false, false, false, false, false, false, false, false, false, false, false, false, false, false, false, false, false, false, false, false, false, false, false, false, false, false, false, false, false, false, false, false, false, false, false, false, false, false, false, false, false, false, false, false, false, false, false, false, false, false, false, false, false, false, false, false, false, false, false, false, false, false, false, false, false, false, false, false, false, false, false, false, false, false, false, false, false, false, false, false, false, false, false, false, false, false, false, false, false, false, false, false, false, false, false, false, false, false, false, false, false, false, false, false, false, false, false, false, false, false, false, false, false, false, false, false, false, false, false, false, false, false, false, false, false, false, false, false, false, false, false, false, false, false, false, false, false, false, false, false, false, false, false, false, false, false, false, false, false, false, false, false, false, false, false, false, false, false, false, false, false, false, false, false, false, false, false, false, false, false, false, false, false, false, false, false, false, false, false] (by kernel_rfl) (by kernel_rfl)
   ·
    refine w_condF hc1 rfl ?_
    refine loop_exit h (fun h => ?_)
    refine cut_done (o := or1) (s1.2) h ?_
    exact wm_of [false, false, true, true, true, true, false, false, false, true, true, true, false, false, false, false, false, false, false, false, false, false, false, false, false, false, false, false, false, false, false, false, false, false, false, false, false, false, false, false, false, false, false, false, false, false, false, false, false, false, false, false, false, false, false, false, false, false, false, false, false, false, false, false, false, false, false, false, false, false, false, false, false, false, false, false, false, false, false, false, false, false, false, false, false, false, false, false, false, false, false, false, false, false, false, false, false, false, false, false, false, false, false, false, false, false, false, false, false, false, false, false, false, false, false, false, false, false, false, false, false, false, false, false, false, false, false, false, false, false, false, false, false, false, false, false, false, false, false, false, false, false, false, false, false, false, false, false, false, false, false, false, false, false, false, false, false, false, false, false, false, false, false, false, false, false, false, false, false, false, false, false, false, false, false, false, false, false, false, false, false, false, false, false, false, false, false, false, false, false, false, false, false, false, false, false, false, false, false, false, false, false, false, false, false, false, false, false, false, false, false, false, false, false, false, false, false, false, false, false, false, false, false, false, false, false, false, false, false, false, false, false, false, false, false, false, false, false, false, false, false, false, false, false, false, false, false, false, false, false, false, false, false, false] (by kernel_rfl) (by kernel_rfl)
 ·
  intro j1 h
  refine w_start (by dsimp only [setAll, topAll, List.foldl, List.set]) rfl ?_
  refine w_seq ?_
  refine w_seq ?_
  refine w_draw (id := 8) 79 (by kernel_rfl) (by kernel_rfl) ?_
  refine h_op (a := .raw (.int .u8 c)) rfl rfl rfl rfl (by dsimp only [aput, List.set]) ?_
  refine h_op (a := .raw (.int .u8 d)) rfl rfl rfl rfl (by dsimp only [aput, List.set]) ?_
  refine h_op (a := .raw (.int .u8 c)) rfl rfl rfl rfl (by dsimp only [aput, List.set]) ?_
  obtain ⟨g3, h⟩ := chk_e h
  obtain ⟨g4, h⟩ := chk_e h
  obtain ⟨g5, h⟩ := chk_e h
  refine h_op (a := .list (List.length (([(u8of c), (u8of d), (u8of c)] : List UInt8) : List UInt8)) (Enc.cellsL (([(u8of c), (u8of d), (u8of c)] : List UInt8) : List UInt8)) .full) rfl rfl rfl (q_lit (α := UInt8) (l := ([(u8of c), (u8of d), (u8of c)] : List UInt8)) (cs := [.raw (.int .u8 c), .raw (.int .u8 d), .raw (.int .u8 c)]) (by kernel_rfl) (by show List.map _ _ = _; simp only [List.map_cons, List.map_nil, u8c g3, u8c g4, u8c g5])) (by dsimp only [aput, List.set]) ?_
  obtain ⟨g6, h⟩ := chk_e h
  obtain ⟨x3, hx3, h⟩ := letE_e h
  refine h_call (args' := [.list (List.length (([(u8of c), (u8of d), (u8of c)] : List UInt8) : List UInt8)) (Enc.cellsL (([(u8of c), (u8of d), (u8of c)] : List UInt8) : List UInt8)) .none]) (r := .agg (Enc.cells (x3 : BS))) (by rw [← hx3]; exact (k_of ([(u8of c), (u8of d), (u8of c)] : List UInt8) g6)) rfl rfl rfl (stripL_cons (strip_l (Enc.cloL _)) rfl) (okTrimL_cons (okTrim_l (Enc.cloL _)) rfl) (by dsimp only [aput, List.set]) ?_
  refine h_op (a := .raw (.int .u8 c)) rfl rfl rfl rfl (by dsimp only [aput, List.set]) ?_
  refine h_op (a := .raw (.int .u8 d)) rfl rfl rfl rfl (by dsimp only [aput, List.set]) ?_
  obtain ⟨g7, h⟩ := chk_e h
  obtain ⟨g8, h⟩ := chk_e h
  refine h_op (a := .list (List.length (([(u8of c), (u8of d)] : List UInt8) : List UInt8)) (Enc.cellsL (([(u8of c), (u8of d)] : List UInt8) : List UInt8)) .full) rfl rfl rfl (q_lit (α := UInt8) (l := ([(u8of c), (u8of d)] : List UInt8)) (cs := [.raw (.int .u8 c), .raw (.int .u8 d)]) rfl (by show List.map _ _ = _; simp only [List.map_cons, List.map_nil, u8c g7, u8c g8])) (by dsimp only [aput, List.set]) ?_
  obtain ⟨x4, hx4, h⟩ := bindE_e h
  refine h_call (args' := [.list (List.length (([(u8of c), (u8of d)] : List UInt8) : List UInt8)) (Enc.cellsL (([(u8of c), (u8of d)] : List UInt8) : List UInt8)) .none]) (r := .agg (Enc.cells (x4 : Ar))) (rof_sh fuel ([(u8of c), (u8of d)] : List UInt8) x4 hx4) rfl rfl rfl (stripL_cons (strip_l (Enc.cloL _)) rfl) (okTrimL_cons (okTrim_l (Enc.cloL _)) rfl) (by dsimp only [aput, List.set]) ?_
  obtain ⟨x5, hx5, h⟩ := bindE_e h
  refine h_call (args' := [.agg (Enc.cells (x3 : BS)), .agg (Enc.cells (x4 : Ar))]) (r := .raw (.bool x5)) (is_sh fuel x3 x4 x5 hx5) rfl rfl rfl (stripL_cons (strip_c (clo_agg (Enc.clo _))) (stripL_cons (strip_c (clo_agg (Enc.clo _))) rfl)) (okTrimL_cons (okTrim_clo _ _ (clo_agg (Enc.clo _))) (okTrimL_cons (okTrim_clo _ _ (clo_agg (Enc.clo _))) rfl)) (by dsimp only [aput, List.set]) ?_
  refine h_op (a := .raw (.bool (!x5))) rfl rfl rfl rfl (by dsimp only [aput, List.set]) ?_
  refine bif_e h (fun hc2 h => ?_) (fun hc2 h => ?_)
  ·
   refine h_op (a := .raw (.bool true)) rfl rfl rfl (q_bool rfl hc2) (by dsimp only [aput, List.set]) ?_
   refine h_pass rfl rfl rfl (by decide) (by dsimp only [aput, List.set]) ?_
   refine h_pass rfl rfl rfl (by decide) (by dsimp only [aput, List.set]) ?_
   refine h_pass rfl rfl rfl (by decide) (by dsimp only [aput, List.set]) ?_
   refine h_pass rfl rfl rfl (by decide) (by dsimp only [aput, List.set]) ?_
   refine h_pass rfl rfl rfl (by decide) (by dsimp only [aput, List.set]) ?_
   refine h_pass rfl rfl rfl (by decide) (by dsimp only [aput, List.set]) ?_
   refine h_pass rfl rfl rfl (by decide) (by dsimp only [aput, List.set]) ?_
   refine h_pass rfl rfl rfl (by decide) (by dsimp only [aput, List.set]) ?_
   refine h_op (a := .raw (.bool true)) rfl rfl rfl rfl (by dsimp only [aput, List.set]) ?_
   refine h_op (a := .raw (.bool true)) rfl rfl rfl rfl (by dsimp only [aput, List.set]) ?_
   refine h_pass rfl rfl rfl (by decide) (by dsimp only [aput, List.set]) ?_
   refine h_pass rfl rfl rfl (by decide) (by dsimp only [aput, List.set]) ?_
   refine h_pass rfl rfl rfl (by decide) (by dsimp only [aput, List.set]) ?_
   refine h_pass rfl rfl rfl (by decide) (by dsimp only [aput, List.set]) ?_
   refine h_op (a := .raw (.bool true)) rfl rfl rfl rfl (by dsimp only [aput, List.set]) ?_
   refine h_op (a := .raw (.bool true)) rfl rfl rfl rfl (by dsimp only [aput, List.set]) ?_
   refine h_pass rfl rfl rfl (by decide) (by dsimp only [aput, List.set]) ?_
   refine h_pass rfl rfl rfl (by decide) (by dsimp only [aput, List.set]) ?_
   refine h_pass rfl rfl rfl (by decide) (by dsimp only [aput, List.set]) ?_
   refine h_pass rfl rfl rfl (by decide) (by dsimp only [aput, List.set]) ?_
   refine h_pass rfl rfl rfl (by decide) (by dsimp only [aput, List.set]) ?_
   refine h_pass rfl rfl rfl (by decide) (by dsimp only [aput, List.set]) ?_
   refine h_pass rfl rfl rfl (by decide) (by dsimp only [aput, List.set]) ?_
   refine h_pass rfl rfl rfl (by decide) (by dsimp only [aput, List.set]) ?_
   refine h_op (a := .raw (.bool true)) rfl rfl rfl rfl (by dsimp only [aput, List.set]) ?_
   refine h_op (a := .raw (.bool true)) rfl rfl rfl rfl (by dsimp only [aput, List.set]) ?_
   refine h_pass rfl rfl rfl (by decide) (by dsimp only [aput, List.set]) ?_
   refine h_pass rfl rfl rfl (by decide) (by dsimp only [aput, List.set]) ?_
   refine h_pass rfl rfl rfl (by decide) (by dsimp only [aput, List.set]) ?_
   refine h_pass rfl rfl rfl (by decide) (by dsimp only [aput, List.set]) ?_
   refine h_pass rfl rfl rfl (by decide) (by dsimp only [aput, List.set]) ?_
   refine h_op (a := .raw (.bool true)) rfl rfl rfl rfl (by dsimp only [aput, List.set]) ?_
   refine h_op (a := .raw (.bool true)) rfl rfl rfl rfl (by dsimp only [aput, List.set]) ?_
   refine h_pass rfl rfl rfl (by decide) (by dsimp only [aput, List.set]) ?_
   refine h_pass rfl rfl rfl (by decide) (by dsimp only [aput, List.set]) ?_
   refine h_pass rfl rfl rfl (by decide) (by dsimp only [aput, List.set]) ?_
   refine h_pass rfl rfl rfl (by decide) (by dsimp only [aput, List.set]) ?_
   refine h_pass rfl rfl rfl (by decide) (by dsimp only [aput, List.set]) ?_
   refine h_pass rfl rfl rfl (by decide) (by dsimp only [aput, List.set]) ?_
   refine h_pass rfl rfl rfl (by decide) (by dsimp only [aput, List.set]) ?_
   refine h_pass rfl rfl rfl (by decide) (by dsimp only [aput, List.set]) ?_
   refine h_op (a := .raw (.bool true)) rfl rfl rfl rfl (by dsimp only [aput, List.set]) ?_
   refine h_op (a := .raw (.bool true)) rfl rfl rfl rfl (by dsimp only [aput, List.set]) ?_
   refine h_pass rfl rfl rfl (by decide) (by dsimp only [aput, List.set]) ?_
   refine h_pass rfl rfl rfl (by decide) (by dsimp only [aput, List.set]) ?_
   refine h_pass rfl rfl rfl (by decide) (by dsimp only [aput, List.set]) ?_
   refine h_pass rfl rfl rfl (by decide) (by dsimp only [aput, List.set]) ?_
   refine h_pass rfl rfl rfl (by decide) (by dsimp only [aput, List.set]) ?_
   refine h_pass rfl rfl rfl (by decide) (by dsimp only [aput, List.set]) ?_
   refine h_pass rfl rfl rfl (by decide) (by dsimp only [aput, List.set]) ?_
   refine h_pass rfl rfl rfl (by decide) (by dsimp only [aput, List.set]) ?_
   refine h_op (a := .raw (.bool true)) rfl rfl rfl rfl (by dsimp only [aput, List.set]) ?_
   refine h_op (a := .raw (.bool true)) rfl rfl rfl rfl (by dsimp only [aput, List.set]) ?_
   refine h_pass rfl rfl rfl (by decide) (by dsimp only [aput, List.set]) ?_
   refine h_pass rfl rfl rfl (by decide) (by dsimp only [aput, List.set]) ?_
   refine h_pass rfl rfl rfl (by decide) (by dsimp only [aput, List.set]) ?_
   refine h_pass rfl rfl rfl (by decide) (by dsimp only [aput, List.set]) ?_
   refine h_pass rfl rfl rfl (by decide) (by dsimp only [aput, List.set]) ?_
   refine h_pass rfl rfl rfl (by decide) (by dsimp only [aput, List.set]) ?_
   refine h_pass rfl rfl rfl (by decide) (by dsimp only [aput, List.set]) ?_
   refine h_pass rfl rfl rfl (by decide) (by dsimp only [aput, List.set]) ?_
   refine h_op (a := .raw (.bool true)) rfl rfl rfl rfl (by dsimp only [aput, List.set]) ?_
   refine h_op (a := .raw (.bool true)) rfl rfl rfl rfl (by dsimp only [aput, List.set]) ?_
   refine h_pass rfl rfl rfl (by decide) (by dsimp only [aput, List.set]) ?_
   refine h_pass rfl rfl rfl (by decide) (by dsimp only [aput, List.set]) ?_
   refine h_pass rfl rfl rfl (by decide) (by dsimp only [aput, List.set]) ?_
   refine h_pass rfl rfl rfl (by decide) (by dsimp only [aput, List.set]) ?_
   refine h_end ?_
   refine w_pass rfl rfl (by decide) (by dsimp only [aput, List.set]) ?_
   refine w_pass rfl rfl (by decide) (by dsimp only [aput, List.set]) ?_
   refine w_pass rfl rfl (by decide) (by dsimp only [aput, List.set]) ?_
   refine w_op (a := .raw (.bool true)) rfl rfl rfl rfl (by dsimp only [aput, List.set]) ?_
   refine w_true rfl ?_
   refine w_seq (w_region ?_)
   refine w_op (a := .raw (.bool false)) rfl rfl rfl rfl (by dsimp only [aput, List.set]) ?_
   exact end_pureF (fun (r : Bool) => (.raw (.bool r) : AV)) h (a := .raw (.bool false)) rfl rfl rfl
  ·
   refine h_op (a := .raw (.bool false)) rfl rfl rfl (q_bool rfl hc2) (by dsimp only [aput, List.set]) ?_
   refine h_met rfl rfl ?_
   refine h_op (a := .raw (.int .u8 c)) rfl rfl rfl rfl (by dsimp only [aput, List.set]) ?_
   refine h_met rfl rfl ?_
   refine h_op (a := .raw (.int .u8 d)) rfl rfl rfl rfl (by dsimp only [aput, List.set]) ?_
   refine h_met rfl rfl ?_
   obtain ⟨g9, h⟩ := chk_e h
   obtain ⟨x6, hx6, h⟩ := letE_e h
   refine h_call (args' := [.raw (.int .u8 c), .raw (.int .u8 d)]) (r := .agg (Enc.cells (x6 : BS))) (by rw [← hx6]; exact (k_range c d g9)) rfl rfl rfl (stripL_cons rfl (stripL_cons rfl rfl)) (okTrimL_cons rfl (okTrimL_cons rfl rfl)) (by dsimp only [aput, List.set]) ?_
   refine h_met rfl rfl ?_
   refine h_op (a := .raw (.int .u8 c)) rfl rfl rfl rfl (by dsimp only [aput, List.set]) ?_
   refine h_met rfl rfl ?_
   refine h_op (a := .raw (.int .u8 d)) rfl rfl rfl rfl (by dsimp only [aput, List.set]) ?_
   refine h_met rfl rfl ?_
   obtain ⟨x7, hx7, h⟩ := bindE_e h
   refine h_call (args' := [.raw (.int .u8 c), .raw (.int .u8 d)]) (r := .agg (Enc.cells (x7 : Ar))) (rrange_sh fuel c d x7 hx7) rfl rfl rfl (stripL_cons rfl (stripL_cons rfl rfl)) (okTrimL_cons rfl (okTrimL_cons rfl rfl)) (by dsimp only [aput, List.set]) ?_
   refine h_met rfl rfl ?_
   obtain ⟨x8, hx8, h⟩ := bindE_e h
   refine h_call (args' := [.agg (Enc.cells (x6 : BS)), .agg (Enc.cells (x7 : Ar))]) (r := .raw (.bool x8)) (is_sh fuel x6 x7 x8 hx8) rfl rfl rfl (stripL_cons (strip_c (clo_agg (Enc.clo _))) (stripL_cons (strip_c (clo_agg (Enc.clo _))) rfl)) (okTrimL_cons (okTrim_clo _ _ (clo_agg (Enc.clo _))) (okTrimL_cons (okTrim_clo _ _ (clo_agg (Enc.clo _))) rfl)) (by dsimp only [aput, List.set]) ?_
   refine h_met rfl rfl ?_
   refine h_op (a := .raw (.bool (!x8))) rfl rfl rfl rfl (by dsimp only [aput, List.set]) ?_
   refine h_op (a := .raw (.bool (!x8))) rfl rfl rfl rfl (by dsimp only [aput, List.set]) ?_
   refine bif_e h (fun hc3 h => ?_) (fun hc3 h => ?_)
   ·
    refine h_op (a := .raw (.bool true)) rfl rfl rfl (q_bool rfl hc3) (by dsimp only [aput, List.set]) ?_
    refine h_pass rfl rfl rfl (by decide) (by dsimp only [aput, List.set]) ?_
    refine h_pass rfl rfl rfl (by decide) (by dsimp only [aput, List.set]) ?_
    refine h_pass rfl rfl rfl (by decide) (by dsimp only [aput, List.set]) ?_
    refine h_pass rfl rfl rfl (by decide) (by dsimp only [aput, List.set]) ?_
    refine h_op (a := .raw (.bool true)) rfl rfl rfl rfl (by dsimp only [aput, List.set]) ?_
    refine h_op (a := .raw (.bool true)) rfl rfl rfl rfl (by dsimp only [aput, List.set]) ?_
    refine h_pass rfl rfl rfl (by decide) (by dsimp only [aput, List.set]) ?_
    refine h_pass rfl rfl rfl (by decide) (by dsimp only [aput, List.set]) ?_
    refine h_pass rfl rfl rfl (by decide) (by dsimp only [aput, List.set]) ?_
    refine h_pass rfl rfl rfl (by decide) (by dsimp only [aput, List.set]) ?_
    refine h_pass rfl rfl rfl (by decide) (by dsimp only [aput, List.set]) ?_
    refine h_pass rfl rfl rfl (by decide) (by dsimp only [aput, List.set]) ?_
    refine h_pass rfl rfl rfl (by decide) (by dsimp only [aput, List.set]) ?_
    refine h_pass rfl rfl rfl (by decide) (by dsimp only [aput, List.set]) ?_
    refine h_op (a := .raw (.bool true)) rfl rfl rfl rfl (by dsimp only [aput, List.set]) ?_
    refine h_op (a := .raw (.bool true)) rfl rfl rfl rfl (by dsimp only [aput, List.set]) ?_
    refine h_pass rfl rfl rfl (by decide) (by dsimp only [aput, List.set]) ?_
    refine h_pass rfl rfl rfl (by decide) (by dsimp only [aput, List.set]) ?_
    refine h_pass rfl rfl rfl (by decide) (by dsimp only [aput, List.set]) ?_
    refine h_pass rfl rfl rfl (by decide) (by dsimp only [aput, List.set]) ?_
    refine h_pass rfl rfl rfl (by decide) (by dsimp only [aput, List.set]) ?_
    refine h_op (a := .raw (.bool true)) rfl rfl rfl rfl (by dsimp only [aput, List.set]) ?_
    refine h_op (a := .raw (.bool true)) rfl rfl rfl rfl (by dsimp only [aput, List.set]) ?_
    refine h_pass rfl rfl rfl (by decide) (by dsimp only [aput, List.set]) ?_
    refine h_pass rfl rfl rfl (by decide) (by dsimp only [aput, List.set]) ?_
    refine h_pass rfl rfl rfl (by decide) (by dsimp only [aput, List.set]) ?_
    refine h_pass rfl rfl rfl (by decide) (by dsimp only [aput, List.set]) ?_
    refine h_pass rfl rfl rfl (by decide) (by dsimp only [aput, List.set]) ?_
    refine h_pass rfl rfl rfl (by decide) (by dsimp only [aput, List.set]) ?_
    refine h_pass rfl rfl rfl (by decide) (by dsimp only [aput, List.set]) ?_
    refine h_pass rfl rfl rfl (by decide) (by dsimp only [aput, List.set]) ?_
    refine h_op (a := .raw (.bool true)) rfl rfl rfl rfl (by dsimp only [aput, List.set]) ?_
    refine h_op (a := .raw (.bool true)) rfl rfl rfl rfl (by dsimp only [aput, List.set]) ?_
    refine h_pass rfl rfl rfl (by decide) (by dsimp only [aput, List.set]) ?_
    refine h_pass rfl rfl rfl (by decide) (by dsimp only [aput, List.set]) ?_
    refine h_pass rfl rfl rfl (by decide) (by dsimp only [aput, List.set]) ?_
    refine h_pass rfl rfl rfl (by decide) (by dsimp only [aput, List.set]) ?_
    refine h_pass rfl rfl rfl (by decide) (by dsimp only [aput, List.set]) ?_
    refine h_pass rfl rfl rfl (by decide) (by dsimp only [aput, List.set]) ?_
    refine h_pass rfl rfl rfl (by decide) (by dsimp only [aput, List.set]) ?_
    refine h_pass rfl rfl rfl (by decide) (by dsimp only [aput, List.set]) ?_
    refine h_op (a := .raw (.bool true)) rfl rfl rfl rfl (by dsimp only [aput, List.set]) ?_
    refine h_op (a := .raw (.bool true)) rfl rfl rfl rfl (by dsimp only [aput, List.set]) ?_
    refine h_pass rfl rfl rfl (by decide) (by dsimp only [aput, List.set]) ?_
    refine h_pass rfl rfl rfl (by decide) (by dsimp only [aput, List.set]) ?_
    refine h_pass rfl rfl rfl (by decide) (by dsimp only [aput, List.set]) ?_
    refine h_pass rfl rfl rfl (by decide) (by dsimp only [aput, List.set]) ?_
    refine h_pass rfl rfl rfl (by decide) (by dsimp only [aput, List.set]) ?_
    refine h_pass rfl rfl rfl (by decide) (by dsimp only [aput, List.set]) ?_
    refine h_pass rfl rfl rfl (by decide) (by dsimp only [aput, List.set]) ?_
    refine h_pass rfl rfl rfl (by decide) (by dsimp only [aput, List.set]) ?_
    refine h_op (a := .raw (.bool true)) rfl rfl rfl rfl (by dsimp only [aput, List.set]) ?_
    refine h_op (a := .raw (.bool true)) rfl rfl rfl rfl (by dsimp only [aput, List.set]) ?_
    refine h_pass rfl rfl rfl (by decide) (by dsimp only [aput, List.set]) ?_
    refine h_pass rfl rfl rfl (by decide) (by dsimp only [aput, List.set]) ?_
    refine h_pass rfl rfl rfl (by decide) (by dsimp only [aput, List.set]) ?_
    refine h_pass rfl rfl rfl (by decide) (by dsimp only [aput, List.set]) ?_
    refine h_end ?_
    refine w_pass rfl rfl (by decide) (by dsimp only [aput, List.set]) ?_
    refine w_pass rfl rfl (by decide) (by dsimp only [aput, List.set]) ?_
    refine w_pass rfl rfl (by decide) (by dsimp only [aput, List.set]) ?_
    refine w_op (a := .raw (.bool true)) rfl rfl rfl rfl (by dsimp only [aput, List.set]) ?_
    refine w_true rfl ?_
    refine w_seq (w_region ?_)
    refine w_op (a := .raw (.bool false)) rfl rfl rfl rfl (by dsimp only [aput, List.set]) ?_
    exact end_pureF (fun (r : Bool) => (.raw (.bool r) : AV)) h (a := .raw (.bool false)) rfl rfl rfl
   ·
    refine h_op (a := .raw (.bool false)) rfl rfl rfl (q_bool rfl hc3) (by dsimp only [aput, List.set]) ?_
    refine h_met rfl rfl ?_
    obtain ⟨x9, hx9, h⟩ := letE_e h
    refine h_call (args' := []) (r := .agg (Enc.cells (x9 : BS))) (by rw [← hx9]; exact k_all) rfl rfl rfl rfl rfl (by dsimp only [aput, List.set]) ?_
    refine h_met rfl rfl ?_
    refine h_op (a := .agg (Enc.cells (j1 : Ar))) rfl rfl rfl (q_loadArr j1 (by decide) rfl rfl rfl) (by dsimp only [aput, List.set]) ?_
    refine h_met rfl rfl ?_
    obtain ⟨x10, hx10, h⟩ := bindE_e h
    refine h_call (args' := [.agg (Enc.cells (x9 : BS)), .agg (Enc.cells (j1 : Ar))]) (r := .raw (.bool x10)) (is_sh fuel x9 j1 x10 hx10) rfl rfl rfl (stripL_cons (strip_c (clo_agg (Enc.clo _))) (stripL_cons (strip_c (clo_agg (Enc.clo _))) rfl)) (okTrimL_cons (okTrim_clo _ _ (clo_agg (Enc.clo _))) (okTrimL_cons (okTrim_clo _ _ (clo_agg (Enc.clo _))) rfl)) (by dsimp only [aput, List.set]) ?_
    refine h_met rfl rfl ?_
    refine h_op (a := .raw (.bool (!x10))) rfl rfl rfl rfl (by dsimp only [aput, List.set]) ?_
    refine h_op (a := .raw (.bool (!x10))) rfl rfl rfl rfl (by dsimp only [aput, List.set]) ?_
    refine bif_e h (fun hc4 h => ?_) (fun hc4 h => ?_)
    ·
     refine h_op (a := .raw (.bool true)) rfl rfl rfl (q_bool rfl hc4) (by dsimp only [aput, List.set]) ?_
     refine h_pass rfl rfl rfl (by decide) (by dsimp only [aput, List.set]) ?_
     refine h_pass rfl rfl rfl (by decide) (by dsimp only [aput, List.set]) ?_
     refine h_pass rfl rfl rfl (by decide) (by dsimp only [aput, List.set]) ?_
     refine h_pass rfl rfl rfl (by decide) (by dsimp only [aput, List.set]) ?_
     refine h_pass rfl rfl rfl (by decide) (by dsimp only [aput, List.set]) ?_
     refine h_pass rfl rfl rfl (by decide) (by dsimp only [aput, List.set]) ?_
     refine h_pass rfl rfl rfl (by decide) (by dsimp only [aput, List.set]) ?_
     refine h_pass rfl rfl rfl (by decide) (by dsimp only [aput, List.set]) ?_
     refine h_op (a := .raw (.bool true)) rfl rfl rfl rfl (by dsimp only [aput, List.set]) ?_
     refine h_op (a := .raw (.bool true)) rfl rfl rfl rfl (by dsimp only [aput, List.set]) ?_
     refine h_pass rfl rfl rfl (by decide) (by dsimp only [aput, List.set]) ?_
     refine h_pass rfl rfl rfl (by decide) (by dsimp only [aput, List.set]) ?_
     refine h_pass rfl rfl rfl (by decide) (by dsimp only [aput, List.set]) ?_
     refine h_pass rfl rfl rfl (by decide) (by dsimp only [aput, List.set]) ?_
     refine h_pass rfl rfl rfl (by decide) (by dsimp only [aput, List.set]) ?_
     refine h_op (a := .raw (.bool true)) rfl rfl rfl rfl (by dsimp only [aput, List.set]) ?_
     refine h_op (a := .raw (.bool true)) rfl rfl rfl rfl (by dsimp only [aput, List.set]) ?_
     refine h_pass rfl rfl rfl (by decide) (by dsimp only [aput, List.set]) ?_
     refine h_pass rfl rfl rfl (by decide) (by dsimp only [aput, List.set]) ?_
     refine h_pass rfl rfl rfl (by decide) (by dsimp only [aput, List.set]) ?_
     refine h_pass rfl rfl rfl (by decide) (by dsimp only [aput, List.set]) ?_
     refine h_pass rfl rfl rfl (by decide) (by dsimp only [aput, List.set]) ?_
     refine h_pass rfl rfl rfl (by decide) (by dsimp only [aput, List.set]) ?_
     refine h_pass rfl rfl rfl (by decide) (by dsimp only [aput, List.set]) ?_
     refine h_pass rfl rfl rfl (by decide) (by dsimp only [aput, List.set]) ?_
     refine h_op (a := .raw (.bool true)) rfl rfl rfl rfl (by dsimp only [aput, List.set]) ?_
     refine h_op (a := .raw (.bool true)) rfl rfl rfl rfl (by dsimp only [aput, List.set]) ?_
     refine h_pass rfl rfl rfl (by decide) (by dsimp only [aput, List.set]) ?_
     refine h_pass rfl rfl rfl (by decide) (by dsimp only [aput, List.set]) ?_
     refine h_pass rfl rfl rfl (by decide) (by dsimp only [aput, List.set]) ?_
     refine h_pass rfl rfl rfl (by decide) (by dsimp only [aput, List.set]) ?_
     refine h_pass rfl rfl rfl (by decide) (by dsimp only [aput, List.set]) ?_
     refine h_pass rfl rfl rfl (by decide) (by dsimp only [aput, List.set]) ?_
     refine h_pass rfl rfl rfl (by decide) (by dsimp only [aput, List.set]) ?_
     refine h_pass rfl rfl rfl (by decide) (by dsimp only [aput, List.set]) ?_
     refine h_op (a := .raw (.bool true)) rfl rfl rfl rfl (by dsimp only [aput, List.set]) ?_
     refine h_op (a := .raw (.bool true)) rfl rfl rfl rfl (by dsimp only [aput, List.set]) ?_
     refine h_pass rfl rfl rfl (by decide) (by dsimp only [aput, List.set]) ?_
     refine h_pass rfl rfl rfl (by decide) (by dsimp only [aput, List.set]) ?_
     refine h_pass rfl rfl rfl (by decide) (by dsimp only [aput, List.set]) ?_
     refine h_pass rfl rfl rfl (by decide) (by dsimp only [aput, List.set]) ?_
     refine h_pass rfl rfl rfl (by decide) (by dsimp only [aput, List.set]) ?_
     refine h_pass rfl rfl rfl (by decide) (by dsimp only [aput, List.set]) ?_
     refine h_pass rfl rfl rfl (by decide) (by dsimp only [aput, List.set]) ?_
     refine h_pass rfl rfl rfl (by decide) (by dsimp only [aput, List.set]) ?_
     refine h_op (a := .raw (.bool true)) rfl rfl rfl rfl (by dsimp only [aput, List.set]) ?_
     refine h_op (a := .raw (.bool true)) rfl rfl rfl rfl (by dsimp only [aput, List.set]) ?_
     refine h_pass rfl rfl rfl (by decide) (by dsimp only [aput, List.set]) ?_
     refine h_pass rfl rfl rfl (by decide) (by dsimp only [aput, List.set]) ?_
     refine h_pass rfl rfl rfl (by decide) (by dsimp only [aput, List.set]) ?_
     refine h_pass rfl rfl rfl (by decide) (by dsimp only [aput, List.set]) ?_
     refine h_end ?_
     refine w_pass rfl rfl (by decide) (by dsimp only [aput, List.set]) ?_
     refine w_pass rfl rfl (by decide) (by dsimp only [aput, List.set]) ?_
     refine w_pass rfl rfl (by decide) (by dsimp only [aput, List.set]) ?_
     refine w_op (a := .raw (.bool true)) rfl rfl rfl rfl (by dsimp only [aput, List.set]) ?_
     refine w_true rfl ?_
     refine w_seq (w_region ?_)
     refine w_op (a := .raw (.bool false)) rfl rfl rfl rfl (by dsimp only [aput, List.set]) ?_
     exact end_pureF (fun (r : Bool) => (.raw (.bool r) : AV)) h (a := .raw (.bool false)) rfl rfl rfl
    ·
     refine h_op (a := .raw (.bool false)) rfl rfl rfl (q_bool rfl hc4) (by dsimp only [aput, List.set]) ?_
     refine h_met rfl rfl ?_
     refine h_op (a := .agg (Enc.cells (a : BS))) rfl rfl rfl rfl (by dsimp only [aput, List.set]) ?_
     refine h_met rfl rfl ?_
     refine h_op (a := .raw (.int .u8 c)) rfl rfl rfl rfl (by dsimp only [aput, List.set]) ?_
     refine h_met rfl rfl ?_
     obtain ⟨g10, h⟩ := chk_e h
     obtain ⟨x11, hx11, h⟩ := letE_e h
     refine h_call (args' := [.agg (Enc.cells (a : BS)), .raw (.int .u8 c)]) (r := .raw (.bool x11)) (by rw [← hx11]; exact (k_has a c g10)) rfl rfl rfl (stripL_cons (strip_c (clo_agg (Enc.clo _))) (stripL_cons rfl rfl)) (okTrimL_cons (okTrim_clo _ _ (clo_agg (Enc.clo _))) (okTrimL_cons rfl rfl)) (by dsimp only [aput, List.set]) ?_
     refine h_met rfl rfl ?_
     refine h_op (a := .raw (.int .u8 c)) rfl rfl rfl rfl (by dsimp only [aput, List.set]) ?_
     refine h_met rfl rfl ?_
     obtain ⟨g11, h⟩ := chk_e h
     refine h_op (a := .ptr 2 (0 + Int.toNat c * 1)) rfl rfl rfl (q_idxA g11 rfl rfl rfl rfl rfl) (by dsimp only [aput, List.set]) ?_
     refine h_met rfl rfl ?_
     refine h_op (a := .raw (.int .i64 (rdA x1 c))) rfl rfl rfl (q_loadA x1 g11 rfl rfl rfl) (by dsimp only [aput, List.set]) ?_
     refine h_met rfl rfl ?_
     refine h_op (a := .raw (.bool ((rdA x1 c) == 1))) rfl rfl rfl rfl (by dsimp only [aput, List.set]) ?_
     refine h_met rfl rfl ?_
     refine h_op (a := .raw (.bool (!(x11 == ((rdA x1 c) == 1))))) rfl rfl rfl (by kernel_rfl) (by dsimp only [aput, List.set]) ?_
     refine h_op (a := .raw (.bool (!(x11 == ((rdA x1 c) == 1))))) rfl rfl rfl rfl (by dsimp only [aput, List.set]) ?_
     refine bif_e h (fun hc5 h => ?_) (fun hc5 h => ?_)
     ·
      refine h_op (a := .raw (.bool true)) rfl rfl rfl (q_bool rfl hc5) (by dsimp only [aput, List.set]) ?_
      refine h_pass rfl rfl rfl (by decide) (by dsimp only [aput, List.set]) ?_
      refine h_pass rfl rfl rfl (by decide) (by dsimp only [aput, List.set]) ?_
      refine h_pass rfl rfl rfl (by decide) (by dsimp only [aput, List.set]) ?_
      refine h_pass rfl rfl rfl (by decide) (by dsimp only [aput, List.set]) ?_
      refine h_pass rfl rfl rfl (by decide) (by dsimp only [aput, List.set]) ?_
      refine h_op (a := .raw (.bool true)) rfl rfl rfl rfl (by dsimp only [aput, List.set]) ?_
      refine h_op (a := .raw (.bool true)) rfl rfl rfl rfl (by dsimp only [aput, List.set]) ?_
      refine h_pass rfl rfl rfl (by decide) (by dsimp only [aput, List.set]) ?_
      refine h_pass rfl rfl rfl (by decide) (by dsimp only [aput, List.set]) ?_
      refine h_pass rfl rfl rfl (by decide) (by dsimp only [aput, List.set]) ?_
      refine h_pass rfl rfl rfl (by decide) (by dsimp only [aput, List.set]) ?_
      refine h_pass rfl rfl rfl (by decide) (by dsimp only [aput, List.set]) ?_
      refine h_pass rfl rfl rfl (by decide) (by dsimp only [aput, List.set]) ?_
      refine h_pass rfl rfl rfl (by decide) (by dsimp only [aput, List.set]) ?_
      refine h_pass rfl rfl rfl (by decide) (by dsimp only [aput, List.set]) ?_
      refine h_op (a := .raw (.bool true)) rfl rfl rfl rfl (by dsimp only [aput, List.set]) ?_
      refine h_op (a := .raw (.bool true)) rfl rfl rfl rfl (by dsimp only [aput, List.set]) ?_
      refine h_pass rfl rfl rfl (by decide) (by dsimp only [aput, List.set]) ?_
      refine h_pass rfl rfl rfl (by decide) (by dsimp only [aput, List.set]) ?_
      refine h_pass rfl rfl rfl (by decide) (by dsimp only [aput, List.set]) ?_
      refine h_pass rfl rfl rfl (by decide) (by dsimp only [aput, List.set]) ?_
      refine h_pass rfl rfl rfl (by decide) (by dsimp only [aput, List.set]) ?_
      refine h_pass rfl rfl rfl (by decide) (by dsimp only [aput, List.set]) ?_
      refine h_pass rfl rfl rfl (by decide) (by dsimp only [aput, List.set]) ?_
      refine h_pass rfl rfl rfl (by decide) (by dsimp only [aput, List.set]) ?_
      refine h_op (a := .raw (.bool true)) rfl rfl rfl rfl (by dsimp only [aput, List.set]) ?_
      refine h_op (a := .raw (.bool true)) rfl rfl rfl rfl (by dsimp only [aput, List.set]) ?_
      refine h_pass rfl rfl rfl (by decide) (by dsimp only [aput, List.set]) ?_
      refine h_pass rfl rfl rfl (by decide) (by dsimp only [aput, List.set]) ?_
      refine h_pass rfl rfl rfl (by decide) (by dsimp only [aput, List.set]) ?_
      refine h_pass rfl rfl rfl (by decide) (by dsimp only [aput, List.set]) ?_
      refine h_pass rfl rfl rfl (by decide) (by dsimp only [aput, List.set]) ?_
      refine h_pass rfl rfl rfl (by decide) (by dsimp only [aput, List.set]) ?_
      refine h_pass rfl rfl rfl (by decide) (by dsimp only [aput, List.set]) ?_
      refine h_pass rfl rfl rfl (by decide) (by dsimp only [aput, List.set]) ?_
      refine h_op (a := .raw (.bool true)) rfl rfl rfl rfl (by dsimp only [aput, List.set]) ?_
      refine h_op (a := .raw (.bool true)) rfl rfl rfl rfl (by dsimp only [aput, List.set]) ?_
      refine h_pass rfl rfl rfl (by decide) (by dsimp only [aput, List.set]) ?_
      refine h_pass rfl rfl rfl (by decide) (by dsimp only [aput, List.set]) ?_
      refine h_pass rfl rfl rfl (by decide) (by dsimp only [aput, List.set]) ?_
      refine h_pass rfl rfl rfl (by decide) (by dsimp only [aput, List.set]) ?_
      refine h_end ?_
      refine w_pass rfl rfl (by decide) (by dsimp only [aput, List.set]) ?_
      refine w_pass rfl rfl (by decide) (by dsimp only [aput, List.set]) ?_
      refine w_pass rfl rfl (by decide) (by dsimp only [aput, List.set]) ?_
      refine w_op (a := .raw (.bool true)) rfl rfl rfl rfl (by dsimp only [aput, List.set]) ?_
      refine w_true rfl ?_
      refine w_seq (w_region ?_)
      refine w_op (a := .raw (.bool false)) rfl rfl rfl rfl (by dsimp only [aput, List.set]) ?_
      exact end_pureF (fun (r : Bool) => (.raw (.bool r) : AV)) h (a := .raw (.bool false)) rfl rfl rfl
     ·
      refine h_op (a := .raw (.bool false)) rfl rfl rfl (q_bool rfl hc5) (by dsimp only [aput, List.set]) ?_
      refine h_met rfl rfl ?_
      refine h_op (a := .agg (Enc.cells (a : BS))) rfl rfl rfl rfl (by dsimp only [aput, List.set]) ?_
      refine h_met rfl rfl ?_
      obtain ⟨x12, hx12, h⟩ := letE_e h
      refine h_call (args' := [.agg (Enc.cells (a : BS))]) (r := .raw (.int .i64 x12)) (by rw [← hx12]; exact (k_size a)) rfl rfl rfl (stripL_cons (strip_c (clo_agg (Enc.clo _))) rfl) (okTrimL_cons (okTrim_clo _ _ (clo_agg (Enc.clo _))) rfl) (by dsimp only [aput, List.set]) ?_
      refine h_met rfl rfl ?_
      refine h_op (a := .agg (Enc.cells (x1 : Ar))) rfl rfl rfl (q_loadArr x1 (by decide) rfl rfl rfl) (by dsimp only [aput, List.set]) ?_
      refine h_met rfl rfl ?_
      obtain ⟨x13, hx13, h⟩ := bindE_e h
      refine h_call (args' := [.agg (Enc.cells (x1 : Ar))]) (r := .raw (.int .i64 x13)) (rsize_sh fuel x1 x13 hx13) rfl rfl rfl (stripL_cons (strip_c (clo_agg (Enc.clo _))) rfl) (okTrimL_cons (okTrim_clo _ _ (clo_agg (Enc.clo _))) rfl) (by dsimp only [aput, List.set]) ?_
      refine h_met rfl rfl ?_
      refine h_op (a := .raw (.bool (x12 != x13))) rfl rfl rfl rfl (by dsimp only [aput, List.set]) ?_
      refine h_op (a := .raw (.bool (x12 != x13))) rfl rfl rfl rfl (by dsimp only [aput, List.set]) ?_
      refine bif_e h (fun hc6 h => ?_) (fun hc6 h => ?_)
      ·
       refine h_op (a := .raw (.bool true)) rfl rfl rfl (q_bool rfl hc6) (by dsimp only [aput, List.set]) ?_
       refine h_pass rfl rfl rfl (by decide) (by dsimp only [aput, List.set]) ?_
       refine h_pass rfl rfl rfl (by decide) (by dsimp only [aput, List.set]) ?_
       refine h_pass rfl rfl rfl (by decide) (by dsimp only [aput, List.set]) ?_
       refine h_pass rfl rfl rfl (by decide) (by dsimp only [aput, List.set]) ?_
       refine h_pass rfl rfl rfl (by decide) (by dsimp only [aput, List.set]) ?_
       refine h_pass rfl rfl rfl (by decide) (by dsimp only [aput, List.set]) ?_
       refine h_pass rfl rfl rfl (by decide) (by dsimp only [aput, List.set]) ?_
       refine h_pass rfl rfl rfl (by decide) (by dsimp only [aput, List.set]) ?_
       refine h_op (a := .raw (.bool true)) rfl rfl rfl rfl (by dsimp only [aput, List.set]) ?_
       refine h_op (a := .raw (.bool true)) rfl rfl rfl rfl (by dsimp only [aput, List.set]) ?_
       refine h_pass rfl rfl rfl (by decide) (by dsimp only [aput, List.set]) ?_
       refine h_pass rfl rfl rfl (by decide) (by dsimp only [aput, List.set]) ?_
       refine h_pass rfl rfl rfl (by decide) (by dsimp only [aput, List.set]) ?_
       refine h_pass rfl rfl rfl (by decide) (by dsimp only [aput, List.set]) ?_
       refine h_pass rfl rfl rfl (by decide) (by dsimp only [aput, List.set]) ?_
       refine h_pass rfl rfl rfl (by decide) (by dsimp only [aput, List.set]) ?_
       refine h_pass rfl rfl rfl (by decide) (by dsimp only [aput, List.set]) ?_
       refine h_pass rfl rfl rfl (by decide) (by dsimp only [aput, List.set]) ?_
       refine h_op (a := .raw (.bool true)) rfl rfl rfl rfl (by dsimp only [aput, List.set]) ?_
       refine h_op (a := .raw (.bool true)) rfl rfl rfl rfl (by dsimp only [aput, List.set]) ?_
       refine h_pass rfl rfl rfl (by decide) (by dsimp only [aput, List.set]) ?_
       refine h_pass rfl rfl rfl (by decide) (by dsimp only [aput, List.set]) ?_
       refine h_pass rfl rfl rfl (by decide) (by dsimp only [aput, List.set]) ?_
       refine h_pass rfl rfl rfl (by decide) (by dsimp only [aput, List.set]) ?_
       refine h_pass rfl rfl rfl (by decide) (by dsimp only [aput, List.set]) ?_
       refine h_pass rfl rfl rfl (by decide) (by dsimp only [aput, List.set]) ?_
       refine h_pass rfl rfl rfl (by decide) (by dsimp only [aput, List.set]) ?_
       refine h_pass rfl rfl rfl (by decide) (by dsimp only [aput, List.set]) ?_
       refine h_op (a := .raw (.bool true)) rfl rfl rfl rfl (by dsimp only [aput, List.set]) ?_
       refine h_op (a := .raw (.bool true)) rfl rfl rfl rfl (by dsimp only [aput, List.set]) ?_
       refine h_pass rfl rfl rfl (by decide) (by dsimp only [aput, List.set]) ?_
       refine h_pass rfl rfl rfl (by decide) (by dsimp only [aput, List.set]) ?_
       refine h_pass rfl rfl rfl (by decide) (by dsimp only [aput, List.set]) ?_
       refine h_pass rfl rfl rfl (by decide) (by dsimp only [aput, List.set]) ?_
       refine h_end ?_
       refine w_pass rfl rfl (by decide) (by dsimp only [aput, List.set]) ?_
       refine w_pass rfl rfl (by decide) (by dsimp only [aput, List.set]) ?_
       refine w_pass rfl rfl (by decide) (by dsimp only [aput, List.set]) ?_
       refine w_op (a := .raw (.bool true)) rfl rfl rfl rfl (by dsimp only [aput, List.set]) ?_
       refine w_true rfl ?_
       refine w_seq (w_region ?_)
       refine w_op (a := .raw (.bool false)) rfl rfl rfl rfl (by dsimp only [aput, List.set]) ?_
       exact end_pureF (fun (r : Bool) => (.raw (.bool r) : AV)) h (a := .raw (.bool false)) rfl rfl rfl
      ·
       refine h_op (a := .raw (.bool false)) rfl rfl rfl (q_bool rfl hc6) (by dsimp only [aput, List.set]) ?_
       refine h_met rfl rfl ?_
       refine h_op (a := .agg (Enc.cells (a : BS))) rfl rfl rfl rfl (by dsimp only [aput, List.set]) ?_
       refine h_met rfl rfl ?_
       refine h_op (a := .agg (Enc.cells (b : BS))) rfl rfl rfl rfl (by dsimp only [aput, List.set]) ?_
       refine h_met rfl rfl ?_
       obtain ⟨x14, hx14, h⟩ := letE_e h
       refine h_call (args' := [.agg (Enc.cells (a : BS)), .agg (Enc.cells (b : BS))]) (r := .agg (Enc.cells (x14 : BS))) (by rw [← hx14]; exact (k_or a b)) rfl rfl rfl (stripL_cons (strip_c (clo_agg (Enc.clo _))) (stripL_cons (strip_c (clo_agg (Enc.clo _))) rfl)) (okTrimL_cons (okTrim_clo _ _ (clo_agg (Enc.clo _))) (okTrimL_cons (okTrim_clo _ _ (clo_agg (Enc.clo _))) rfl)) (by dsimp only [aput, List.set]) ?_
       refine h_met rfl rfl ?_
       refine h_op (a := .agg (Enc.cells (x1 : Ar))) rfl rfl rfl (q_loadArr x1 (by decide) rfl rfl rfl) (by dsimp only [aput, List.set]) ?_
       refine h_met rfl rfl ?_
       refine h_op (a := .agg (Enc.cells (x2 : Ar))) rfl rfl rfl (q_loadArr x2 (by decide) rfl rfl rfl) (by dsimp only [aput, List.set]) ?_
       refine h_met rfl rfl ?_
       obtain ⟨x15, hx15, h⟩ := bindE_e h
       refine h_call (args' := [.agg (Enc.cells (x1 : Ar)), .agg (Enc.cells (x2 : Ar)), .raw (.int .i64 0)]) (r := .agg (Enc.cells (x15 : Ar))) (rboth_sh fuel x1 x2 0 x15 hx15) rfl rfl rfl (stripL_cons (strip_c (clo_agg (Enc.clo _))) (stripL_cons (strip_c (clo_agg (Enc.clo _))) (stripL_cons rfl rfl))) (okTrimL_cons (okTrim_clo _ _ (clo_agg (Enc.clo _))) (okTrimL_cons (okTrim_clo _ _ (clo_agg (Enc.clo _))) (okTrimL_cons rfl rfl))) (by dsimp only [aput, List.set]) ?_
       refine h_met rfl rfl ?_
       obtain ⟨x16, hx16, h⟩ := bindE_e h
       refine h_call (args' := [.agg (Enc.cells (x14 : BS)), .agg (Enc.cells (x15 : Ar))]) (r := .raw (.bool x16)) (is_sh fuel x14 x15 x16 hx16) rfl rfl rfl (stripL_cons (strip_c (clo_agg (Enc.clo _))) (stripL_cons (strip_c (clo_agg (Enc.clo _))) rfl)) (okTrimL_cons (okTrim_clo _ _ (clo_agg (Enc.clo _))) (okTrimL_cons (okTrim_clo _ _ (clo_agg (Enc.clo _))) rfl)) (by dsimp only [aput, List.set]) ?_
       refine h_met rfl rfl ?_
       refine h_op (a := .raw (.bool (!x16))) rfl rfl rfl rfl (by dsimp only [aput, List.set]) ?_
       refine h_op (a := .raw (.bool (!x16))) rfl rfl rfl rfl (by dsimp only [aput, List.set]) ?_
       refine bif_e h (fun hc7 h => ?_) (fun hc7 h => ?_)
       ·
        refine h_op (a := .raw (.bool true)) rfl rfl rfl (q_bool rfl hc7) (by dsimp only [aput, List.set]) ?_
        refine h_pass rfl rfl rfl (by decide) (by dsimp only [aput, List.set]) ?_
        refine h_pass rfl rfl rfl (by decide) (by dsimp only [aput, List.set]) ?_
        refine h_pass rfl rfl rfl (by decide) (by dsimp only [aput, List.set]) ?_
        refine h_pass rfl rfl rfl (by decide) (by dsimp only [aput, List.set]) ?_
        refine h_pass rfl rfl rfl (by decide) (by dsimp only [aput, List.set]) ?_
        refine h_pass rfl rfl rfl (by decide) (by dsimp only [aput, List.set]) ?_
        refine h_pass rfl rfl rfl (by decide) (by dsimp only [aput, List.set]) ?_
        refine h_pass rfl rfl rfl (by decide) (by dsimp only [aput, List.set]) ?_
        refine h_op (a := .raw (.bool true)) rfl rfl rfl rfl (by dsimp only [aput, List.set]) ?_
        refine h_op (a := .raw (.bool true)) rfl rfl rfl rfl (by dsimp only [aput, List.set]) ?_
        refine h_pass rfl rfl rfl (by decide) (by dsimp only [aput, List.set]) ?_
        refine h_pass rfl rfl rfl (by decide) (by dsimp only [aput, List.set]) ?_
        refine h_pass rfl rfl rfl (by decide) (by dsimp only [aput, List.set]) ?_
        refine h_pass rfl rfl rfl (by decide) (by dsimp only [aput, List.set]) ?_
        refine h_pass rfl rfl rfl (by decide) (by dsimp only [aput, List.set]) ?_
        refine h_pass rfl rfl rfl (by decide) (by dsimp only [aput, List.set]) ?_
        refine h_pass rfl rfl rfl (by decide) (by dsimp only [aput, List.set]) ?_
        refine h_pass rfl rfl rfl (by decide) (by dsimp only [aput, List.set]) ?_
        refine h_op (a := .raw (.bool true)) rfl rfl rfl rfl (by dsimp only [aput, List.set]) ?_
        refine h_op (a := .raw (.bool true)) rfl rfl rfl rfl (by dsimp only [aput, List.set]) ?_
        refine h_pass rfl rfl rfl (by decide) (by dsimp only [aput, List.set]) ?_
        refine h_pass rfl rfl rfl (by decide) (by dsimp only [aput, List.set]) ?_
        refine h_pass rfl rfl rfl (by decide) (by dsimp only [aput, List.set]) ?_
        refine h_pass rfl rfl rfl (by decide) (by dsimp only [aput, List.set]) ?_
        refine h_end ?_
        refine w_pass rfl rfl (by decide) (by dsimp only [aput, List.set]) ?_
        refine w_pass rfl rfl (by decide) (by dsimp only [aput, List.set]) ?_
        refine w_pass rfl rfl (by decide) (by dsimp only [aput, List.set]) ?_
        refine w_op (a := .raw (.bool true)) rfl rfl rfl rfl (by dsimp only [aput, List.set]) ?_
        refine w_true rfl ?_
        refine w_seq (w_region ?_)
        refine w_op (a := .raw (.bool false)) rfl rfl rfl rfl (by dsimp only [aput, List.set]) ?_
        exact end_pureF (fun (r : Bool) => (.raw (.bool r) : AV)) h (a := .raw (.bool false)) rfl rfl rfl
       ·
        refine h_op (a := .raw (.bool false)) rfl rfl rfl (q_bool rfl hc7) (by dsimp only [aput, List.set]) ?_
        refine h_met rfl rfl ?_
        refine h_op (a := .agg (Enc.cells (a : BS))) rfl rfl rfl rfl (by dsimp only [aput, List.set]) ?_
        refine h_met rfl rfl ?_
        refine h_op (a := .agg (Enc.cells (b : BS))) rfl rfl rfl rfl (by dsimp only [aput, List.set]) ?_
        refine h_met rfl rfl ?_
        obtain ⟨x17, hx17, h⟩ := letE_e h
        refine h_call (args' := [.agg (Enc.cells (a : BS)), .agg (Enc.cells (b : BS))]) (r := .agg (Enc.cells (x17 : BS))) (by rw [← hx17]; exact (k_and a b)) rfl rfl rfl (stripL_cons (strip_c (clo_agg (Enc.clo _))) (stripL_cons (strip_c (clo_agg (Enc.clo _))) rfl)) (okTrimL_cons (okTrim_clo _ _ (clo_agg (Enc.clo _))) (okTrimL_cons (okTrim_clo _ _ (clo_agg (Enc.clo _))) rfl)) (by dsimp only [aput, List.set]) ?_
        refine h_met rfl rfl ?_
        refine h_op (a := .agg (Enc.cells (x1 : Ar))) rfl rfl rfl (q_loadArr x1 (by decide) rfl rfl rfl) (by dsimp only [aput, List.set]) ?_
        refine h_met rfl rfl ?_
        refine h_op (a := .agg (Enc.cells (x2 : Ar))) rfl rfl rfl (q_loadArr x2 (by decide) rfl rfl rfl) (by dsimp only [aput, List.set]) ?_
        refine h_met rfl rfl ?_
        obtain ⟨x18, hx18, h⟩ := bindE_e h
        refine h_call (args' := [.agg (Enc.cells (x1 : Ar)), .agg (Enc.cells (x2 : Ar)), .raw (.int .i64 1)]) (r := .agg (Enc.cells (x18 : Ar))) (rboth_sh fuel x1 x2 1 x18 hx18) rfl rfl rfl (stripL_cons (strip_c (clo_agg (Enc.clo _))) (stripL_cons (strip_c (clo_agg (Enc.clo _))) (stripL_cons rfl rfl))) (okTrimL_cons (okTrim_clo _ _ (clo_agg (Enc.clo _))) (okTrimL_cons (okTrim_clo _ _ (clo_agg (Enc.clo _))) (okTrimL_cons rfl rfl))) (by dsimp only [aput, List.set]) ?_
        refine h_met rfl rfl ?_
        obtain ⟨x19, hx19, h⟩ := bindE_e h
        refine h_call (args' := [.agg (Enc.cells (x17 : BS)), .agg (Enc.cells (x18 : Ar))]) (r := .raw (.bool x19)) (is_sh fuel x17 x18 x19 hx19) rfl rfl rfl (stripL_cons (strip_c (clo_agg (Enc.clo _))) (stripL_cons (strip_c (clo_agg (Enc.clo _))) rfl)) (okTrimL_cons (okTrim_clo _ _ (clo_agg (Enc.clo _))) (okTrimL_cons (okTrim_clo _ _ (clo_agg (Enc.clo _))) rfl)) (by dsimp only [aput, List.set]) ?_
        refine h_met rfl rfl ?_
        refine h_op (a := .raw (.bool (!x19))) rfl rfl rfl rfl (by dsimp only [aput, List.set]) ?_
        refine h_op (a := .raw (.bool (!x19))) rfl rfl rfl rfl (by dsimp only [aput, List.set]) ?_
        refine bif_e h (fun hc8 h => ?_) (fun hc8 h => ?_)
        ·
         refine h_op (a := .raw (.bool true)) rfl rfl rfl (q_bool rfl hc8) (by dsimp only [aput, List.set]) ?_
         refine h_pass rfl rfl rfl (by decide) (by dsimp only [aput, List.set]) ?_
         refine h_pass rfl rfl rfl (by decide) (by dsimp only [aput, List.set]) ?_
         refine h_pass rfl rfl rfl (by decide) (by dsimp only [aput, List.set]) ?_
         refine h_pass rfl rfl rfl (by decide) (by dsimp only [aput, List.set]) ?_
         refine h_pass rfl rfl rfl (by decide) (by dsimp only [aput, List.set]) ?_
         refine h_pass rfl rfl rfl (by decide) (by dsimp only [aput, List.set]) ?_
         refine h_pass rfl rfl rfl (by decide) (by dsimp only [aput, List.set]) ?_
         refine h_pass rfl rfl rfl (by decide) (by dsimp only [aput, List.set]) ?_
         refine h_op (a := .raw (.bool true)) rfl rfl rfl rfl (by dsimp only [aput, List.set]) ?_
         refine h_op (a := .raw (.bool true)) rfl rfl rfl rfl (by dsimp only [aput, List.set]) ?_
         refine h_pass rfl rfl rfl (by decide) (by dsimp only [aput, List.set]) ?_
         refine h_pass rfl rfl rfl (by decide) (by dsimp only [aput, List.set]) ?_
         refine h_pass rfl rfl rfl (by decide) (by dsimp only [aput, List.set]) ?_
         refine h_pass rfl rfl rfl (by decide) (by dsimp only [aput, List.set]) ?_
         refine h_end ?_
         refine w_pass rfl rfl (by decide) (by dsimp only [aput, List.set]) ?_
         refine w_pass rfl rfl (by decide) (by dsimp only [aput, List.set]) ?_
         refine w_pass rfl rfl (by decide) (by dsimp only [aput, List.set]) ?_
         refine w_op (a := .raw (.bool true)) rfl rfl rfl rfl (by dsimp only [aput, List.set]) ?_
         refine w_true rfl ?_
         refine w_seq (w_region ?_)
         refine w_op (a := .raw (.bool false)) rfl rfl rfl rfl (by dsimp only [aput, List.set]) ?_
         exact end_pureF (fun (r : Bool) => (.raw (.bool r) : AV)) h (a := .raw (.bool false)) rfl rfl rfl
        ·
         refine h_op (a := .raw (.bool false)) rfl rfl rfl (q_bool rfl hc8) (by dsimp only [aput, List.set]) ?_
         refine h_met rfl rfl ?_
         refine h_op (a := .agg (Enc.cells (a : BS))) rfl rfl rfl rfl (by dsimp only [aput, List.set]) ?_
         refine h_met rfl rfl ?_
         refine h_op (a := .agg (Enc.cells (b : BS))) rfl rfl rfl rfl (by dsimp only [aput, List.set]) ?_
         refine h_met rfl rfl ?_
         obtain ⟨x20, hx20, h⟩ := letE_e h
         refine h_call (args' := [.agg (Enc.cells (a : BS)), .agg (Enc.cells (b : BS))]) (r := .agg (Enc.cells (x20 : BS))) (by rw [← hx20]; exact (k_less a b)) rfl rfl rfl (stripL_cons (strip_c (clo_agg (Enc.clo _))) (stripL_cons (strip_c (clo_agg (Enc.clo _))) rfl)) (okTrimL_cons (okTrim_clo _ _ (clo_agg (Enc.clo _))) (okTrimL_cons (okTrim_clo _ _ (clo_agg (Enc.clo _))) rfl)) (by dsimp only [aput, List.set]) ?_
         refine h_met rfl rfl ?_
         refine h_op (a := .agg (Enc.cells (x1 : Ar))) rfl rfl rfl (q_loadArr x1 (by decide) rfl rfl rfl) (by dsimp only [aput, List.set]) ?_
         refine h_met rfl rfl ?_
         refine h_op (a := .agg (Enc.cells (x2 : Ar))) rfl rfl rfl (q_loadArr x2 (by decide) rfl rfl rfl) (by dsimp only [aput, List.set]) ?_
         refine h_met rfl rfl ?_
         obtain ⟨x21, hx21, h⟩ := bindE_e h
         refine h_call (args' := [.agg (Enc.cells (x1 : Ar)), .agg (Enc.cells (x2 : Ar)), .raw (.int .i64 2)]) (r := .agg (Enc.cells (x21 : Ar))) (rboth_sh fuel x1 x2 2 x21 hx21) rfl rfl rfl (stripL_cons (strip_c (clo_agg (Enc.clo _))) (stripL_cons (strip_c (clo_agg (Enc.clo _))) (stripL_cons rfl rfl))) (okTrimL_cons (okTrim_clo _ _ (clo_agg (Enc.clo _))) (okTrimL_cons (okTrim_clo _ _ (clo_agg (Enc.clo _))) (okTrimL_cons rfl rfl))) (by dsimp only [aput, List.set]) ?_
         refine h_met rfl rfl ?_
         obtain ⟨x22, hx22, h⟩ := bindE_e h
         refine h_call (args' := [.agg (Enc.cells (x20 : BS)), .agg (Enc.cells (x21 : Ar))]) (r := .raw (.bool x22)) (is_sh fuel x20 x21 x22 hx22) rfl rfl rfl (stripL_cons (strip_c (clo_agg (Enc.clo _))) (stripL_cons (strip_c (clo_agg (Enc.clo _))) rfl)) (okTrimL_cons (okTrim_clo _ _ (clo_agg (Enc.clo _))) (okTrimL_cons (okTrim_clo _ _ (clo_agg (Enc.clo _))) rfl)) (by dsimp only [aput, List.set]) ?_
         refine h_met rfl rfl ?_
         refine h_op (a := .raw (.bool (!x22))) rfl rfl rfl rfl (by dsimp only [aput, List.set]) ?_
         refine h_op (a := .raw (.bool (!x22))) rfl rfl rfl rfl (by dsimp only [aput, List.set]) ?_
         refine bif_e h (fun hc9 h => ?_) (fun hc9 h => ?_)
         ·
          refine h_op (a := .raw (.bool true)) rfl rfl rfl (q_bool rfl hc9) (by dsimp only [aput, List.set]) ?_
          refine h_pass rfl rfl rfl (by decide) (by dsimp only [aput, List.set]) ?_
          refine h_pass rfl rfl rfl (by decide) (by dsimp only [aput, List.set]) ?_
          refine h_pass rfl rfl rfl (by decide) (by dsimp only [aput, List.set]) ?_
          refine h_pass rfl rfl rfl (by decide) (by dsimp only [aput, List.set]) ?_
          refine h_end ?_
          refine w_pass rfl rfl (by decide) (by dsimp only [aput, List.set]) ?_
          refine w_pass rfl rfl (by decide) (by dsimp only [aput, List.set]) ?_
          refine w_pass rfl rfl (by decide) (by dsimp only [aput, List.set]) ?_
          refine w_op (a := .raw (.bool true)) rfl rfl rfl rfl (by dsimp only [aput, List.set]) ?_
          refine w_true rfl ?_
          refine w_seq (w_region ?_)
          refine w_op (a := .raw (.bool false)) rfl rfl rfl rfl (by dsimp only [aput, List.set]) ?_
          exact end_pureF (fun (r : Bool) => (.raw (.bool r) : AV)) h (a := .raw (.bool false)) rfl rfl rfl
         ·
          refine h_op (a := .raw (.bool false)) rfl rfl rfl (q_bool rfl hc9) (by dsimp only [aput, List.set]) ?_
          refine h_met rfl rfl ?_
          refine h_op (a := .agg (Enc.cells (a : BS))) rfl rfl rfl rfl (by dsimp only [aput, List.set]) ?_
          refine h_met rfl rfl ?_
          obtain ⟨x23, hx23, h⟩ := letE_e h
          refine h_call (args' := [.agg (Enc.cells (a : BS))]) (r := .agg (Enc.cells (x23 : BS))) (by rw [← hx23]; exact (k_not a)) rfl rfl rfl (stripL_cons (strip_c (clo_agg (Enc.clo _))) rfl) (okTrimL_cons (okTrim_clo _ _ (clo_agg (Enc.clo _))) rfl) (by dsimp only [aput, List.set]) ?_
          refine h_met rfl rfl ?_
          refine h_op (a := .agg (Enc.cells (j1 : Ar))) rfl rfl rfl (q_loadArr j1 (by decide) rfl rfl rfl) (by dsimp only [aput, List.set]) ?_
          refine h_met rfl rfl ?_
          refine h_op (a := .agg (Enc.cells (x1 : Ar))) rfl rfl rfl (q_loadArr x1 (by decide) rfl rfl rfl) (by dsimp only [aput, List.set]) ?_
          refine h_end ?_
          refine w_met rfl rfl ?_
          obtain ⟨x24, hx24, h⟩ := bindE_e h
          refine w_callc (args' := [.agg (Enc.cells (j1 : Ar)), .agg (Enc.cells (x1 : Ar)), .raw (.int .i64 2)]) (r := .agg (Enc.cells (x24 : Ar))) (rboth_sh fuel j1 x1 2 x24 hx24) rfl rfl (stripL_cons (strip_c (clo_agg (Enc.clo _))) (stripL_cons (strip_c (clo_agg (Enc.clo _))) (stripL_cons rfl rfl))) (okTrimL_cons (okTrim_clo _ _ (clo_agg (Enc.clo _))) (okTrimL_cons (okTrim_clo _ _ (clo_agg (Enc.clo _))) (okTrimL_cons rfl rfl))) (by dsimp only [aput, List.set]) ?_
          refine w_met rfl rfl ?_
          obtain ⟨x25, hx25, h⟩ := bindE_e h
          refine w_callc (args' := [.agg (Enc.cells (x23 : BS)), .agg (Enc.cells (x24 : Ar))]) (r := .raw (.bool x25)) (is_sh fuel x23 x24 x25 hx25) rfl rfl (stripL_cons (strip_c (clo_agg (Enc.clo _))) (stripL_cons (strip_c (clo_agg (Enc.clo _))) rfl)) (okTrimL_cons (okTrim_clo _ _ (clo_agg (Enc.clo _))) (okTrimL_cons (okTrim_clo _ _ (clo_agg (Enc.clo _))) rfl)) (by dsimp only [aput, List.set]) ?_
          refine w_met rfl rfl ?_
          refine w_op (a := .raw (.bool (!x25))) rfl rfl rfl rfl (by dsimp only [aput, List.set]) ?_
          refine w_op (a := .raw (.bool (!x25))) rfl rfl rfl rfl (by dsimp only [aput, List.set]) ?_
          refine bif_e h (fun hc10 h => ?_) (fun hc10 h => ?_)
          ·
           refine w_condT hc10 rfl ?_
           refine w_seq (w_region ?_)
           refine w_op (a := .raw (.bool false)) rfl rfl rfl rfl (by dsimp only [aput, List.set]) ?_
           exact end_pureF (fun (r : Bool) => (.raw (.bool r) : AV)) h (a := .raw (.bool false)) rfl rfl rfl
          ·
           refine w_condF hc10 rfl ?_
           refine w_seq ?_
           refine w_seq ?_
           refine w_draw (id := 10) 33 (by kernel_rfl) (by kernel_rfl) ?_
           refine h_op (a := .agg (Enc.cells (a : BS))) rfl rfl rfl rfl (by dsimp only [aput, List.set]) ?_
           refine h_op (a := .agg (Enc.cells (b : BS))) rfl rfl rfl rfl (by dsimp only [aput, List.set]) ?_
           obtain ⟨x26, hx26, h⟩ := letE_e h
           refine h_call (args' := [.agg (Enc.cells (a : BS)), .agg (Enc.cells (b : BS))]) (r := .raw (.bool x26)) (by rw [← hx26]; exact (k_within a b)) rfl rfl rfl (stripL_cons (strip_c (clo_agg (Enc.clo _))) (stripL_cons (strip_c (clo_agg (Enc.clo _))) rfl)) (okTrimL_cons (okTrim_clo _ _ (clo_agg (Enc.clo _))) (okTrimL_cons (okTrim_clo _ _ (clo_agg (Enc.clo _))) rfl)) (by dsimp only [aput, List.set]) ?_
           refine h_op (a := .agg (Enc.cells (x1 : Ar))) rfl rfl rfl (q_loadArr x1 (by decide) rfl rfl rfl) (by dsimp only [aput, List.set]) ?_
           refine h_op (a := .agg (Enc.cells (x2 : Ar))) rfl rfl rfl (q_loadArr x2 (by decide) rfl rfl rfl) (by dsimp only [aput, List.set]) ?_
           obtain ⟨x27, hx27, h⟩ := bindE_e h
           refine h_call (args' := [.agg (Enc.cells (x1 : Ar)), .agg (Enc.cells (x2 : Ar)), .raw (.int .i64 2)]) (r := .agg (Enc.cells (x27 : Ar))) (rboth_sh fuel x1 x2 2 x27 hx27) rfl rfl rfl (stripL_cons (strip_c (clo_agg (Enc.clo _))) (stripL_cons (strip_c (clo_agg (Enc.clo _))) (stripL_cons rfl rfl))) (okTrimL_cons (okTrim_clo _ _ (clo_agg (Enc.clo _))) (okTrimL_cons (okTrim_clo _ _ (clo_agg (Enc.clo _))) (okTrimL_cons rfl rfl))) (by dsimp only [aput, List.set]) ?_
           obtain ⟨x28, hx28, h⟩ := bindE_e h
           refine h_call (args' := [.agg (Enc.cells (x27 : Ar))]) (r := .raw (.int .i64 x28)) (rsize_sh fuel x27 x28 hx28) rfl rfl rfl (stripL_cons (strip_c (clo_agg (Enc.clo _))) rfl) (okTrimL_cons (okTrim_clo _ _ (clo_agg (Enc.clo _))) rfl) (by dsimp only [aput, List.set]) ?_
           refine h_op (a := .raw (.bool (x28 == 0))) rfl rfl rfl rfl (by dsimp only [aput, List.set]) ?_
           refine h_op (a := .raw (.bool (!(x26 == (x28 == 0))))) rfl rfl rfl (by kernel_rfl) (by dsimp only [aput, List.set]) ?_
           refine bif_e h (fun hc11 h => ?_) (fun hc11 h => ?_)
           ·
            refine h_op (a := .raw (.bool true)) rfl rfl rfl (q_bool rfl hc11) (by dsimp only [aput, List.set]) ?_
            refine h_pass rfl rfl rfl (by decide) (by dsimp only [aput, List.set]) ?_
            refine h_pass rfl rfl rfl (by decide) (by dsimp only [aput, List.set]) ?_
            refine h_pass rfl rfl rfl (by decide) (by dsimp only [aput, List.set]) ?_
            refine h_pass rfl rfl rfl (by decide) (by dsimp only [aput, List.set]) ?_
            refine h_pass rfl rfl rfl (by decide) (by dsimp only [aput, List.set]) ?_
            refine h_pass rfl rfl rfl (by decide) (by dsimp only [aput, List.set]) ?_
            refine h_pass rfl rfl rfl (by decide) (by dsimp only [aput, List.set]) ?_
            refine h_pass rfl rfl rfl (by decide) (by dsimp only [aput, List.set]) ?_
            refine h_pass rfl rfl rfl (by decide) (by dsimp only [aput, List.set]) ?_
            refine h_op (a := .raw (.bool true)) rfl rfl rfl rfl (by dsimp only [aput, List.set]) ?_
            refine h_op (a := .raw (.bool true)) rfl rfl rfl rfl (by dsimp only [aput, List.set]) ?_
            refine h_pass rfl rfl rfl (by decide) (by dsimp only [aput, List.set]) ?_
            refine h_pass rfl rfl rfl (by decide) (by dsimp only [aput, List.set]) ?_
            refine h_pass rfl rfl rfl (by decide) (by dsimp only [aput, List.set]) ?_
            refine h_pass rfl rfl rfl (by decide) (by dsimp only [aput, List.set]) ?_
            refine h_pass rfl rfl rfl (by decide) (by dsimp only [aput, List.set]) ?_
            refine h_pass rfl rfl rfl (by decide) (by dsimp only [aput, List.set]) ?_
            refine h_pass rfl rfl rfl (by decide) (by dsimp only [aput, List.set]) ?_
            refine h_op (a := .raw (.bool true)) rfl rfl rfl rfl (by dsimp only [aput, List.set]) ?_
            refine h_op (a := .raw (.bool true)) rfl rfl rfl rfl (by dsimp only [aput, List.set]) ?_
            refine h_pass rfl rfl rfl (by decide) (by dsimp only [aput, List.set]) ?_
            refine h_pass rfl rfl rfl (by decide) (by dsimp only [aput, List.set]) ?_
            refine h_pass rfl rfl rfl (by decide) (by dsimp only [aput, List.set]) ?_
            refine h_end ?_
            refine w_pass rfl rfl (by decide) (by dsimp only [aput, List.set]) ?_
            refine w_pass rfl rfl (by decide) (by dsimp only [aput, List.set]) ?_
            refine w_pass rfl rfl (by decide) (by dsimp only [aput, List.set]) ?_
            refine w_op (a := .raw (.bool true)) rfl rfl rfl rfl (by dsimp only [aput, List.set]) ?_
            refine w_true rfl ?_
            refine w_seq (w_region ?_)
            refine w_op (a := .raw (.bool false)) rfl rfl rfl rfl (by dsimp only [aput, List.set]) ?_
            exact end_pureF (fun (r : Bool) => (.raw (.bool r) : AV)) h (a := .raw (.bool false)) rfl rfl rfl
           ·
            refine h_op (a := .raw (.bool false)) rfl rfl rfl (q_bool rfl hc11) (by dsimp only [aput, List.set]) ?_
            refine h_met rfl rfl ?_
            refine h_op (a := .agg (Enc.cells (a : BS))) rfl rfl rfl rfl (by dsimp only [aput, List.set]) ?_
            refine h_met rfl rfl ?_
            refine h_op (a := .agg (Enc.cells (b : BS))) rfl rfl rfl rfl (by dsimp only [aput, List.set]) ?_
            refine h_met rfl rfl ?_
            obtain ⟨x29, hx29, h⟩ := letE_e h
            refine h_call (args' := [.agg (Enc.cells (a : BS)), .agg (Enc.cells (b : BS))]) (r := .raw (.bool x29)) (by rw [← hx29]; exact (k_meets a b)) rfl rfl rfl (stripL_cons (strip_c (clo_agg (Enc.clo _))) (stripL_cons (strip_c (clo_agg (Enc.clo _))) rfl)) (okTrimL_cons (okTrim_clo _ _ (clo_agg (Enc.clo _))) (okTrimL_cons (okTrim_clo _ _ (clo_agg (Enc.clo _))) rfl)) (by dsimp only [aput, List.set]) ?_
            refine h_met rfl rfl ?_
            refine h_op (a := .agg (Enc.cells (x1 : Ar))) rfl rfl rfl (q_loadArr x1 (by decide) rfl rfl rfl) (by dsimp only [aput, List.set]) ?_
            refine h_met rfl rfl ?_
            refine h_op (a := .agg (Enc.cells (x2 : Ar))) rfl rfl rfl (q_loadArr x2 (by decide) rfl rfl rfl) (by dsimp only [aput, List.set]) ?_
            refine h_met rfl rfl ?_
            obtain ⟨x30, hx30, h⟩ := bindE_e h
            refine h_call (args' := [.agg (Enc.cells (x1 : Ar)), .agg (Enc.cells (x2 : Ar)), .raw (.int .i64 1)]) (r := .agg (Enc.cells (x30 : Ar))) (rboth_sh fuel x1 x2 1 x30 hx30) rfl rfl rfl (stripL_cons (strip_c (clo_agg (Enc.clo _))) (stripL_cons (strip_c (clo_agg (Enc.clo _))) (stripL_cons rfl rfl))) (okTrimL_cons (okTrim_clo _ _ (clo_agg (Enc.clo _))) (okTrimL_cons (okTrim_clo _ _ (clo_agg (Enc.clo _))) (okTrimL_cons rfl rfl))) (by dsimp only [aput, List.set]) ?_
            refine h_met rfl rfl ?_
            obtain ⟨x31, hx31, h⟩ := bindE_e h
            refine h_call (args' := [.agg (Enc.cells (x30 : Ar))]) (r := .raw (.int .i64 x31)) (rsize_sh fuel x30 x31 hx31) rfl rfl rfl (stripL_cons (strip_c (clo_agg (Enc.clo _))) rfl) (okTrimL_cons (okTrim_clo _ _ (clo_agg (Enc.clo _))) rfl) (by dsimp only [aput, List.set]) ?_
            refine h_met rfl rfl ?_
            refine h_op (a := .raw (.bool (decide (x31 > 0)))) rfl rfl rfl rfl (by dsimp only [aput, List.set]) ?_
            refine h_met rfl rfl ?_
            refine h_op (a := .raw (.bool (!(x29 == (decide (x31 > 0)))))) rfl rfl rfl (by kernel_rfl) (by dsimp only [aput, List.set]) ?_
            refine h_op (a := .raw (.bool (!(x29 == (decide (x31 > 0)))))) rfl rfl rfl rfl (by dsimp only [aput, List.set]) ?_
            refine bif_e h (fun hc12 h => ?_) (fun hc12 h => ?_)
            ·
             refine h_op (a := .raw (.bool true)) rfl rfl rfl (q_bool rfl hc12) (by dsimp only [aput, List.set]) ?_
             refine h_pass rfl rfl rfl (by decide) (by dsimp only [aput, List.set]) ?_
             refine h_pass rfl rfl rfl (by decide) (by dsimp only [aput, List.set]) ?_
             refine h_pass rfl rfl rfl (by decide) (by dsimp only [aput, List.set]) ?_
             refine h_pass rfl rfl rfl (by decide) (by dsimp only [aput, List.set]) ?_
             refine h_pass rfl rfl rfl (by decide) (by dsimp only [aput, List.set]) ?_
             refine h_pass rfl rfl rfl (by decide) (by dsimp only [aput, List.set]) ?_
             refine h_pass rfl rfl rfl (by decide) (by dsimp only [aput, List.set]) ?_
             refine h_op (a := .raw (.bool true)) rfl rfl rfl rfl (by dsimp only [aput, List.set]) ?_
             refine h_op (a := .raw (.bool true)) rfl rfl rfl rfl (by dsimp only [aput, List.set]) ?_
             refine h_pass rfl rfl rfl (by decide) (by dsimp only [aput, List.set]) ?_
             refine h_pass rfl rfl rfl (by decide) (by dsimp only [aput, List.set]) ?_
             refine h_pass rfl rfl rfl (by decide) (by dsimp only [aput, List.set]) ?_
             refine h_end ?_
             refine w_pass rfl rfl (by decide) (by dsimp only [aput, List.set]) ?_
             refine w_pass rfl rfl (by decide) (by dsimp only [aput, List.set]) ?_
             refine w_pass rfl rfl (by decide) (by dsimp only [aput, List.set]) ?_
             refine w_op (a := .raw (.bool true)) rfl rfl rfl rfl (by dsimp only [aput, List.set]) ?_
             refine w_true rfl ?_
             refine w_seq (w_region ?_)
             refine w_op (a := .raw (.bool false)) rfl rfl rfl rfl (by dsimp only [aput, List.set]) ?_
             exact end_pureF (fun (r : Bool) => (.raw (.bool r) : AV)) h (a := .raw (.bool false)) rfl rfl rfl
            ·
             refine h_op (a := .raw (.bool false)) rfl rfl rfl (q_bool rfl hc12) (by dsimp only [aput, List.set]) ?_
             refine h_met rfl rfl ?_
             refine h_op (a := .agg (Enc.cells (a : BS))) rfl rfl rfl rfl (by dsimp only [aput, List.set]) ?_
             refine h_met rfl rfl ?_
             refine h_op (a := .agg (Enc.cells (b : BS))) rfl rfl rfl rfl (by dsimp only [aput, List.set]) ?_
             refine h_met rfl rfl ?_
             obtain ⟨x32, hx32, h⟩ := letE_e h
             refine h_call (args' := [.agg (Enc.cells (a : BS)), .agg (Enc.cells (b : BS))]) (r := .raw (.int .i64 x32)) (by rw [← hx32]; exact (k_compare a b)) rfl rfl rfl (stripL_cons (strip_c (clo_agg (Enc.clo _))) (stripL_cons (strip_c (clo_agg (Enc.clo _))) rfl)) (okTrimL_cons (okTrim_clo _ _ (clo_agg (Enc.clo _))) (okTrimL_cons (okTrim_clo _ _ (clo_agg (Enc.clo _))) rfl)) (by dsimp only [aput, List.set]) ?_
             refine h_met rfl rfl ?_
             refine h_op (a := .agg (Enc.cells (x1 : Ar))) rfl rfl rfl (q_loadArr x1 (by decide) rfl rfl rfl) (by dsimp only [aput, List.set]) ?_
             refine h_met rfl rfl ?_
             refine h_op (a := .agg (Enc.cells (x2 : Ar))) rfl rfl rfl (q_loadArr x2 (by decide) rfl rfl rfl) (by dsimp only [aput, List.set]) ?_
             refine h_met rfl rfl ?_
             obtain ⟨x33, hx33, h⟩ := bindE_e h
             refine h_call (args' := [.agg (Enc.cells (x1 : Ar)), .agg (Enc.cells (x2 : Ar))]) (r := .raw (.int .i64 x33)) (rcompare_sh fuel x1 x2 x33 hx33) rfl rfl rfl (stripL_cons (strip_c (clo_agg (Enc.clo _))) (stripL_cons (strip_c (clo_agg (Enc.clo _))) rfl)) (okTrimL_cons (okTrim_clo _ _ (clo_agg (Enc.clo _))) (okTrimL_cons (okTrim_clo _ _ (clo_agg (Enc.clo _))) rfl)) (by dsimp only [aput, List.set]) ?_
             refine h_met rfl rfl ?_
             refine h_op (a := .raw (.bool (x32 != x33))) rfl rfl rfl rfl (by dsimp only [aput, List.set]) ?_
             refine h_op (a := .raw (.bool (x32 != x33))) rfl rfl rfl rfl (by dsimp only [aput, List.set]) ?_
             refine bif_e h (fun hc13 h => ?_) (fun hc13 h => ?_)
             ·
              refine h_op (a := .raw (.bool true)) rfl rfl rfl (q_bool rfl hc13) (by dsimp only [aput, List.set]) ?_
              refine h_pass rfl rfl rfl (by decide) (by dsimp only [aput, List.set]) ?_
              refine h_pass rfl rfl rfl (by decide) (by dsimp only [aput, List.set]) ?_
              refine h_pass rfl rfl rfl (by decide) (by dsimp only [aput, List.set]) ?_
              refine h_end ?_
              refine w_pass rfl rfl (by decide) (by dsimp only [aput, List.set]) ?_
              refine w_pass rfl rfl (by decide) (by dsimp only [aput, List.set]) ?_
              refine w_pass rfl rfl (by decide) (by dsimp only [aput, List.set]) ?_
              refine w_op (a := .raw (.bool true)) rfl rfl rfl rfl (by dsimp only [aput, List.set]) ?_
              refine w_true rfl ?_
              refine w_seq (w_region ?_)
              refine w_op (a := .raw (.bool false)) rfl rfl rfl rfl (by dsimp only [aput, List.set]) ?_
              exact end_pureF (fun (r : Bool) => (.raw (.bool r) : AV)) h (a := .raw (.bool false)) rfl rfl rfl
             ·
              refine h_op (a := .raw (.bool false)) rfl rfl rfl (q_bool rfl hc13) (by dsimp only [aput, List.set]) ?_
              refine h_met rfl rfl ?_
              refine h_op (a := .agg (Enc.cells (a : BS))) rfl rfl rfl rfl (by dsimp only [aput, List.set]) ?_
              refine h_met rfl rfl ?_
              obtain ⟨x34, hx34, h⟩ := letE_e h
              refine h_call (args' := [.agg (Enc.cells (a : BS))]) (r := .list (List.length (x34 : List UInt8)) (Enc.cellsL (x34 : List UInt8)) .none) (by rw [← hx34]; exact (k_bytes a)) rfl rfl rfl (stripL_cons (strip_c (clo_agg (Enc.clo _))) rfl) (okTrimL_cons (okTrim_clo _ _ (clo_agg (Enc.clo _))) rfl) (by dsimp only [aput, List.set]) ?_
              refine h_met rfl rfl ?_
              refine h_op (a := .agg (Enc.cells (x1 : Ar))) rfl rfl rfl (q_loadArr x1 (by decide) rfl rfl rfl) (by dsimp only [aput, List.set]) ?_
              refine h_end ?_
              refine w_met rfl rfl ?_
              obtain ⟨x35, hx35, h⟩ := bindE_e h
              refine w_callc (args' := [.agg (Enc.cells (x1 : Ar))]) (r := .list (List.length (x35 : List UInt8)) (Enc.cellsL (x35 : List UInt8)) .none) (rbytes_sh fuel x1 x35 hx35) rfl rfl (stripL_cons (strip_c (clo_agg (Enc.clo _))) rfl) (okTrimL_cons (okTrim_clo _ _ (clo_agg (Enc.clo _))) rfl) (by dsimp only [aput, List.set]) ?_
              refine w_met rfl rfl ?_
              obtain ⟨x36, hx36, h⟩ := bindE_e h
              refine w_callc (args' := [.list (List.length (x34 : List UInt8)) (Enc.cellsL (x34 : List UInt8)) .none, .list (List.length (x35 : List UInt8)) (Enc.cellsL (x35 : List UInt8)) .none]) (r := .raw (.bool x36)) (same_sh fuel x34 x35 x36 hx36) rfl rfl (stripL_cons (strip_l (Enc.cloL _)) (stripL_cons (strip_l (Enc.cloL _)) rfl)) (okTrimL_cons (okTrim_l (Enc.cloL _)) (okTrimL_cons (okTrim_l (Enc.cloL _)) rfl)) (by dsimp only [aput, List.set]) ?_
              refine w_met rfl rfl ?_
              refine w_op (a := .raw (.bool (!x36))) rfl rfl rfl rfl (by dsimp only [aput, List.set]) ?_
              refine w_op (a := .raw (.bool (!x36))) rfl rfl rfl rfl (by dsimp only [aput, List.set]) ?_
              refine bif_e h (fun hc14 h => ?_) (fun hc14 h => ?_)
              ·
               refine w_condT hc14 rfl ?_
               refine w_seq (w_region ?_)
               refine w_op (a := .raw (.bool false)) rfl rfl rfl rfl (by dsimp only [aput, List.set]) ?_
               exact end_pureF (fun (r : Bool) => (.raw (.bool r) : AV)) h (a := .raw (.bool false)) rfl rfl rfl
              ·
               refine w_condF hc14 rfl ?_
               refine w_seq (w_region ?_)
               refine w_op (a := .agg (Enc.cells (a : BS))) rfl rfl rfl rfl (by dsimp only [aput, List.set]) ?_
               obtain ⟨x37, hx37, h⟩ := letE_e h
               refine w_callc (args' := [.agg (Enc.cells (a : BS))]) (r := .tup [.raw (.int .u8 x37.1), .raw (.bool x37.2)]) (by rw [← hx37]; exact (k_first a)) rfl rfl (stripL_cons (strip_c (clo_agg (Enc.clo _))) rfl) (okTrimL_cons (okTrim_clo _ _ (clo_agg (Enc.clo _))) rfl) (by dsimp only [aput, List.set]) ?_
               refine w_op (a := .tup [.raw (.int .u8 x37.1), .raw (.bool x37.2)]) rfl rfl rfl rfl (by dsimp only [aput, List.set]) ?_
               refine w_op (a := .raw (.int .u8 x37.1)) rfl rfl rfl rfl (by dsimp only [aput, List.set]) ?_
               refine w_op (a := .raw (.bool x37.2)) rfl rfl rfl rfl (by dsimp only [aput, List.set]) ?_
               refine w_op (a := .raw (.int .u8 x37.1)) rfl rfl rfl rfl (by dsimp only [aput, List.set]) ?_
               refine w_op (a := .raw (.bool x37.2)) rfl rfl rfl rfl (by dsimp only [aput, List.set]) ?_
               refine w_seq (w_region ?_)
               refine w_op (a := .agg (Enc.cells (a : BS))) rfl rfl rfl rfl (by dsimp only [aput, List.set]) ?_
               refine w_op (a := .raw (.int .u8 c)) rfl rfl rfl rfl (by dsimp only [aput, List.set]) ?_
               obtain ⟨g12, h⟩ := chk_e h
               obtain ⟨x38, hx38, h⟩ := letE_e h
               refine w_callc (args' := [.agg (Enc.cells (a : BS)), .raw (.int .u8 c)]) (r := .tup [.raw (.int .u8 x38.1), .raw (.bool x38.2)]) (by rw [← hx38]; exact (k_next a c g12)) rfl rfl (stripL_cons (strip_c (clo_agg (Enc.clo _))) (stripL_cons rfl rfl)) (okTrimL_cons (okTrim_clo _ _ (clo_agg (Enc.clo _))) (okTrimL_cons rfl rfl)) (by dsimp only [aput, List.set]) ?_
               refine w_op (a := .tup [.raw (.int .u8 x38.1), .raw (.bool x38.2)]) rfl rfl rfl rfl (by dsimp only [aput, List.set]) ?_
               refine w_op (a := .raw (.int .u8 x38.1)) rfl rfl rfl rfl (by dsimp only [aput, List.set]) ?_
               refine w_op (a := .raw (.bool x38.2)) rfl rfl rfl rfl (by dsimp only [aput, List.set]) ?_
               refine w_op (a := .raw (.int .u8 x38.1)) rfl rfl rfl rfl (by dsimp only [aput, List.set]) ?_
               refine w_op (a := .raw (.bool x38.2)) rfl rfl rfl rfl (by dsimp only [aput, List.set]) ?_
               refine w_seq ?_
               refine w_draw (id := 14) 6 (by kernel_rfl) (by kernel_rfl) ?_
               refine h_op (a := .agg (Enc.cells (x1 : Ar))) rfl rfl rfl (q_loadArr x1 (by decide) rfl rfl rfl) (by dsimp only [aput, List.set]) ?_
               obtain ⟨x39, hx39, h⟩ := bindE_e h
               refine h_call (args' := [.agg (Enc.cells (x1 : Ar)), .raw (.int .i64 0)]) (r := .raw (.int .i64 x39)) (rnext_sh fuel x1 0 x39 hx39) rfl rfl rfl (stripL_cons (strip_c (clo_agg (Enc.clo _))) (stripL_cons rfl rfl)) (okTrimL_cons (okTrim_clo _ _ (clo_agg (Enc.clo _))) (okTrimL_cons rfl rfl)) (by dsimp only [aput, List.set]) ?_
               refine h_op (a := .agg (Enc.cells (x1 : Ar))) rfl rfl rfl (q_loadArr x1 (by decide) rfl rfl rfl) (by dsimp only [aput, List.set]) ?_
               refine h_op (a := .raw (.int .u8 c)) rfl rfl rfl rfl (by dsimp only [aput, List.set]) ?_
               obtain ⟨g13, h⟩ := chk_e h
               refine h_op (a := .raw (.int .i64 c)) rfl rfl rfl (q_conv64 g13 rfl rfl rfl) (by dsimp only [aput, List.set]) ?_
               obtain ⟨g14, h⟩ := chk_e h
               refine h_op (a := .raw (.int .i64 (c + 1))) rfl rfl rfl (q_add rfl rfl rfl rfl g14.1 g14.2) (by dsimp only [aput, List.set]) ?_
               refine h_end ?_
               obtain ⟨x40, hx40, h⟩ := bindE_e h
               refine w_callc (args' := [.agg (Enc.cells (x1 : Ar)), .raw (.int .i64 (c + 1))]) (r := .raw (.int .i64 x40)) (rnext_sh fuel x1 (c + 1) x40 hx40) rfl rfl (stripL_cons (strip_c (clo_agg (Enc.clo _))) (stripL_cons rfl rfl)) (okTrimL_cons (okTrim_clo _ _ (clo_agg (Enc.clo _))) (okTrimL_cons rfl rfl)) (by dsimp only [aput, List.set]) ?_
               refine w_op (a := .raw (.int .i64 x39)) rfl rfl rfl rfl (by dsimp only [aput, List.set]) ?_
               refine w_op (a := .raw (.int .i64 x40)) rfl rfl rfl rfl (by dsimp only [aput, List.set]) ?_
               refine w_cutF h [2, 3, 5, 8, 10, 11, 13, 14, 15, 16, 17, 18, 33, 34, 35, 36, 37, 38, 39, 40, 41, 42, 43, 44, 45, 46, 47, 48, 49, 50, 51, 52, 53, 54, 55, 56, 57, 58, 59, 60, 61, 62, 63, 64, 65, 66, 67, 68, 69, 70, 71, 72, 73, 74, 75, 76, 77, 78, 79, 80, 81, 82, 83, 84, 85, 86, 87, 88, 89, 90, 91, 92, 93, 94, 95, 96, 97, 98, 99, 100, 101, 102, 103, 104, 105, 106, 107, 108, 109, 110, 111, 112, 113, 114, 115, 116, 117, 118, 119, 120, 121, 122, 123, 124, 125, 126, 127, 128, 129, 130, 131, 132, 133, 134, 135, 136, 137, 138, 139, 140, 141, 142, 143, 144, 145, 146, 147, 148, 149, 150, 151, 152, 153, 154, 155, 156, 157, 158, 159, 160, 161, 162, 163, 164, 165, 166, 167, 168, 169, 170, 171, 172, 173, 174, 175, 176, 177, 178, 179, 180, 181, 182, 183, 184, 185, 186, 187, 188, 189, 190, 191, 192, 193, 194, 195, 196, 197, 198, 199, 200, 201, 202, 203, 204, 205, 206, 207, 208, 209, 210, 211, 212, 213, 214] (fun j2 => []) (fun j2 => ⟨[(24, (Enc.cells (a : BS))), (24, (Enc.cells (b : BS))), (57, (Enc.cells (x1 : Ar))), (57, (Enc.cells (x2 : Ar))), (57, (Enc.cells (j1 : Ar)))], [], [], 0, false⟩) ?_ ?_
               ·
                intro or2 h hr2
                refine w_seq (w_region ?_)
                refine w_op (a := .raw (.bool x37.2)) rfl rfl rfl rfl (by dsimp only [aput, List.set]) ?_
                refine w_op (a := .raw (.int .i64 x39)) rfl rfl rfl rfl (by dsimp only [aput, List.set]) ?_
                refine w_op (a := .raw (.bool (decide (x39 ≥ 0)))) rfl rfl rfl rfl (by dsimp only [aput, List.set]) ?_
                refine w_op (a := .raw (.bool (!(x37.2 == (decide (x39 ≥ 0)))))) rfl rfl rfl (op_q (by kernel_rfl)) (by dsimp only [aput, List.set]) ?_
                refine bif_e h (fun hc15 h => ?_) (fun hc15 h => ?_)
                ·
                 refine w_op (a := .raw (.bool true)) rfl rfl rfl (op_q (q_bool rfl hc15)) (by dsimp only [aput, List.set]) ?_
                 refine w_pass rfl rfl (by decide) (by dsimp only [aput, List.set]) ?_
                 refine w_pass rfl rfl (by decide) (by dsimp only [aput, List.set]) ?_
                 refine w_pass rfl rfl (by decide) (by dsimp only [aput, List.set]) ?_
                 refine w_pass rfl rfl (by decide) (by dsimp only [aput, List.set]) ?_
                 refine w_pass rfl rfl (by decide) (by dsimp only [aput, List.set]) ?_
                 refine w_pass rfl rfl (by decide) (by dsimp only [aput, List.set]) ?_
                 refine w_pass rfl rfl (by decide) (by dsimp only [aput, List.set]) ?_
                 refine w_op (a := .raw (.bool true)) rfl rfl rfl rfl (by dsimp only [aput, List.set]) ?_
                 refine w_op (a := .raw (.bool true)) rfl rfl rfl rfl (by dsimp only [aput, List.set]) ?_
                 refine w_pass rfl rfl (by decide) (by dsimp only [aput, List.set]) ?_
                 refine w_pass rfl rfl (by decide) (by dsimp only [aput, List.set]) ?_
                 refine w_pass rfl rfl (by decide) (by dsimp only [aput, List.set]) ?_
                 refine w_pass rfl rfl (by decide) (by dsimp only [aput, List.set]) ?_
                 refine w_pass rfl rfl (by decide) (by dsimp only [aput, List.set]) ?_
                 refine w_pass rfl rfl (by decide) (by dsimp only [aput, List.set]) ?_
                 refine w_op (a := .raw (.bool true)) rfl rfl rfl rfl (by dsimp only [aput, List.set]) ?_
                 refine w_op (a := .raw (.bool true)) rfl rfl rfl rfl (by dsimp only [aput, List.set]) ?_
                 refine w_pass rfl rfl (by decide) (by dsimp only [aput, List.set]) ?_
                 refine w_pass rfl rfl (by decide) (by dsimp only [aput, List.set]) ?_
                 refine w_pass rfl rfl (by decide) (by dsimp only [aput, List.set]) ?_
                 refine w_pass rfl rfl (by decide) (by dsimp only [aput, List.set]) ?_
                 refine w_op (a := .raw (.bool true)) rfl rfl rfl rfl (by dsimp only [aput, List.set]) ?_
                 refine w_op (a := .raw (.bool true)) rfl rfl rfl rfl (by dsimp only [aput, List.set]) ?_
                 refine w_pass rfl rfl (by decide) (by dsimp only [aput, List.set]) ?_
                 refine w_pass rfl rfl (by decide) (by dsimp only [aput, List.set]) ?_
                 refine w_pass rfl rfl (by decide) (by dsimp only [aput, List.set]) ?_
                 refine w_pass rfl rfl (by decide) (by dsimp only [aput, List.set]) ?_
                 refine w_pass rfl rfl (by decide) (by dsimp only [aput, List.set]) ?_
                 refine w_pass rfl rfl (by decide) (by dsimp only [aput, List.set]) ?_
                 refine w_pass rfl rfl (by decide) (by dsimp only [aput, List.set]) ?_
                 refine w_op (a := .raw (.bool true)) rfl rfl rfl rfl (by dsimp only [aput, List.set]) ?_
                 refine w_op (a := .raw (.bool true)) rfl rfl rfl rfl (by dsimp only [aput, List.set]) ?_
                 refine w_pass rfl rfl (by decide) (by dsimp only [aput, List.set]) ?_
                 refine w_pass rfl rfl (by decide) (by dsimp only [aput, List.set]) ?_
                 refine w_pass rfl rfl (by decide) (by dsimp only [aput, List.set]) ?_
                 refine w_pass rfl rfl (by decide) (by dsimp only [aput, List.set]) ?_
                 refine w_pass rfl rfl (by decide) (by dsimp only [aput, List.set]) ?_
                 refine w_pass rfl rfl (by decide) (by dsimp only [aput, List.set]) ?_
                 refine w_op (a := .raw (.bool true)) rfl rfl rfl rfl (by dsimp only [aput, List.set]) ?_
                 refine w_true rfl ?_
                 refine w_seq (w_region ?_)
                 refine w_op (a := .raw (.bool false)) rfl rfl rfl rfl (by dsimp only [aput, List.set]) ?_
                 replace h := cut_inr h hr2
                 exact end_pureF (fun (r : Bool) => (.raw (.bool r) : AV)) h (a := .raw (.bool false)) rfl rfl rfl
                ·
                 refine w_op (a := .raw (.bool false)) rfl rfl rfl (op_q (q_bool rfl hc15)) (by dsimp only [aput, List.set]) ?_
                 refine w_met rfl rfl ?_
                 refine w_op (a := .raw (.bool x37.2)) rfl rfl rfl rfl (by dsimp only [aput, List.set]) ?_
                 refine w_met rfl rfl ?_
                 refine bif_e h (fun hc16 h => ?_) (fun hc16 h => ?_)
                 ·
                  refine w_op (a := .raw (.bool true)) rfl rfl rfl (op_q (q_bool rfl hc16)) (by dsimp only [aput, List.set]) ?_
                  refine w_met rfl rfl ?_
                  refine w_op (a := .raw (.int .u8 x37.1)) rfl rfl rfl rfl (by dsimp only [aput, List.set]) ?_
                  refine w_met rfl rfl ?_
                  obtain ⟨g15, h⟩ := chk_e h
                  refine w_op (a := .raw (.int .i64 x37.1)) rfl rfl rfl (op_q (q_conv64 g15 rfl rfl rfl)) (by dsimp only [aput, List.set]) ?_
                  refine w_met rfl rfl ?_
                  refine w_op (a := .raw (.int .i64 x39)) rfl rfl rfl rfl (by dsimp only [aput, List.set]) ?_
                  refine w_met rfl rfl ?_
                  refine w_op (a := .raw (.bool (x37.1 != x39))) rfl rfl rfl rfl (by dsimp only [aput, List.set]) ?_
                  refine w_met rfl rfl ?_
                  refine w_op (a := .raw (.bool (x37.1 != x39))) rfl rfl rfl rfl (by dsimp only [aput, List.set]) ?_
                  refine w_op (a := .raw (.bool (x37.1 != x39))) rfl rfl rfl rfl (by dsimp only [aput, List.set]) ?_
                  refine bif_e h (fun hc17 h => ?_) (fun hc17 h => ?_)
                  ·
                   refine w_op (a := .raw (.bool true)) rfl rfl rfl (op_q (q_bool rfl hc17)) (by dsimp only [aput, List.set]) ?_
                   refine w_pass rfl rfl (by decide) (by dsimp only [aput, List.set]) ?_
                   refine w_pass rfl rfl (by decide) (by dsimp only [aput, List.set]) ?_
                   refine w_pass rfl rfl (by decide) (by dsimp only [aput, List.set]) ?_
                   refine w_pass rfl rfl (by decide) (by dsimp only [aput, List.set]) ?_
                   refine w_pass rfl rfl (by decide) (by dsimp only [aput, List.set]) ?_
                   refine w_pass rfl rfl (by decide) (by dsimp only [aput, List.set]) ?_
                   refine w_op (a := .raw (.bool true)) rfl rfl rfl rfl (by dsimp only [aput, List.set]) ?_
                   refine w_op (a := .raw (.bool true)) rfl rfl rfl rfl (by dsimp only [aput, List.set]) ?_
                   refine w_pass rfl rfl (by decide) (by dsimp only [aput, List.set]) ?_
                   refine w_pass rfl rfl (by decide) (by dsimp only [aput, List.set]) ?_
                   refine w_pass rfl rfl (by decide) (by dsimp only [aput, List.set]) ?_
                   refine w_pass rfl rfl (by decide) (by dsimp only [aput, List.set]) ?_
                   refine w_op (a := .raw (.bool true)) rfl rfl rfl rfl (by dsimp only [aput, List.set]) ?_
                   refine w_op (a := .raw (.bool true)) rfl rfl rfl rfl (by dsimp only [aput, List.set]) ?_
                   refine w_pass rfl rfl (by decide) (by dsimp only [aput, List.set]) ?_
                   refine w_pass rfl rfl (by decide) (by dsimp only [aput, List.set]) ?_
                   refine w_pass rfl rfl (by decide) (by dsimp only [aput, List.set]) ?_
                   refine w_pass rfl rfl (by decide) (by dsimp only [aput, List.set]) ?_
                   refine w_pass rfl rfl (by decide) (by dsimp only [aput, List.set]) ?_
                   refine w_pass rfl rfl (by decide) (by dsimp only [aput, List.set]) ?_
                   refine w_pass rfl rfl (by decide) (by dsimp only [aput, List.set]) ?_
                   refine w_op (a := .raw (.bool true)) rfl rfl rfl rfl (by dsimp only [aput, List.set]) ?_
                   refine w_op (a := .raw (.bool true)) rfl rfl rfl rfl (by dsimp only [aput, List.set]) ?_
                   refine w_pass rfl rfl (by decide) (by dsimp only [aput, List.set]) ?_
                   refine w_pass rfl rfl (by decide) (by dsimp only [aput, List.set]) ?_
                   refine w_pass rfl rfl (by decide) (by dsimp only [aput, List.set]) ?_
                   refine w_pass rfl rfl (by decide) (by dsimp only [aput, List.set]) ?_
                   refine w_pass rfl rfl (by decide) (by dsimp only [aput, List.set]) ?_
                   refine w_pass rfl rfl (by decide) (by dsimp only [aput, List.set]) ?_
                   refine w_op (a := .raw (.bool true)) rfl rfl rfl rfl (by dsimp only [aput, List.set]) ?_
                   refine w_true rfl ?_
                   refine w_seq (w_region ?_)
                   refine w_op (a := .raw (.bool false)) rfl rfl rfl rfl (by dsimp only [aput, List.set]) ?_
                   replace h := cut_inr h hr2
                   exact end_pureF (fun (r : Bool) => (.raw (.bool r) : AV)) h (a := .raw (.bool false)) rfl rfl rfl
                  ·
                   refine w_op (a := .raw (.bool false)) rfl rfl rfl (op_q (q_bool rfl hc17)) (by dsimp only [aput, List.set]) ?_
                   refine w_met rfl rfl ?_
                   refine w_op (a := .raw (.bool x37.2)) rfl rfl rfl rfl (by dsimp only [aput, List.set]) ?_
                   refine w_met rfl rfl ?_
                   refine w_op (a := .raw (.bool (!x37.2))) rfl rfl rfl rfl (by dsimp only [aput, List.set]) ?_
                   refine w_met rfl rfl ?_
                   refine bif_e h (fun hc18 h => ?_) (fun hc18 h => ?_)
                   ·
                    refine w_op (a := .raw (.bool true)) rfl rfl rfl (op_q (q_bool rfl hc18)) (by dsimp only [aput, List.set]) ?_
                    refine w_met rfl rfl ?_
                    refine w_op (a := .raw (.int .u8 x37.1)) rfl rfl rfl rfl (by dsimp only [aput, List.set]) ?_
                    refine w_met rfl rfl ?_
                    refine w_op (a := .raw (.bool (x37.1 != 0))) rfl rfl rfl rfl (by dsimp only [aput, List.set]) ?_
                    refine w_met rfl rfl ?_
                    refine w_op (a := .raw (.bool (x37.1 != 0))) rfl rfl rfl rfl (by dsimp only [aput, List.set]) ?_
                    refine w_op (a := .raw (.bool (x37.1 != 0))) rfl rfl rfl rfl (by dsimp only [aput, List.set]) ?_
                    refine bif_e h (fun hc19 h => ?_) (fun hc19 h => ?_)
                    ·
                     refine w_op (a := .raw (.bool true)) rfl rfl rfl (op_q (q_bool rfl hc19)) (by dsimp only [aput, List.set]) ?_
                     refine w_pass rfl rfl (by decide) (by dsimp only [aput, List.set]) ?_
                     refine w_pass rfl rfl (by decide) (by dsimp only [aput, List.set]) ?_
                     refine w_pass rfl rfl (by decide) (by dsimp only [aput, List.set]) ?_
                     refine w_pass rfl rfl (by decide) (by dsimp only [aput, List.set]) ?_
                     refine w_op (a := .raw (.bool true)) rfl rfl rfl rfl (by dsimp only [aput, List.set]) ?_
                     refine w_op (a := .raw (.bool true)) rfl rfl rfl rfl (by dsimp only [aput, List.set]) ?_
                     refine w_pass rfl rfl (by decide) (by dsimp only [aput, List.set]) ?_
                     refine w_pass rfl rfl (by decide) (by dsimp only [aput, List.set]) ?_
                     refine w_pass rfl rfl (by decide) (by dsimp only [aput, List.set]) ?_
                     refine w_pass rfl rfl (by decide) (by dsimp only [aput, List.set]) ?_
                     refine w_pass rfl rfl (by decide) (by dsimp only [aput, List.set]) ?_
                     refine w_pass rfl rfl (by decide) (by dsimp only [aput, List.set]) ?_
                     refine w_pass rfl rfl (by decide) (by dsimp only [aput, List.set]) ?_
                     refine w_op (a := .raw (.bool true)) rfl rfl rfl rfl (by dsimp only [aput, List.set]) ?_
                     refine w_op (a := .raw (.bool true)) rfl rfl rfl rfl (by dsimp only [aput, List.set]) ?_
                     refine w_pass rfl rfl (by decide) (by dsimp only [aput, List.set]) ?_
                     refine w_pass rfl rfl (by decide) (by dsimp only [aput, List.set]) ?_
                     refine w_pass rfl rfl (by decide) (by dsimp only [aput, List.set]) ?_
                     refine w_pass rfl rfl (by decide) (by dsimp only [aput, List.set]) ?_
                     refine w_pass rfl rfl (by decide) (by dsimp only [aput, List.set]) ?_
                     refine w_pass rfl rfl (by decide) (by dsimp only [aput, List.set]) ?_
                     refine w_op (a := .raw (.bool true)) rfl rfl rfl rfl (by dsimp only [aput, List.set]) ?_
                     refine w_true rfl ?_
                     refine w_seq (w_region ?_)
                     refine w_op (a := .raw (.bool false)) rfl rfl rfl rfl (by dsimp only [aput, List.set]) ?_
                     replace h := cut_inr h hr2
                     exact end_pureF (fun (r : Bool) => (.raw (.bool r) : AV)) h (a := .raw (.bool false)) rfl rfl rfl
                    ·
                     refine w_op (a := .raw (.bool false)) rfl rfl rfl (op_q (q_bool rfl hc19)) (by dsimp only [aput, List.set]) ?_
                     refine w_met rfl rfl ?_
                     refine w_op (a := .raw (.bool x38.2)) rfl rfl rfl rfl (by dsimp only [aput, List.set]) ?_
                     refine w_met rfl rfl ?_
                     refine w_op (a := .raw (.int .i64 x40)) rfl rfl rfl rfl (by dsimp only [aput, List.set]) ?_
                     refine w_met rfl rfl ?_
                     refine w_op (a := .raw (.bool (decide (x40 ≥ 0)))) rfl rfl rfl rfl (by dsimp only [aput, List.set]) ?_
                     refine w_met rfl rfl ?_
                     refine w_op (a := .raw (.bool (!(x38.2 == (decide (x40 ≥ 0)))))) rfl rfl rfl (op_q (by kernel_rfl)) (by dsimp only [aput, List.set]) ?_
                     refine w_op (a := .raw (.bool (!(x38.2 == (decide (x40 ≥ 0)))))) rfl rfl rfl rfl (by dsimp only [aput, List.set]) ?_
                     refine bif_e h (fun hc20 h => ?_) (fun hc20 h => ?_)
                     ·
                      refine w_op (a := .raw (.bool true)) rfl rfl rfl (op_q (q_bool rfl hc20)) (by dsimp only [aput, List.set]) ?_
                      refine w_pass rfl rfl (by decide) (by dsimp only [aput, List.set]) ?_
                      refine w_pass rfl rfl (by decide) (by dsimp only [aput, List.set]) ?_
                      refine w_pass rfl rfl (by decide) (by dsimp only [aput, List.set]) ?_
                      refine w_pass rfl rfl (by decide) (by dsimp only [aput, List.set]) ?_
                      refine w_pass rfl rfl (by decide) (by dsimp only [aput, List.set]) ?_
                      refine w_pass rfl rfl (by decide) (by dsimp only [aput, List.set]) ?_
                      refine w_pass rfl rfl (by decide) (by dsimp only [aput, List.set]) ?_
                      refine w_op (a := .raw (.bool true)) rfl rfl rfl rfl (by dsimp only [aput, List.set]) ?_
                      refine w_op (a := .raw (.bool true)) rfl rfl rfl rfl (by dsimp only [aput, List.set]) ?_
                      refine w_pass rfl rfl (by decide) (by dsimp only [aput, List.set]) ?_
                      refine w_pass rfl rfl (by decide) (by dsimp only [aput, List.set]) ?_
                      refine w_pass rfl rfl (by decide) (by dsimp only [aput, List.set]) ?_
                      refine w_pass rfl rfl (by decide) (by dsimp only [aput, List.set]) ?_
                      refine w_pass rfl rfl (by decide) (by dsimp only [aput, List.set]) ?_
                      refine w_pass rfl rfl (by decide) (by dsimp only [aput, List.set]) ?_
                      refine w_op (a := .raw (.bool true)) rfl rfl rfl rfl (by dsimp only [aput, List.set]) ?_
                      refine w_true rfl ?_
                      refine w_seq (w_region ?_)
                      refine w_op (a := .raw (.bool false)) rfl rfl rfl rfl (by dsimp only [aput, List.set]) ?_
                      replace h := cut_inr h hr2
                      exact end_pureF (fun (r : Bool) => (.raw (.bool r) : AV)) h (a := .raw (.bool false)) rfl rfl rfl
                     ·
                      refine w_op (a := .raw (.bool false)) rfl rfl rfl (op_q (q_bool rfl hc20)) (by dsimp only [aput, List.set]) ?_
                      refine w_met rfl rfl ?_
                      refine w_op (a := .raw (.bool x38.2)) rfl rfl rfl rfl (by dsimp only [aput, List.set]) ?_
                      refine w_met rfl rfl ?_
                      refine bif_e h (fun hc21 h => ?_) (fun hc21 h => ?_)
                      ·
                       refine w_op (a := .raw (.bool true)) rfl rfl rfl (op_q (q_bool rfl hc21)) (by dsimp only [aput, List.set]) ?_
                       refine w_met rfl rfl ?_
                       refine w_op (a := .raw (.int .u8 x38.1)) rfl rfl rfl rfl (by dsimp only [aput, List.set]) ?_
                       refine w_met rfl rfl ?_
                       obtain ⟨g16, h⟩ := chk_e h
                       refine w_op (a := .raw (.int .i64 x38.1)) rfl rfl rfl (op_q (q_conv64 g16 rfl rfl rfl)) (by dsimp only [aput, List.set]) ?_
                       refine w_met rfl rfl ?_
                       refine w_op (a := .raw (.int .i64 x40)) rfl rfl rfl rfl (by dsimp only [aput, List.set]) ?_
                       refine w_met rfl rfl ?_
                       refine w_op (a := .raw (.bool (x38.1 != x40))) rfl rfl rfl rfl (by dsimp only [aput, List.set]) ?_
                       refine w_met rfl rfl ?_
                       refine w_op (a := .raw (.bool (x38.1 != x40))) rfl rfl rfl rfl (by dsimp only [aput, List.set]) ?_
                       refine w_op (a := .raw (.bool (x38.1 != x40))) rfl rfl rfl rfl (by dsimp only [aput, List.set]) ?_
                       refine bif_e h (fun hc22 h => ?_) (fun hc22 h => ?_)
                       ·
                        refine w_op (a := .raw (.bool true)) rfl rfl rfl (op_q (q_bool rfl hc22)) (by dsimp only [aput, List.set]) ?_
                        refine w_pass rfl rfl (by decide) (by dsimp only [aput, List.set]) ?_
                        refine w_pass rfl rfl (by decide) (by dsimp only [aput, List.set]) ?_
                        refine w_pass rfl rfl (by decide) (by dsimp only [aput, List.set]) ?_
                        refine w_pass rfl rfl (by decide) (by dsimp only [aput, List.set]) ?_
                        refine w_pass rfl rfl (by decide) (by dsimp only [aput, List.set]) ?_
                        refine w_pass rfl rfl (by decide) (by dsimp only [aput, List.set]) ?_
                        refine w_op (a := .raw (.bool true)) rfl rfl rfl rfl (by dsimp only [aput, List.set]) ?_
                        refine w_true rfl ?_
                        refine w_seq (w_region ?_)
                        refine w_op (a := .raw (.bool false)) rfl rfl rfl rfl (by dsimp only [aput, List.set]) ?_
                        replace h := cut_inr h hr2
                        exact end_pureF (fun (r : Bool) => (.raw (.bool r) : AV)) h (a := .raw (.bool false)) rfl rfl rfl
                       ·
                        refine w_op (a := .raw (.bool false)) rfl rfl rfl (op_q (q_bool rfl hc22)) (by dsimp only [aput, List.set]) ?_
                        refine w_met rfl rfl ?_
                        refine w_op (a := .raw (.bool x38.2)) rfl rfl rfl rfl (by dsimp only [aput, List.set]) ?_
                        refine w_met rfl rfl ?_
                        refine w_op (a := .raw (.bool (!x38.2))) rfl rfl rfl rfl (by dsimp only [aput, List.set]) ?_
                        refine w_met rfl rfl ?_
                        refine bif_e h (fun hc23 h => ?_) (fun hc23 h => ?_)
                        ·
                         refine w_op (a := .raw (.bool true)) rfl rfl rfl (op_q (q_bool rfl hc23)) (by dsimp only [aput, List.set]) ?_
                         refine w_met rfl rfl ?_
                         refine w_op (a := .raw (.int .u8 x38.1)) rfl rfl rfl rfl (by dsimp only [aput, List.set]) ?_
                         refine w_met rfl rfl ?_
                         refine w_op (a := .raw (.bool (x38.1 != 0))) rfl rfl rfl rfl (by dsimp only [aput, List.set]) ?_
                         refine w_met rfl rfl ?_
                         refine w_op (a := .raw (.bool (x38.1 != 0))) rfl rfl rfl rfl (by dsimp only [aput, List.set]) ?_
                         refine w_op (a := .raw (.bool (x38.1 != 0))) rfl rfl rfl rfl (by dsimp only [aput, List.set]) ?_
                         refine bif_e h (fun hc24 h => ?_) (fun hc24 h => ?_)
                         ·
                          refine w_condT hc24 rfl ?_
                          refine w_seq (w_region ?_)
                          refine w_op (a := .raw (.bool false)) rfl rfl rfl rfl (by dsimp only [aput, List.set]) ?_
                          replace h := cut_inr h hr2
                          exact end_pureF (fun (r : Bool) => (.raw (.bool r) : AV)) h (a := .raw (.bool false)) rfl rfl rfl
                         ·
                          refine w_condF hc24 rfl ?_
                          refine cut_done (o := or2) () h ?_
                          exact wm_of [true, true, false, false, true, false, true, true, false, true, false, false, true, false, false, false, false, false, false, true, true, true, true, true, true, true, true, true, true, true, true, true, true, false, false, false, false, false, false, false, false, false, false, false, false, false, false, false, false, false, false, false, false, false, false, false, false, false, false, false, false, false, false, false, false, false, false, false, false, false, false, false, false, false, false, false, false, false, false, false, false, false, false, false, false, false, false, false, false, false, false, false, false, false, false, false, false, false, false, false, false, false, false, false, false, false, false, false, false, false, false, false, false, false, false, false, false, false, false, false, false, false, false, false, false, false, false, false, false, false, false, false, false, false, false, false, false, false, false, false, false, false, false, false, false, false, false, false, false, false, false, false, false, false, false, false, false, false, false, false, false, false, false, false, false, false, false, false, false, false, false, false, false, false, false, false, false, false, false, false, false, false, false, false, false, false, false, false, false, false, false, false, false, false, false, false, false, false, false, false, false, false, false, false, false, false, false, false, false, false, false, false, false, false, false, true, true, true, true, true, true, true, true, true, true, true, true, true, true, true, true, true, true, true, true, true, true, true, true, true, true, true, true, true, true, true, true, true, true, true, true, true, true, true] (by kernel_rfl) (by kernel_rfl)
                        ·
                         refine w_op (a := .raw (.bool false)) rfl rfl rfl (op_q (q_bool rfl hc23)) (by dsimp only [aput, List.set]) ?_
                         refine w_pass rfl rfl (by decide) (by dsimp only [aput, List.set]) ?_
                         refine w_pass rfl rfl (by decide) (by dsimp only [aput, List.set]) ?_
                         refine w_met rfl rfl ?_
                         refine w_op (a := .raw (.bool false)) rfl rfl rfl rfl (by dsimp only [aput, List.set]) ?_
                         refine w_op (a := .raw (.bool false)) rfl rfl rfl rfl (by dsimp only [aput, List.set]) ?_
                         refine w_false rfl ?_
                         refine cut_done (o := or2) () h ?_
                         exact wm_of [true, true, false, false, true, false, true, true, false, true, false, false, true, false, false, false, false, false, false, true, true, true, true, true, true, true, true, true, true, true, true, true, true, false, false, false, false, false, false, false, false, false, false, false, false, false, false, false, false, false, false, false, false, false, false, false, false, false, false, false, false, false, false, false, false, false, false, false, false, false, false, false, false, false, false, false, false, false, false, false, false, false, false, false, false, false, false, false, false, false, false, false, false, false, false, false, false, false, false, false, false, false, false, false, false, false, false, false, false, false, false, false, false, false, false, false, false, false, false, false, false, false, false, false, false, false, false, false, false, false, false, false, false, false, false, false, false, false, false, false, false, false, false, false, false, false, false, false, false, false, false, false, false, false, false, false, false, false, false, false, false, false, false, false, false, false, false, false, false, false, false, false, false, false, false, false, false, false, false, false, false, false, false, false, false, false, false, false, false, false, false, false, false, false, false, false, false, false, false, false, false, false, false, false, false, false, false, false, false, false, false, false, false, false, false, true, true, true, true, true, true, true, true, true, true, true, true, true, true, true, true, true, true, true, true, true, true, true, true, true, true, true, true, true, true, true, true, true, true, true, true, true, true, true] (by kernel_rfl) (by kernel_rfl)
                      ·
                       refine w_op (a := .raw (.bool false)) rfl rfl rfl (op_q (q_bool rfl hc21)) (by dsimp only [aput, List.set]) ?_
                       refine w_pass rfl rfl (by decide) (by dsimp only [aput, List.set]) ?_
                       refine w_pass rfl rfl (by decide) (by dsimp only [aput, List.set]) ?_
                       refine w_pass rfl rfl (by decide) (by dsimp only [aput, List.set]) ?_
                       refine w_pass rfl rfl (by decide) (by dsimp only [aput, List.set]) ?_
                       refine w_met rfl rfl ?_
                       refine w_op (a := .raw (.bool false)) rfl rfl rfl rfl (by dsimp only [aput, List.set]) ?_
                       refine w_op (a := .raw (.bool false)) rfl rfl rfl rfl (by dsimp only [aput, List.set]) ?_
                       refine w_op (a := .raw (.bool false)) rfl rfl rfl rfl (by dsimp only [aput, List.set]) ?_
                       refine w_met rfl rfl ?_
                       refine w_op (a := .raw (.bool x38.2)) rfl rfl rfl rfl (by dsimp only [aput, List.set]) ?_
                       refine w_met rfl rfl ?_
                       refine w_op (a := .raw (.bool (!x38.2))) rfl rfl rfl rfl (by dsimp only [aput, List.set]) ?_
                       refine w_met rfl rfl ?_
                       refine bif_e h (fun hc25 h => ?_) (fun hc25 h => ?_)
                       ·
                        refine w_op (a := .raw (.bool true)) rfl rfl rfl (op_q (q_bool rfl hc25)) (by dsimp only [aput, List.set]) ?_
                        refine w_met rfl rfl ?_
                        refine w_op (a := .raw (.int .u8 x38.1)) rfl rfl rfl rfl (by dsimp only [aput, List.set]) ?_
                        refine w_met rfl rfl ?_
                        refine w_op (a := .raw (.bool (x38.1 != 0))) rfl rfl rfl rfl (by dsimp only [aput, List.set]) ?_
                        refine w_met rfl rfl ?_
                        refine w_op (a := .raw (.bool (x38.1 != 0))) rfl rfl rfl rfl (by dsimp only [aput, List.set]) ?_
                        refine w_op (a := .raw (.bool (x38.1 != 0))) rfl rfl rfl rfl (by dsimp only [aput, List.set]) ?_
                        refine bif_e h (fun hc26 h => ?_) (fun hc26 h => ?_)
                        ·
                         refine w_condT hc26 rfl ?_
                         refine w_seq (w_region ?_)
                         refine w_op (a := .raw (.bool false)) rfl rfl rfl rfl (by dsimp only [aput, List.set]) ?_
                         replace h := cut_inr h hr2
                         exact end_pureF (fun (r : Bool) => (.raw (.bool r) : AV)) h (a := .raw (.bool false)) rfl rfl rfl
                        ·
                         refine w_condF hc26 rfl ?_
                         refine cut_done (o := or2) () h ?_
                         exact wm_of [true, true, false, false, true, false, true, true, false, true, false, false, true, false, false, false, false, false, false, true, true, true, true, true, true, true, true, true, true, true, true, true, true, false, false, false, false, false, false, false, false, false, false, false, false, false, false, false, false, false, false, false, false, false, false, false, false, false, false, false, false, false, false, false, false, false, false, false, false, false, false, false, false, false, false, false, false, false, false, false, false, false, false, false, false, false, false, false, false, false, false, false, false, false, false, false, false, false, false, false, false, false, false, false, false, false, false, false, false, false, false, false, false, false, false, false, false, false, false, false, false, false, false, false, false, false, false, false, false, false, false, false, false, false, false, false, false, false, false, false, false, false, false, false, false, false, false, false, false, false, false, false, false, false, false, false, false, false, false, false, false, false, false, false, false, false, false, false, false, false, false, false, false, false, false, false, false, false, false, false, false, false, false, false, false, false, false, false, false, false, false, false, false, false, false, false, false, false, false, false, false, false, false, false, false, false, false, false, false, false, false, false, false, false, false, true, true, true, true, true, true, true, true, true, true, true, true, true, true, true, true, true, true, true, true, true, true, true, true, true, true, true, true, true, true, true, true, true, true, true, true, true, true, true] (by kernel_rfl) (by kernel_rfl)
                       ·
                        refine w_op (a := .raw (.bool false)) rfl rfl rfl (op_q (q_bool rfl hc25)) (by dsimp only [aput, List.set]) ?_
                        refine w_pass rfl rfl (by decide) (by dsimp only [aput, List.set]) ?_
                        refine w_pass rfl rfl (by decide) (by dsimp only [aput, List.set]) ?_
                        refine w_met rfl rfl ?_
                        refine w_op (a := .raw (.bool false)) rfl rfl rfl rfl (by dsimp only [aput, List.set]) ?_
                        refine w_op (a := .raw (.bool false)) rfl rfl rfl rfl (by dsimp only [aput, List.set]) ?_
                        refine w_false rfl ?_
                        refine cut_done (o := or2) () h ?_
                        exact wm_of [true, true, false, false, true, false, true, true, false, true, false, false, true, false, false, false, false, false, false, true, true, true, true, true, true, true, true, true, true, true, true, true, true, false, false, false, false, false, false, false, false, false, false, false, false, false, false, false, false, false, false, false, false, false, false, false, false, false, false, false, false, false, false, false, false, false, false, false, false, false, false, false, false, false, false, false, false, false, false, false, false, false, false, false, false, false, false, false, false, false, false, false, false, false, false, false, false, false, false, false, false, false, false, false, false, false, false, false, false, false, false, false, false, false, false, false, false, false, false, false, false, false, false, false, false, false, false, false, false, false, false, false, false, false, false, false, false, false, false, false, false, false, false, false, false, false, false, false, false, false, false, false, false, false, false, false, false, false, false, false, false, false, false, false, false, false, false, false, false, false, false, false, false, false, false, false, false, false, false, false, false, false, false, false, false, false, false, false, false, false, false, false, false, false, false, false, false, false, false, false, false, false, false, false, false, false, false, false, false, false, false, false, false, false, false, true, true, true, true, true, true, true, true, true, true, true, true, true, true, true, true, true, true, true, true, true, true, true, true, true, true, true, true, true, true, true, true, true, true, true, true, true, true, true] (by kernel_rfl) (by kernel_rfl)
                   ·
                    refine w_op (a := .raw (.bool false)) rfl rfl rfl (op_q (q_bool rfl hc18)) (by dsimp only [aput, List.set]) ?_
                    refine w_pass rfl rfl (by decide) (by dsimp only [aput, List.set]) ?_
                    refine w_pass rfl rfl (by decide) (by dsimp only [aput, List.set]) ?_
                    refine w_met rfl rfl ?_
                    refine w_op (a := .raw (.bool false)) rfl rfl rfl rfl (by dsimp only [aput, List.set]) ?_
                    refine w_op (a := .raw (.bool false)) rfl rfl rfl rfl (by dsimp only [aput, List.set]) ?_
                    refine w_op (a := .raw (.bool false)) rfl rfl rfl rfl (by dsimp only [aput, List.set]) ?_
                    refine w_met rfl rfl ?_
                    refine w_op (a := .raw (.bool x38.2)) rfl rfl rfl rfl (by dsimp only [aput, List.set]) ?_
                    refine w_met rfl rfl ?_
                    refine w_op (a := .raw (.int .i64 x40)) rfl rfl rfl rfl (by dsimp only [aput, List.set]) ?_
                    refine w_met rfl rfl ?_
                    refine w_op (a := .raw (.bool (decide (x40 ≥ 0)))) rfl rfl rfl rfl (by dsimp only [aput, List.set]) ?_
                    refine w_met rfl rfl ?_
                    refine w_op (a := .raw (.bool (!(x38.2 == (decide (x40 ≥ 0)))))) rfl rfl rfl (op_q (by kernel_rfl)) (by dsimp only [aput, List.set]) ?_
                    refine w_op (a := .raw (.bool (!(x38.2 == (decide (x40 ≥ 0)))))) rfl rfl rfl rfl (by dsimp only [aput, List.set]) ?_
                    refine bif_e h (fun hc27 h => ?_) (fun hc27 h => ?_)
                    ·
                     refine w_op (a := .raw (.bool true)) rfl rfl rfl (op_q (q_bool rfl hc27)) (by dsimp only [aput, List.set]) ?_
                     refine w_pass rfl rfl (by decide) (by dsimp only [aput, List.set]) ?_
                     refine w_pass rfl rfl (by decide) (by dsimp only [aput, List.set]) ?_
                     refine w_pass rfl rfl (by decide) (by dsimp only [aput, List.set]) ?_
                     refine w_pass rfl rfl (by decide) (by dsimp only [aput, List.set]) ?_
                     refine w_pass rfl rfl (by decide) (by dsimp only [aput, List.set]) ?_
                     refine w_pass rfl rfl (by decide) (by dsimp only [aput, List.set]) ?_
                     refine w_pass rfl rfl (by decide) (by dsimp only [aput, List.set]) ?_
                     refine w_op (a := .raw (.bool true)) rfl rfl rfl rfl (by dsimp only [aput, List.set]) ?_
                     refine w_op (a := .raw (.bool true)) rfl rfl rfl rfl (by dsimp only [aput, List.set]) ?_
                     refine w_pass rfl rfl (by decide) (by dsimp only [aput, List.set]) ?_
                     refine w_pass rfl rfl (by decide) (by dsimp only [aput, List.set]) ?_
                     refine w_pass rfl rfl (by decide) (by dsimp only [aput, List.set]) ?_
                     refine w_pass rfl rfl (by decide) (by dsimp only [aput, List.set]) ?_
                     refine w_pass rfl rfl (by decide) (by dsimp only [aput, List.set]) ?_
                     refine w_pass rfl rfl (by decide) (by dsimp only [aput, List.set]) ?_
                     refine w_op (a := .raw (.bool true)) rfl rfl rfl rfl (by dsimp only [aput, List.set]) ?_
                     refine w_true rfl ?_
                     refine w_seq (w_region ?_)
                     refine w_op (a := .raw (.bool false)) rfl rfl rfl rfl (by dsimp only [aput, List.set]) ?_
                     replace h := cut_inr h hr2
                     exact end_pureF (fun (r : Bool) => (.raw (.bool r) : AV)) h (a := .raw (.bool false)) rfl rfl rfl
                    ·
                     refine w_op (a := .raw (.bool false)) rfl rfl rfl (op_q (q_bool rfl hc27)) (by dsimp only [aput, List.set]) ?_
                     refine w_met rfl rfl ?_
                     refine w_op (a := .raw (.bool x38.2)) rfl rfl rfl rfl (by dsimp only [aput, List.set]) ?_
                     refine w_met rfl rfl ?_
                     refine bif_e h (fun hc28 h => ?_) (fun hc28 h => ?_)
                     ·
                      refine w_op (a := .raw (.bool true)) rfl rfl rfl (op_q (q_bool rfl hc28)) (by dsimp only [aput, List.set]) ?_
                      refine w_met rfl rfl ?_
                      refine w_op (a := .raw (.int .u8 x38.1)) rfl rfl rfl rfl (by dsimp only [aput, List.set]) ?_
                      refine w_met rfl rfl ?_
                      obtain ⟨g17, h⟩ := chk_e h
                      refine w_op (a := .raw (.int .i64 x38.1)) rfl rfl rfl (op_q (q_conv64 g17 rfl rfl rfl)) (by dsimp only [aput, List.set]) ?_
                      refine w_met rfl rfl ?_
                      refine w_op (a := .raw (.int .i64 x40)) rfl rfl rfl rfl (by dsimp only [aput, List.set]) ?_
                      refine w_met rfl rfl ?_
                      refine w_op (a := .raw (.bool (x38.1 != x40))) rfl rfl rfl rfl (by dsimp only [aput, List.set]) ?_
                      refine w_met rfl rfl ?_
                      refine w_op (a := .raw (.bool (x38.1 != x40))) rfl rfl rfl rfl (by dsimp only [aput, List.set]) ?_
                      refine w_op (a := .raw (.bool (x38.1 != x40))) rfl rfl rfl rfl (by dsimp only [aput, List.set]) ?_
                      refine bif_e h (fun hc29 h => ?_) (fun hc29 h => ?_)
                      ·
                       refine w_op (a := .raw (.bool true)) rfl rfl rfl (op_q (q_bool rfl hc29)) (by dsimp only [aput, List.set]) ?_
                       refine w_pass rfl rfl (by decide) (by dsimp only [aput, List.set]) ?_
                       refine w_pass rfl rfl (by decide) (by dsimp only [aput, List.set]) ?_
                       refine w_pass rfl rfl (by decide) (by dsimp only [aput, List.set]) ?_
                       refine w_pass rfl rfl (by decide) (by dsimp only [aput, List.set]) ?_
                       refine w_pass rfl rfl (by decide) (by dsimp only [aput, List.set]) ?_
                       refine w_pass rfl rfl (by decide) (by dsimp only [aput, List.set]) ?_
                       refine w_op (a := .raw (.bool true)) rfl rfl rfl rfl (by dsimp only [aput, List.set]) ?_
                       refine w_true rfl ?_
                       refine w_seq (w_region ?_)
                       refine w_op (a := .raw (.bool false)) rfl rfl rfl rfl (by dsimp only [aput, List.set]) ?_
                       replace h := cut_inr h hr2
                       exact end_pureF (fun (r : Bool) => (.raw (.bool r) : AV)) h (a := .raw (.bool false)) rfl rfl rfl
                      ·
                       refine w_op (a := .raw (.bool false)) rfl rfl rfl (op_q (q_bool rfl hc29)) (by dsimp only [aput, List.set]) ?_
                       refine w_met rfl rfl ?_
                       refine w_op (a := .raw (.bool x38.2)) rfl rfl rfl rfl (by dsimp only [aput, List.set]) ?_
                       refine w_met rfl rfl ?_
                       refine w_op (a := .raw (.bool (!x38.2))) rfl rfl rfl rfl (by dsimp only [aput, List.set]) ?_
                       refine w_met rfl rfl ?_
                       refine bif_e h (fun hc30 h => ?_) (fun hc30 h => ?_)
                       ·
                        refine w_op (a := .raw (.bool true)) rfl rfl rfl (op_q (q_bool rfl hc30)) (by dsimp only [aput, List.set]) ?_
                        refine w_met rfl rfl ?_
                        refine w_op (a := .raw (.int .u8 x38.1)) rfl rfl rfl rfl (by dsimp only [aput, List.set]) ?_
                        refine w_met rfl rfl ?_
                        refine w_op (a := .raw (.bool (x38.1 != 0))) rfl rfl rfl rfl (by dsimp only [aput, List.set]) ?_
                        refine w_met rfl rfl ?_
                        refine w_op (a := .raw (.bool (x38.1 != 0))) rfl rfl rfl rfl (by dsimp only [aput, List.set]) ?_
                        refine w_op (a := .raw (.bool (x38.1 != 0))) rfl rfl rfl rfl (by dsimp only [aput, List.set]) ?_
                        refine bif_e h (fun hc31 h => ?_) (fun hc31 h => ?_)
                        ·
                         refine w_condT hc31 rfl ?_
                         refine w_seq (w_region ?_)
                         refine w_op (a := .raw (.bool false)) rfl rfl rfl rfl (by dsimp only [aput, List.set]) ?_
                         replace h := cut_inr h hr2
                         exact end_pureF (fun (r : Bool) => (.raw (.bool r) : AV)) h (a := .raw (.bool false)) rfl rfl rfl
                        ·
                         refine w_condF hc31 rfl ?_
                         refine cut_done (o := or2) () h ?_
                         exact wm_of [true, true, false, false, true, false, true, true, false, true, false, false, true, false, false, false, false, false, false, true, true, true, true, true, true, true, true, true, true, true, true, true, true, false, false, false, false, false, false, false, false, false, false, false, false, false, false, false, false, false, false, false, false, false, false, false, false, false, false, false, false, false, false, false, false, false, false, false, false, false, false, false, false, false, false, false, false, false, false, false, false, false, false, false, false, false, false, false, false, false, false, false, false, false, false, false, false, false, false, false, false, false, false, false, false, false, false, false, false, false, false, false, false, false, false, false, false, false, false, false, false, false, false, false, false, false, false, false, false, false, false, false, false, false, false, false, false, false, false, false, false, false, false, false, false, false, false, false, false, false, false, false, false, false, false, false, false, false, false, false, false, false, false, false, false, false, false, false, false, false, false, false, false, false, false, false, false, false, false, false, false, false, false, false, false, false, false, false, false, false, false, false, false, false, false, false, false, false, false, false, false, false, false, false, false, false, false, false, false, false, false, false, false, false, false, true, true, true, true, true, true, true, true, true, true, true, true, true, true, true, true, true, true, true, true, true, true, true, true, true, true, true, true, true, true, true, true, true, true, true, true, true, true, true] (by kernel_rfl) (by kernel_rfl)
                       ·
                        refine w_op (a := .raw (.bool false)) rfl rfl rfl (op_q (q_bool rfl hc30)) (by dsimp only [aput, List.set]) ?_
                        refine w_pass rfl rfl (by decide) (by dsimp only [aput, List.set]) ?_
                        refine w_pass rfl rfl (by decide) (by dsimp only [aput, List.set]) ?_
                        refine w_met rfl rfl ?_
                        refine w_op (a := .raw (.bool false)) rfl rfl rfl rfl (by dsimp only [aput, List.set]) ?_
                        refine w_op (a := .raw (.bool false)) rfl rfl rfl rfl (by dsimp only [aput, List.set]) ?_
                        refine w_false rfl ?_
                        refine cut_done (o := or2) () h ?_
                        exact wm_of [true, true, false, false, true, false, true, true, false, true, false, false, true, false, false, false, false, false, false, true, true, true, true, true, true, true, true, true, true, true, true, true, true, false, false, false, false, false, false, false, false, false, false, false, false, false, false, false, false, false, false, false, false, false, false, false, false, false, false, false, false, false, false, false, false, false, false, false, false, false, false, false, false, false, false, false, false, false, false, false, false, false, false, false, false, false, false, false, false, false, false, false, false, false, false, false, false, false, false, false, false, false, false, false, false, false, false, false, false, false, false, false, false, false, false, false, false, false, false, false, false, false, false, false, false, false, false, false, false, false, false, false, false, false, false, false, false, false, false, false, false, false, false, false, false, false, false, false, false, false, false, false, false, false, false, false, false, false, false, false, false, false, false, false, false, false, false, false, false, false, false, false, false, false, false, false, false, false, false, false, false, false, false, false, false, false, false, false, false, false, false, false, false, false, false, false, false, false, false, false, false, false, false, false, false, false, false, false, false, false, false, false, false, false, false, true, true, true, true, true, true, true, true, true, true, true, true, true, true, true, true, true, true, true, true, true, true, true, true, true, true, true, true, true, true, true, true, true, true, true, true, true, true, true] (by kernel_rfl) (by kernel_rfl)
                     ·
                      refine w_op (a := .raw (.bool false)) rfl rfl rfl (op_q (q_bool rfl hc28)) (by dsimp only [aput, List.set]) ?_
                      refine w_pass rfl rfl (by decide) (by dsimp only [aput, List.set]) ?_
                      refine w_pass rfl rfl (by decide) (by dsimp only [aput, List.set]) ?_
                      refine w_pass rfl rfl (by decide) (by dsimp only [aput, List.set]) ?_
                      refine w_pass rfl rfl (by decide) (by dsimp only [aput, List.set]) ?_
                      refine w_met rfl rfl ?_
                      refine w_op (a := .raw (.bool false)) rfl rfl rfl rfl (by dsimp only [aput, List.set]) ?_
                      refine w_op (a := .raw (.bool false)) rfl rfl rfl rfl (by dsimp only [aput, List.set]) ?_
                      refine w_op (a := .raw (.bool false)) rfl rfl rfl rfl (by dsimp only [aput, List.set]) ?_
                      refine w_met rfl rfl ?_
                      refine w_op (a := .raw (.bool x38.2)) rfl rfl rfl rfl (by dsimp only [aput, List.set]) ?_
                      refine w_met rfl rfl ?_
                      refine w_op (a := .raw (.bool (!x38.2))) rfl rfl rfl rfl (by dsimp only [aput, List.set]) ?_
                      refine w_met rfl rfl ?_
                      refine bif_e h (fun hc32 h => ?_) (fun hc32 h => ?_)
                      ·
                       refine w_op (a := .raw (.bool true)) rfl rfl rfl (op_q (q_bool rfl hc32)) (by dsimp only [aput, List.set]) ?_
                       refine w_met rfl rfl ?_
                       refine w_op (a := .raw (.int .u8 x38.1)) rfl rfl rfl rfl (by dsimp only [aput, List.set]) ?_
                       refine w_met rfl rfl ?_
                       refine w_op (a := .raw (.bool (x38.1 != 0))) rfl rfl rfl rfl (by dsimp only [aput, List.set]) ?_
                       refine w_met rfl rfl ?_
                       refine w_op (a := .raw (.bool (x38.1 != 0))) rfl rfl rfl rfl (by dsimp only [aput, List.set]) ?_
                       refine w_op (a := .raw (.bool (x38.1 != 0))) rfl rfl rfl rfl (by dsimp only [aput, List.set]) ?_
                       refine bif_e h (fun hc33 h => ?_) (fun hc33 h => ?_)
                       ·
                        refine w_condT hc33 rfl ?_
                        refine w_seq (w_region ?_)
                        refine w_op (a := .raw (.bool false)) rfl rfl rfl rfl (by dsimp only [aput, List.set]) ?_
                        replace h := cut_inr h hr2
                        exact end_pureF (fun (r : Bool) => (.raw (.bool r) : AV)) h (a := .raw (.bool false)) rfl rfl rfl
                       ·
                        refine w_condF hc33 rfl ?_
                        refine cut_done (o := or2) () h ?_
                        exact wm_of [true, true, false, false, true, false, true, true, false, true, false, false, true, false, false, false, false, false, false, true, true, true, true, true, true, true, true, true, true, true, true, true, true, false, false, false, false, false, false, false, false, false, false, false, false, false, false, false, false, false, false, false, false, false, false, false, false, false, false, false, false, false, false, false, false, false, false, false, false, false, false, false, false, false, false, false, false, false, false, false, false, false, false, false, false, false, false, false, false, false, false, false, false, false, false, false, false, false, false, false, false, false, false, false, false, false, false, false, false, false, false, false, false, false, false, false, false, false, false, false, false, false, false, false, false, false, false, false, false, false, false, false, false, false, false, false, false, false, false, false, false, false, false, false, false, false, false, false, false, false, false, false, false, false, false, false, false, false, false, false, false, false, false, false, false, false, false, false, false, false, false, false, false, false, false, false, false, false, false, false, false, false, false, false, false, false, false, false, false, false, false, false, false, false, false, false, false, false, false, false, false, false, false, false, false, false, false, false, false, false, false, false, false, false, false, true, true, true, true, true, true, true, true, true, true, true, true, true, true, true, true, true, true, true, true, true, true, true, true, true, true, true, true, true, true, true, true, true, true, true, true, true, true, true] (by kernel_rfl) (by kernel_rfl)
                      ·
                       refine w_op (a := .raw (.bool false)) rfl rfl rfl (op_q (q_bool rfl hc32)) (by dsimp only [aput, List.set]) ?_
                       refine w_pass rfl rfl (by decide) (by dsimp only [aput, List.set]) ?_
                       refine w_pass rfl rfl (by decide) (by dsimp only [aput, List.set]) ?_
                       refine w_met rfl rfl ?_
                       refine w_op (a := .raw (.bool false)) rfl rfl rfl rfl (by dsimp only [aput, List.set]) ?_
                       refine w_op (a := .raw (.bool false)) rfl rfl rfl rfl (by dsimp only [aput, List.set]) ?_
                       refine w_false rfl ?_
                       refine cut_done (o := or2) () h ?_
                       exact wm_of [true, true, false, false, true, false, true, true, false, true, false, false, true, false, false, false, false, false, false, true, true, true, true, true, true, true, true, true, true, true, true, true, true, false, false, false, false, false, false, false, false, false, false, false, false, false, false, false, false, false, false, false, false, false, false, false, false, false, false, false, false, false, false, false, false, false, false, false, false, false, false, false, false, false, false, false, false, false, false, false, false, false, false, false, false, false, false, false, false, false, false, false, false, false, false, false, false, false, false, false, false, false, false, false, false, false, false, false, false, false, false, false, false, false, false, false, false, false, false, false, false, false, false, false, false, false, false, false, false, false, false, false, false, false, false, false, false, false, false, false, false, false, false, false, false, false, false, false, false, false, false, false, false, false, false, false, false, false, false, false, false, false, false, false, false, false, false, false, false, false, false, false, false, false, false, false, false, false, false, false, false, false, false, false, false, false, false, false, false, false, false, false, false, false, false, false, false, false, false, false, false, false, false, false, false, false, false, false, false, false, false, false, false, false, false, true, true, true, true, true, true, true, true, true, true, true, true, true, true, true, true, true, true, true, true, true, true, true, true, true, true, true, true, true, true, true, true, true, true, true, true, true, true, true] (by kernel_rfl) (by kernel_rfl)
                 ·
                  refine w_op (a := .raw (.bool false)) rfl rfl rfl (op_q (q_bool rfl hc16)) (by dsimp only [aput, List.set]) ?_
                  refine w_pass rfl rfl (by decide) (by dsimp only [aput, List.set]) ?_
                  refine w_pass rfl rfl (by decide) (by dsimp only [aput, List.set]) ?_
                  refine w_pass rfl rfl (by decide) (by dsimp only [aput, List.set]) ?_
                  refine w_pass rfl rfl (by decide) (by dsimp only [aput, List.set]) ?_
                  refine w_met rfl rfl ?_
                  refine w_op (a := .raw (.bool false)) rfl rfl rfl rfl (by dsimp only [aput, List.set]) ?_
                  refine w_op (a := .raw (.bool false)) rfl rfl rfl rfl (by dsimp only [aput, List.set]) ?_
                  refine w_op (a := .raw (.bool false)) rfl rfl rfl rfl (by dsimp only [aput, List.set]) ?_
                  refine w_met rfl rfl ?_
                  refine w_op (a := .raw (.bool x37.2)) rfl rfl rfl rfl (by dsimp only [aput, List.set]) ?_
                  refine w_met rfl rfl ?_
                  refine w_op (a := .raw (.bool (!x37.2))) rfl rfl rfl rfl (by dsimp only [aput, List.set]) ?_
                  refine w_met rfl rfl ?_
                  refine bif_e h (fun hc34 h => ?_) (fun hc34 h => ?_)
                  ·
                   refine w_op (a := .raw (.bool true)) rfl rfl rfl (op_q (q_bool rfl hc34)) (by dsimp only [aput, List.set]) ?_
                   refine w_met rfl rfl ?_
                   refine w_op (a := .raw (.int .u8 x37.1)) rfl rfl rfl rfl (by dsimp only [aput, List.set]) ?_
                   refine w_met rfl rfl ?_
                   refine w_op (a := .raw (.bool (x37.1 != 0))) rfl rfl rfl rfl (by dsimp only [aput, List.set]) ?_
                   refine w_met rfl rfl ?_
                   refine w_op (a := .raw (.bool (x37.1 != 0))) rfl rfl rfl rfl (by dsimp only [aput, List.set]) ?_
                   refine w_op (a := .raw (.bool (x37.1 != 0))) rfl rfl rfl rfl (by dsimp only [aput, List.set]) ?_
                   refine bif_e h (fun hc35 h => ?_) (fun hc35 h => ?_)
                   ·
                    refine w_op (a := .raw (.bool true)) rfl rfl rfl (op_q (q_bool rfl hc35)) (by dsimp only [aput, List.set]) ?_
                    refine w_pass rfl rfl (by decide) (by dsimp only [aput, List.set]) ?_
                    refine w_pass rfl rfl (by decide) (by dsimp only [aput, List.set]) ?_
                    refine w_pass rfl rfl (by decide) (by dsimp only [aput, List.set]) ?_
                    refine w_pass rfl rfl (by decide) (by dsimp only [aput, List.set]) ?_
                    refine w_op (a := .raw (.bool true)) rfl rfl rfl rfl (by dsimp only [aput, List.set]) ?_
                    refine w_op (a := .raw (.bool true)) rfl rfl rfl rfl (by dsimp only [aput, List.set]) ?_
                    refine w_pass rfl rfl (by decide) (by dsimp only [aput, List.set]) ?_
                    refine w_pass rfl rfl (by decide) (by dsimp only [aput, List.set]) ?_
                    refine w_pass rfl rfl (by decide) (by dsimp only [aput, List.set]) ?_
                    refine w_pass rfl rfl (by decide) (by dsimp only [aput, List.set]) ?_
                    refine w_pass rfl rfl (by decide) (by dsimp only [aput, List.set]) ?_
                    refine w_pass rfl rfl (by decide) (by dsimp only [aput, List.set]) ?_
                    refine w_pass rfl rfl (by decide) (by dsimp only [aput, List.set]) ?_
                    refine w_op (a := .raw (.bool true)) rfl rfl rfl rfl (by dsimp only [aput, List.set]) ?_
                    refine w_op (a := .raw (.bool true)) rfl rfl rfl rfl (by dsimp only [aput, List.set]) ?_
                    refine w_pass rfl rfl (by decide) (by dsimp only [aput, List.set]) ?_
                    refine w_pass rfl rfl (by decide) (by dsimp only [aput, List.set]) ?_
                    refine w_pass rfl rfl (by decide) (by dsimp only [aput, List.set]) ?_
                    refine w_pass rfl rfl (by decide) (by dsimp only [aput, List.set]) ?_
                    refine w_pass rfl rfl (by decide) (by dsimp only [aput, List.set]) ?_
                    refine w_pass rfl rfl (by decide) (by dsimp only [aput, List.set]) ?_
                    refine w_op (a := .raw (.bool true)) rfl rfl rfl rfl (by dsimp only [aput, List.set]) ?_
                    refine w_true rfl ?_
                    refine w_seq (w_region ?_)
                    refine w_op (a := .raw (.bool false)) rfl rfl rfl rfl (by dsimp only [aput, List.set]) ?_
                    replace h := cut_inr h hr2
                    exact end_pureF (fun (r : Bool) => (.raw (.bool r) : AV)) h (a := .raw (.bool false)) rfl rfl rfl
                   ·
                    refine w_op (a := .raw (.bool false)) rfl rfl rfl (op_q (q_bool rfl hc35)) (by dsimp only [aput, List.set]) ?_
                    refine w_met rfl rfl ?_
                    refine w_op (a := .raw (.bool x38.2)) rfl rfl rfl rfl (by dsimp only [aput, List.set]) ?_
                    refine w_met rfl rfl ?_
                    refine w_op (a := .raw (.int .i64 x40)) rfl rfl rfl rfl (by dsimp only [aput, List.set]) ?_
                    refine w_met rfl rfl ?_
                    refine w_op (a := .raw (.bool (decide (x40 ≥ 0)))) rfl rfl rfl rfl (by dsimp only [aput, List.set]) ?_
                    refine w_met rfl rfl ?_
                    refine w_op (a := .raw (.bool (!(x38.2 == (decide (x40 ≥ 0)))))) rfl rfl rfl (op_q (by kernel_rfl)) (by dsimp only [aput, List.set]) ?_
                    refine w_op (a := .raw (.bool (!(x38.2 == (decide (x40 ≥ 0)))))) rfl rfl rfl rfl (by dsimp only [aput, List.set]) ?_
                    refine bif_e h (fun hc36 h => ?_) (fun hc36 h => ?_)
                    ·
                     refine w_op (a := .raw (.bool true)) rfl rfl rfl (op_q (q_bool rfl hc36)) (by dsimp only [aput, List.set]) ?_
                     refine w_pass rfl rfl (by decide) (by dsimp only [aput, List.set]) ?_
                     refine w_pass rfl rfl (by decide) (by dsimp only [aput, List.set]) ?_
                     refine w_pass rfl rfl (by decide) (by dsimp only [aput, List.set]) ?_
                     refine w_pass rfl rfl (by decide) (by dsimp only [aput, List.set]) ?_
                     refine w_pass rfl rfl (by decide) (by dsimp only [aput, List.set]) ?_
                     refine w_pass rfl rfl (by decide) (by dsimp only [aput, List.set]) ?_
                     refine w_pass rfl rfl (by decide) (by dsimp only [aput, List.set]) ?_
                     refine w_op (a := .raw (.bool true)) rfl rfl rfl rfl (by dsimp only [aput, List.set]) ?_
                     refine w_op (a := .raw (.bool true)) rfl rfl rfl rfl (by dsimp only [aput, List.set]) ?_
                     refine w_pass rfl rfl (by decide) (by dsimp only [aput, List.set]) ?_
                     refine w_pass rfl rfl (by decide) (by dsimp only [aput, List.set]) ?_
                     refine w_pass rfl rfl (by decide) (by dsimp only [aput, List.set]) ?_
                     refine w_pass rfl rfl (by decide) (by dsimp only [aput, List.set]) ?_
                     refine w_pass rfl rfl (by decide) (by dsimp only [aput, List.set]) ?_
                     refine w_pass rfl rfl (by decide) (by dsimp only [aput, List.set]) ?_
                     refine w_op (a := .raw (.bool true)) rfl rfl rfl rfl (by dsimp only [aput, List.set]) ?_
                     refine w_true rfl ?_
                     refine w_seq (w_region ?_)
                     refine w_op (a := .raw (.bool false)) rfl rfl rfl rfl (by dsimp only [aput, List.set]) ?_
                     replace h := cut_inr h hr2
                     exact end_pureF (fun (r : Bool) => (.raw (.bool r) : AV)) h (a := .raw (.bool false)) rfl rfl rfl
                    ·
                     refine w_op (a := .raw (.bool false)) rfl rfl rfl (op_q (q_bool rfl hc36)) (by dsimp only [aput, List.set]) ?_
                     refine w_met rfl rfl ?_
                     refine w_op (a := .raw (.bool x38.2)) rfl rfl rfl rfl (by dsimp only [aput, List.set]) ?_
                     refine w_met rfl rfl ?_
                     refine bif_e h (fun hc37 h => ?_) (fun hc37 h => ?_)
                     ·
                      refine w_op (a := .raw (.bool true)) rfl rfl rfl (op_q (q_bool rfl hc37)) (by dsimp only [aput, List.set]) ?_
                      refine w_met rfl rfl ?_
                      refine w_op (a := .raw (.int .u8 x38.1)) rfl rfl rfl rfl (by dsimp only [aput, List.set]) ?_
                      refine w_met rfl rfl ?_
                      obtain ⟨g18, h⟩ := chk_e h
                      refine w_op (a := .raw (.int .i64 x38.1)) rfl rfl rfl (op_q (q_conv64 g18 rfl rfl rfl)) (by dsimp only [aput, List.set]) ?_
                      refine w_met rfl rfl ?_
                      refine w_op (a := .raw (.int .i64 x40)) rfl rfl rfl rfl (by dsimp only [aput, List.set]) ?_
                      refine w_met rfl rfl ?_
                      refine w_op (a := .raw (.bool (x38.1 != x40))) rfl rfl rfl rfl (by dsimp only [aput, List.set]) ?_
                      refine w_met rfl rfl ?_
                      refine w_op (a := .raw (.bool (x38.1 != x40))) rfl rfl rfl rfl (by dsimp only [aput, List.set]) ?_
                      refine w_op (a := .raw (.bool (x38.1 != x40))) rfl rfl rfl rfl (by dsimp only [aput, List.set]) ?_
                      refine bif_e h (fun hc38 h => ?_) (fun hc38 h => ?_)
                      ·
                       refine w_op (a := .raw (.bool true)) rfl rfl rfl (op_q (q_bool rfl hc38)) (by dsimp only [aput, List.set]) ?_
                       refine w_pass rfl rfl (by decide) (by dsimp only [aput, List.set]) ?_
                       refine w_pass rfl rfl (by decide) (by dsimp only [aput, List.set]) ?_
                       refine w_pass rfl rfl (by decide) (by dsimp only [aput, List.set]) ?_
                       refine w_pass rfl rfl (by decide) (by dsimp only [aput, List.set]) ?_
                       refine w_pass rfl rfl (by decide) (by dsimp only [aput, List.set]) ?_
                       refine w_pass rfl rfl (by decide) (by dsimp only [aput, List.set]) ?_
                       refine w_op (a := .raw (.bool true)) rfl rfl rfl rfl (by dsimp only [aput, List.set]) ?_
                       refine w_true rfl ?_
                       refine w_seq (w_region ?_)
                       refine w_op (a := .raw (.bool false)) rfl rfl rfl rfl (by dsimp only [aput, List.set]) ?_
                       replace h := cut_inr h hr2
                       exact end_pureF (fun (r : Bool) => (.raw (.bool r) : AV)) h (a := .raw (.bool false)) rfl rfl rfl
                      ·
                       refine w_op (a := .raw (.bool false)) rfl rfl rfl (op_q (q_bool rfl hc38)) (by dsimp only [aput, List.set]) ?_
                       refine w_met rfl rfl ?_
                       refine w_op (a := .raw (.bool x38.2)) rfl rfl rfl rfl (by dsimp only [aput, List.set]) ?_
                       refine w_met rfl rfl ?_
                       refine w_op (a := .raw (.bool (!x38.2))) rfl rfl rfl rfl (by dsimp only [aput, List.set]) ?_
                       refine w_met rfl rfl ?_
                       refine bif_e h (fun hc39 h => ?_) (fun hc39 h => ?_)
                       ·
                        refine w_op (a := .raw (.bool true)) rfl rfl rfl (op_q (q_bool rfl hc39)) (by dsimp only [aput, List.set]) ?_
                        refine w_met rfl rfl ?_
                        refine w_op (a := .raw (.int .u8 x38.1)) rfl rfl rfl rfl (by dsimp only [aput, List.set]) ?_
                        refine w_met rfl rfl ?_
                        refine w_op (a := .raw (.bool (x38.1 != 0))) rfl rfl rfl rfl (by dsimp only [aput, List.set]) ?_
                        refine w_met rfl rfl ?_
                        refine w_op (a := .raw (.bool (x38.1 != 0))) rfl rfl rfl rfl (by dsimp only [aput, List.set]) ?_
                        refine w_op (a := .raw (.bool (x38.1 != 0))) rfl rfl rfl rfl (by dsimp only [aput, List.set]) ?_
                        refine bif_e h (fun hc40 h => ?_) (fun hc40 h => ?_)
                        ·
                         refine w_condT hc40 rfl ?_
                         refine w_seq (w_region ?_)
                         refine w_op (a := .raw (.bool false)) rfl rfl rfl rfl (by dsimp only [aput, List.set]) ?_
                         replace h := cut_inr h hr2
                         exact end_pureF (fun (r : Bool) => (.raw (.bool r) : AV)) h (a := .raw (.bool false)) rfl rfl rfl
                        ·
                         refine w_condF hc40 rfl ?_
                         refine cut_done (o := or2) () h ?_
                         exact wm_of [true, true, false, false, true, false, true, true, false, true, false, false, true, false, false, false, false, false, false, true, true, true, true, true, true, true, true, true, true, true, true, true, true, false, false, false, false, false, false, false, false, false, false, false, false, false, false, false, false, false, false, false, false, false, false, false, false, false, false, false, false, false, false, false, false, false, false, false, false, false, false, false, false, false, false, false, false, false, false, false, false, false, false, false, false, false, false, false, false, false, false, false, false, false, false, false, false, false, false, false, false, false, false, false, false, false, false, false, false, false, false, false, false, false, false, false, false, false, false, false, false, false, false, false, false, false, false, false, false, false, false, false, false, false, false, false, false, false, false, false, false, false, false, false, false, false, false, false, false, false, false, false, false, false, false, false, false, false, false, false, false, false, false, false, false, false, false, false, false, false, false, false, false, false, false, false, false, false, false, false, false, false, false, false, false, false, false, false, false, false, false, false, false, false, false, false, false, false, false, false, false, false, false, false, false, false, false, false, false, false, false, false, false, false, false, true, true, true, true, true, true, true, true, true, true, true, true, true, true, true, true, true, true, true, true, true, true, true, true, true, true, true, true, true, true, true, true, true, true, true, true, true, true, true] (by kernel_rfl) (by kernel_rfl)
                       ·
                        refine w_op (a := .raw (.bool false)) rfl rfl rfl (op_q (q_bool rfl hc39)) (by dsimp only [aput, List.set]) ?_
                        refine w_pass rfl rfl (by decide) (by dsimp only [aput, List.set]) ?_
                        refine w_pass rfl rfl (by decide) (by dsimp only [aput, List.set]) ?_
                        refine w_met rfl rfl ?_
                        refine w_op (a := .raw (.bool false)) rfl rfl rfl rfl (by dsimp only [aput, List.set]) ?_
                        refine w_op (a := .raw (.bool false)) rfl rfl rfl rfl (by dsimp only [aput, List.set]) ?_
                        refine w_false rfl ?_
                        refine cut_done (o := or2) () h ?_
                        exact wm_of [true, true, false, false, true, false, true, true, false, true, false, false, true, false, false, false, false, false, false, true, true, true, true, true, true, true, true, true, true, true, true, true, true, false, false, false, false, false, false, false, false, false, false, false, false, false, false, false, false, false, false, false, false, false, false, false, false, false, false, false, false, false, false, false, false, false, false, false, false, false, false, false, false, false, false, false, false, false, false, false, false, false, false, false, false, false, false, false, false, false, false, false, false, false, false, false, false, false, false, false, false, false, false, false, false, false, false, false, false, false, false, false, false, false, false, false, false, false, false, false, false, false, false, false, false, false, false, false, false, false, false, false, false, false, false, false, false, false, false, false, false, false, false, false, false, false, false, false, false, false, false, false, false, false, false, false, false, false, false, false, false, false, false, false, false, false, false, false, false, false, false, false, false, false, false, false, false, false, false, false, false, false, false, false, false, false, false, false, false, false, false, false, false, false, false, false, false, false, false, false, false, false, false, false, false, false, false, false, false, false, false, false, false, false, false, true, true, true, true, true, true, true, true, true, true, true, true, true, true, true, true, true, true, true, true, true, true, true, true, true, true, true, true, true, true, true, true, true, true, true, true, true, true, true] (by kernel_rfl) (by kernel_rfl)
                     ·
                      refine w_op (a := .raw (.bool false)) rfl rfl rfl (op_q (q_bool rfl hc37)) (by dsimp only [aput, List.set]) ?_
                      refine w_pass rfl rfl (by decide) (by dsimp only [aput, List.set]) ?_
                      refine w_pass rfl rfl (by decide) (by dsimp only [aput, List.set]) ?_
                      refine w_pass rfl rfl (by decide) (by dsimp only [aput, List.set]) ?_
                      refine w_pass rfl rfl (by decide) (by dsimp only [aput, List.set]) ?_
                      refine w_met rfl rfl ?_
                      refine w_op (a := .raw (.bool false)) rfl rfl rfl rfl (by dsimp only [aput, List.set]) ?_
                      refine w_op (a := .raw (.bool false)) rfl rfl rfl rfl (by dsimp only [aput, List.set]) ?_
                      refine w_op (a := .raw (.bool false)) rfl rfl rfl rfl (by dsimp only [aput, List.set]) ?_
                      refine w_met rfl rfl ?_
                      refine w_op (a := .raw (.bool x38.2)) rfl rfl rfl rfl (by dsimp only [aput, List.set]) ?_
                      refine w_met rfl rfl ?_
                      refine w_op (a := .raw (.bool (!x38.2))) rfl rfl rfl rfl (by dsimp only [aput, List.set]) ?_
                      refine w_met rfl rfl ?_
                      refine bif_e h (fun hc41 h => ?_) (fun hc41 h => ?_)
                      ·
                       refine w_op (a := .raw (.bool true)) rfl rfl rfl (op_q (q_bool rfl hc41)) (by dsimp only [aput, List.set]) ?_
                       refine w_met rfl rfl ?_
                       refine w_op (a := .raw (.int .u8 x38.1)) rfl rfl rfl rfl (by dsimp only [aput, List.set]) ?_
                       refine w_met rfl rfl ?_
                       refine w_op (a := .raw (.bool (x38.1 != 0))) rfl rfl rfl rfl (by dsimp only [aput, List.set]) ?_
                       refine w_met rfl rfl ?_
                       refine w_op (a := .raw (.bool (x38.1 != 0))) rfl rfl rfl rfl (by dsimp only [aput, List.set]) ?_
                       refine w_op (a := .raw (.bool (x38.1 != 0))) rfl rfl rfl rfl (by dsimp only [aput, List.set]) ?_
                       refine bif_e h (fun hc42 h => ?_) (fun hc42 h => ?_)
                       ·
                        refine w_condT hc42 rfl ?_
                        refine w_seq (w_region ?_)
                        refine w_op (a := .raw (.bool false)) rfl rfl rfl rfl (by dsimp only [aput, List.set]) ?_
                        replace h := cut_inr h hr2
                        exact end_pureF (fun (r : Bool) => (.raw (.bool r) : AV)) h (a := .raw (.bool false)) rfl rfl rfl
                       ·
                        refine w_condF hc42 rfl ?_
                        refine cut_done (o := or2) () h ?_
                        exact wm_of [true, true, false, false, true, false, true, true, false, true, false, false, true, false, false, false, false, false, false, true, true, true, true, true, true, true, true, true, true, true, true, true, true, false, false, false, false, false, false, false, false, false, false, false, false, false, false, false, false, false, false, false, false, false, false, false, false, false, false, false, false, false, false, false, false, false, false, false, false, false, false, false, false, false, false, false, false, false, false, false, false, false, false, false, false, false, false, false, false, false, false, false, false, false, false, false, false, false, false, false, false, false, false, false, false, false, false, false, false, false, false, false, false, false, false, false, false, false, false, false, false, false, false, false, false, false, false, false, false, false, false, false, false, false, false, false, false, false, false, false, false, false, false, false, false, false, false, false, false, false, false, false, false, false, false, false, false, false, false, false, false, false, false, false, false, false, false, false, false, false, false, false, false, false, false, false, false, false, false, false, false, false, false, false, false, false, false, false, false, false, false, false, false, false, false, false, false, false, false, false, false, false, false, false, false, false, false, false, false, false, false, false, false, false, false, true, true, true, true, true, true, true, true, true, true, true, true, true, true, true, true, true, true, true, true, true, true, true, true, true, true, true, true, true, true, true, true, true, true, true, true, true, true, true] (by kernel_rfl) (by kernel_rfl)
                      ·
                       refine w_op (a := .raw (.bool false)) rfl rfl rfl (op_q (q_bool rfl hc41)) (by dsimp only [aput, List.set]) ?_
                       refine w_pass rfl rfl (by decide) (by dsimp only [aput, List.set]) ?_
                       refine w_pass rfl rfl (by decide) (by dsimp only [aput, List.set]) ?_
                       refine w_met rfl rfl ?_
                       refine w_op (a := .raw (.bool false)) rfl rfl rfl rfl (by dsimp only [aput, List.set]) ?_
                       refine w_op (a := .raw (.bool false)) rfl rfl rfl rfl (by dsimp only [aput, List.set]) ?_
                       refine w_false rfl ?_
                       refine cut_done (o := or2) () h ?_
                       exact wm_of [true, true, false, false, true, false, true, true, false, true, false, false, true, false, false, false, false, false, false, true, true, true, true, true, true, true, true, true, true, true, true, true, true, false, false, false, false, false, false, false, false, false, false, false, false, false, false, false, false, false, false, false, false, false, false, false, false, false, false, false, false, false, false, false, false, false, false, false, false, false, false, false, false, false, false, false, false, false, false, false, false, false, false, false, false, false, false, false, false, false, false, false, false, false, false, false, false, false, false, false, false, false, false, false, false, false, false, false, false, false, false, false, false, false, false, false, false, false, false, false, false, false, false, false, false, false, false, false, false, false, false, false, false, false, false, false, false, false, false, false, false, false, false, false, false, false, false, false, false, false, false, false, false, false, false, false, false, false, false, false, false, false, false, false, false, false, false, false, false, false, false, false, false, false, false, false, false, false, false, false, false, false, false, false, false, false, false, false, false, false, false, false, false, false, false, false, false, false, false, false, false, false, false, false, false, false, false, false, false, false, false, false, false, false, false, true, true, true, true, true, true, true, true, true, true, true, true, true, true, true, true, true, true, true, true, true, true, true, true, true, true, true, true, true, true, true, true, true, true, true, true, true, true, true] (by kernel_rfl) (by kernel_rfl)
                  ·
                   refine w_op (a := .raw (.bool false)) rfl rfl rfl (op_q (q_bool rfl hc34)) (by dsimp only [aput, List.set]) ?_
                   refine w_pass rfl rfl (by decide) (by dsimp only [aput, List.set]) ?_
                   refine w_pass rfl rfl (by decide) (by dsimp only [aput, List.set]) ?_
                   refine w_met rfl rfl ?_
                   refine w_op (a := .raw (.bool false)) rfl rfl rfl rfl (by dsimp only [aput, List.set]) ?_
                   refine w_op (a := .raw (.bool false)) rfl rfl rfl rfl (by dsimp only [aput, List.set]) ?_
                   refine w_op (a := .raw (.bool false)) rfl rfl rfl rfl (by dsimp only [aput, List.set]) ?_
                   refine w_met rfl rfl ?_
                   refine w_op (a := .raw (.bool x38.2)) rfl rfl rfl rfl (by dsimp only [aput, List.set]) ?_
                   refine w_met rfl rfl ?_
                   refine w_op (a := .raw (.int .i64 x40)) rfl rfl rfl rfl (by dsimp only [aput, List.set]) ?_
                   refine w_met rfl rfl ?_
                   refine w_op (a := .raw (.bool (decide (x40 ≥ 0)))) rfl rfl rfl rfl (by dsimp only [aput, List.set]) ?_
                   refine w_met rfl rfl ?_
                   refine w_op (a := .raw (.bool (!(x38.2 == (decide (x40 ≥ 0)))))) rfl rfl rfl (op_q (by kernel_rfl)) (by dsimp only [aput, List.set]) ?_
                   refine w_op (a := .raw (.bool (!(x38.2 == (decide (x40 ≥ 0)))))) rfl rfl rfl rfl (by dsimp only [aput, List.set]) ?_
                   refine bif_e h (fun hc43 h => ?_) (fun hc43 h => ?_)
                   ·
                    refine w_op (a := .raw (.bool true)) rfl rfl rfl (op_q (q_bool rfl hc43)) (by dsimp only [aput, List.set]) ?_
                    refine w_pass rfl rfl (by decide) (by dsimp only [aput, List.set]) ?_
                    refine w_pass rfl rfl (by decide) (by dsimp only [aput, List.set]) ?_
                    refine w_pass rfl rfl (by decide) (by dsimp only [aput, List.set]) ?_
                    refine w_pass rfl rfl (by decide) (by dsimp only [aput, List.set]) ?_
                    refine w_pass rfl rfl (by decide) (by dsimp only [aput, List.set]) ?_
                    refine w_pass rfl rfl (by decide) (by dsimp only [aput, List.set]) ?_
                    refine w_pass rfl rfl (by decide) (by dsimp only [aput, List.set]) ?_
                    refine w_op (a := .raw (.bool true)) rfl rfl rfl rfl (by dsimp only [aput, List.set]) ?_
                    refine w_op (a := .raw (.bool true)) rfl rfl rfl rfl (by dsimp only [aput, List.set]) ?_
                    refine w_pass rfl rfl (by decide) (by dsimp only [aput, List.set]) ?_
                    refine w_pass rfl rfl (by decide) (by dsimp only [aput, List.set]) ?_
                    refine w_pass rfl rfl (by decide) (by dsimp only [aput, List.set]) ?_
                    refine w_pass rfl rfl (by decide) (by dsimp only [aput, List.set]) ?_
                    refine w_pass rfl rfl (by decide) (by dsimp only [aput, List.set]) ?_
                    refine w_pass rfl rfl (by decide) (by dsimp only [aput, List.set]) ?_
                    refine w_op (a := .raw (.bool true)) rfl rfl rfl rfl (by dsimp only [aput, List.set]) ?_
                    refine w_true rfl ?_
                    refine w_seq (w_region ?_)
                    refine w_op (a := .raw (.bool false)) rfl rfl rfl rfl (by dsimp only [aput, List.set]) ?_
                    replace h := cut_inr h hr2
                    exact end_pureF (fun (r : Bool) => (.raw (.bool r) : AV)) h (a := .raw (.bool false)) rfl rfl rfl
                   ·
                    refine w_op (a := .raw (.bool false)) rfl rfl rfl (op_q (q_bool rfl hc43)) (by dsimp only [aput, List.set]) ?_
                    refine w_met rfl rfl ?_
                    refine w_op (a := .raw (.bool x38.2)) rfl rfl rfl rfl (by dsimp only [aput, List.set]) ?_
                    refine w_met rfl rfl ?_
                    refine bif_e h (fun hc44 h => ?_) (fun hc44 h => ?_)
                    ·
                     refine w_op (a := .raw (.bool true)) rfl rfl rfl (op_q (q_bool rfl hc44)) (by dsimp only [aput, List.set]) ?_
                     refine w_met rfl rfl ?_
                     refine w_op (a := .raw (.int .u8 x38.1)) rfl rfl rfl rfl (by dsimp only [aput, List.set]) ?_
                     refine w_met rfl rfl ?_
                     obtain ⟨g19, h⟩ := chk_e h
                     refine w_op (a := .raw (.int .i64 x38.1)) rfl rfl rfl (op_q (q_conv64 g19 rfl rfl rfl)) (by dsimp only [aput, List.set]) ?_
                     refine w_met rfl rfl ?_
                     refine w_op (a := .raw (.int .i64 x40)) rfl rfl rfl rfl (by dsimp only [aput, List.set]) ?_
                     refine w_met rfl rfl ?_
                     refine w_op (a := .raw (.bool (x38.1 != x40))) rfl rfl rfl rfl (by dsimp only [aput, List.set]) ?_
                     refine w_met rfl rfl ?_
                     refine w_op (a := .raw (.bool (x38.1 != x40))) rfl rfl rfl rfl (by dsimp only [aput, List.set]) ?_
                     refine w_op (a := .raw (.bool (x38.1 != x40))) rfl rfl rfl rfl (by dsimp only [aput, List.set]) ?_
                     refine bif_e h (fun hc45 h => ?_) (fun hc45 h => ?_)
                     ·
                      refine w_op (a := .raw (.bool true)) rfl rfl rfl (op_q (q_bool rfl hc45)) (by dsimp only [aput, List.set]) ?_
                      refine w_pass rfl rfl (by decide) (by dsimp only [aput, List.set]) ?_
                      refine w_pass rfl rfl (by decide) (by dsimp only [aput, List.set]) ?_
                      refine w_pass rfl rfl (by decide) (by dsimp only [aput, List.set]) ?_
                      refine w_pass rfl rfl (by decide) (by dsimp only [aput, List.set]) ?_
                      refine w_pass rfl rfl (by decide) (by dsimp only [aput, List.set]) ?_
                      refine w_pass rfl rfl (by decide) (by dsimp only [aput, List.set]) ?_
                      refine w_op (a := .raw (.bool true)) rfl rfl rfl rfl (by dsimp only [aput, List.set]) ?_
                      refine w_true rfl ?_
                      refine w_seq (w_region ?_)
                      refine w_op (a := .raw (.bool false)) rfl rfl rfl rfl (by dsimp only [aput, List.set]) ?_
                      replace h := cut_inr h hr2
                      exact end_pureF (fun (r : Bool) => (.raw (.bool r) : AV)) h (a := .raw (.bool false)) rfl rfl rfl
                     ·
                      refine w_op (a := .raw (.bool false)) rfl rfl rfl (op_q (q_bool rfl hc45)) (by dsimp only [aput, List.set]) ?_
                      refine w_met rfl rfl ?_
                      refine w_op (a := .raw (.bool x38.2)) rfl rfl rfl rfl (by dsimp only [aput, List.set]) ?_
                      refine w_met rfl rfl ?_
                      refine w_op (a := .raw (.bool (!x38.2))) rfl rfl rfl rfl (by dsimp only [aput, List.set]) ?_
                      refine w_met rfl rfl ?_
                      refine bif_e h (fun hc46 h => ?_) (fun hc46 h => ?_)
                      ·
                       refine w_op (a := .raw (.bool true)) rfl rfl rfl (op_q (q_bool rfl hc46)) (by dsimp only [aput, List.set]) ?_
                       refine w_met rfl rfl ?_
                       refine w_op (a := .raw (.int .u8 x38.1)) rfl rfl rfl rfl (by dsimp only [aput, List.set]) ?_
                       refine w_met rfl rfl ?_
                       refine w_op (a := .raw (.bool (x38.1 != 0))) rfl rfl rfl rfl (by dsimp only [aput, List.set]) ?_
                       refine w_met rfl rfl ?_
                       refine w_op (a := .raw (.bool (x38.1 != 0))) rfl rfl rfl rfl (by dsimp only [aput, List.set]) ?_
                       refine w_op (a := .raw (.bool (x38.1 != 0))) rfl rfl rfl rfl (by dsimp only [aput, List.set]) ?_
                       refine bif_e h (fun hc47 h => ?_) (fun hc47 h => ?_)
                       ·
                        refine w_condT hc47 rfl ?_
                        refine w_seq (w_region ?_)
                        refine w_op (a := .raw (.bool false)) rfl rfl rfl rfl (by dsimp only [aput, List.set]) ?_
                        replace h := cut_inr h hr2
                        exact end_pureF (fun (r : Bool) => (.raw (.bool r) : AV)) h (a := .raw (.bool false)) rfl rfl rfl
                       ·
                        refine w_condF hc47 rfl ?_
                        refine cut_done (o := or2) () h ?_
                        exact wm_of [true, true, false, false, true, false, true, true, false, true, false, false, true, false, false, false, false, false, false, true, true, true, true, true, true, true, true, true, true, true, true, true, true, false, false, false, false, false, false, false, false, false, false, false, false, false, false, false, false, false, false, false, false, false, false, false, false, false, false, false, false, false, false, false, false, false, false, false, false, false, false, false, false, false, false, false, false, false, false, false, false, false, false, false, false, false, false, false, false, false, false, false, false, false, false, false, false, false, false, false, false, false, false, false, false, false, false, false, false, false, false, false, false, false, false, false, false, false, false, false, false, false, false, false, false, false, false, false, false, false, false, false, false, false, false, false, false, false, false, false, false, false, false, false, false, false, false, false, false, false, false, false, false, false, false, false, false, false, false, false, false, false, false, false, false, false, false, false, false, false, false, false, false, false, false, false, false, false, false, false, false, false, false, false, false, false, false, false, false, false, false, false, false, false, false, false, false, false, false, false, false, false, false, false, false, false, false, false, false, false, false, false, false, false, false, true, true, true, true, true, true, true, true, true, true, true, true, true, true, true, true, true, true, true, true, true, true, true, true, true, true, true, true, true, true, true, true, true, true, true, true, true, true, true] (by kernel_rfl) (by kernel_rfl)
                      ·
                       refine w_op (a := .raw (.bool false)) rfl rfl rfl (op_q (q_bool rfl hc46)) (by dsimp only [aput, List.set]) ?_
                       refine w_pass rfl rfl (by decide) (by dsimp only [aput, List.set]) ?_
                       refine w_pass rfl rfl (by decide) (by dsimp only [aput, List.set]) ?_
                       refine w_met rfl rfl ?_
                       refine w_op (a := .raw (.bool false)) rfl rfl rfl rfl (by dsimp only [aput, List.set]) ?_
                       refine w_op (a := .raw (.bool false)) rfl rfl rfl rfl (by dsimp only [aput, List.set]) ?_
                       refine w_false rfl ?_
                       refine cut_done (o := or2) () h ?_
                       exact wm_of [true, true, false, false, true, false, true, true, false, true, false, false, true, false, false, false, false, false, false, true, true, true, true, true, true, true, true, true, true, true, true, true, true, false, false, false, false, false, false, false, false, false, false, false, false, false, false, false, false, false, false, false, false, false, false, false, false, false, false, false, false, false, false, false, false, false, false, false, false, false, false, false, false, false, false, false, false, false, false, false, false, false, false, false, false, false, false, false, false, false, false, false, false, false, false, false, false, false, false, false, false, false, false, false, false, false, false, false, false, false, false, false, false, false, false, false, false, false, false, false, false, false, false, false, false, false, false, false, false, false, false, false, false, false, false, false, false, false, false, false, false, false, false, false, false, false, false, false, false, false, false, false, false, false, false, false, false, false, false, false, false, false, false, false, false, false, false, false, false, false, false, false, false, false, false, false, false, false, false, false, false, false, false, false, false, false, false, false, false, false, false, false, false, false, false, false, false, false, false, false, false, false, false, false, false, false, false, false, false, false, false, false, false, false, false, true, true, true, true, true, true, true, true, true, true, true, true, true, true, true, true, true, true, true, true, true, true, true, true, true, true, true, true, true, true, true, true, true, true, true, true, true, true, true] (by kernel_rfl) (by kernel_rfl)
                    ·
                     refine w_op (a := .raw (.bool false)) rfl rfl rfl (op_q (q_bool rfl hc44)) (by dsimp only [aput, List.set]) ?_
                     refine w_pass rfl rfl (by decide) (by dsimp only [aput, List.set]) ?_
                     refine w_pass rfl rfl (by decide) (by dsimp only [aput, List.set]) ?_
                     refine w_pass rfl rfl (by decide) (by dsimp only [aput, List.set]) ?_
                     refine w_pass rfl rfl (by decide) (by dsimp only [aput, List.set]) ?_
                     refine w_met rfl rfl ?_
                     refine w_op (a := .raw (.bool false)) rfl rfl rfl rfl (by dsimp only [aput, List.set]) ?_
                     refine w_op (a := .raw (.bool false)) rfl rfl rfl rfl (by dsimp only [aput, List.set]) ?_
                     refine w_op (a := .raw (.bool false)) rfl rfl rfl rfl (by dsimp only [aput, List.set]) ?_
                     refine w_met rfl rfl ?_
                     refine w_op (a := .raw (.bool x38.2)) rfl rfl rfl rfl (by dsimp only [aput, List.set]) ?_
                     refine w_met rfl rfl ?_
                     refine w_op (a := .raw (.bool (!x38.2))) rfl rfl rfl rfl (by dsimp only [aput, List.set]) ?_
                     refine w_met rfl rfl ?_
                     refine bif_e h (fun hc48 h => ?_) (fun hc48 h => ?_)
                     ·
                      refine w_op (a := .raw (.bool true)) rfl rfl rfl (op_q (q_bool rfl hc48)) (by dsimp only [aput, List.set]) ?_
                      refine w_met rfl rfl ?_
                      refine w_op (a := .raw (.int .u8 x38.1)) rfl rfl rfl rfl (by dsimp only [aput, List.set]) ?_
                      refine w_met rfl rfl ?_
                      refine w_op (a := .raw (.bool (x38.1 != 0))) rfl rfl rfl rfl (by dsimp only [aput, List.set]) ?_
                      refine w_met rfl rfl ?_
                      refine w_op (a := .raw (.bool (x38.1 != 0))) rfl rfl rfl rfl (by dsimp only [aput, List.set]) ?_
                      refine w_op (a := .raw (.bool (x38.1 != 0))) rfl rfl rfl rfl (by dsimp only [aput, List.set]) ?_
                      refine bif_e h (fun hc49 h => ?_) (fun hc49 h => ?_)
                      ·
                       refine w_condT hc49 rfl ?_
                       refine w_seq (w_region ?_)
                       refine w_op (a := .raw (.bool false)) rfl rfl rfl rfl (by dsimp only [aput, List.set]) ?_
                       replace h := cut_inr h hr2
                       exact end_pureF (fun (r : Bool) => (.raw (.bool r) : AV)) h (a := .raw (.bool false)) rfl rfl rfl
                      ·
                       refine w_condF hc49 rfl ?_
                       refine cut_done (o := or2) () h ?_
                       exact wm_of [true, true, false, false, true, false, true, true, false, true, false, false, true, false, false, false, false, false, false, true, true, true, true, true, true, true, true, true, true, true, true, true, true, false, false, false, false, false, false, false, false, false, false, false, false, false, false, false, false, false, false, false, false, false, false, false, false, false, false, false, false, false, false, false, false, false, false, false, false, false, false, false, false, false, false, false, false, false, false, false, false, false, false, false, false, false, false, false, false, false, false, false, false, false, false, false, false, false, false, false, false, false, false, false, false, false, false, false, false, false, false, false, false, false, false, false, false, false, false, false, false, false, false, false, false, false, false, false, false, false, false, false, false, false, false, false, false, false, false, false, false, false, false, false, false, false, false, false, false, false, false, false, false, false, false, false, false, false, false, false, false, false, false, false, false, false, false, false, false, false, false, false, false, false, false, false, false, false, false, false, false, false, false, false, false, false, false, false, false, false, false, false, false, false, false, false, false, false, false, false, false, false, false, false, false, false, false, false, false, false, false, false, false, false, false, true, true, true, true, true, true, true, true, true, true, true, true, true, true, true, true, true, true, true, true, true, true, true, true, true, true, true, true, true, true, true, true, true, true, true, true, true, true, true] (by kernel_rfl) (by kernel_rfl)
                     ·
                      refine w_op (a := .raw (.bool false)) rfl rfl rfl (op_q (q_bool rfl hc48)) (by dsimp only [aput, List.set]) ?_
                      refine w_pass rfl rfl (by decide) (by dsimp only [aput, List.set]) ?_
                      refine w_pass rfl rfl (by decide) (by dsimp only [aput, List.set]) ?_
                      refine w_met rfl rfl ?_
                      refine w_op (a := .raw (.bool false)) rfl rfl rfl rfl (by dsimp only [aput, List.set]) ?_
                      refine w_op (a := .raw (.bool false)) rfl rfl rfl rfl (by dsimp only [aput, List.set]) ?_
                      refine w_false rfl ?_
                      refine cut_done (o := or2) () h ?_
                      exact wm_of [true, true, false, false, true, false, true, true, false, true, false, false, true, false, false, false, false, false, false, true, true, true, true, true, true, true, true, true, true, true, true, true, true, false, false, false, false, false, false, false, false, false, false, false, false, false, false, false, false, false, false, false, false, false, false, false, false, false, false, false, false, false, false, false, false, false, false, false, false, false, false, false, false, false, false, false, false, false, false, false, false, false, false, false, false, false, false, false, false, false, false, false, false, false, false, false, false, false, false, false, false, false, false, false, false, false, false, false, false, false, false, false, false, false, false, false, false, false, false, false, false, false, false, false, false, false, false, false, false, false, false, false, false, false, false, false, false, false, false, false, false, false, false, false, false, false, false, false, false, false, false, false, false, false, false, false, false, false, false, false, false, false, false, false, false, false, false, false, false, false, false, false, false, false, false, false, false, false, false, false, false, false, false, false, false, false, false, false, false, false, false, false, false, false, false, false, false, false, false, false, false, false, false, false, false, false, false, false, false, false, false, false, false, false, false, true, true, true, true, true, true, true, true, true, true, true, true, true, true, true, true, true, true, true, true, true, true, true, true, true, true, true, true, true, true, true, true, true, true, true, true, true, true, true] (by kernel_rfl) (by kernel_rfl)
               ·
                intro j2 h
                refine w_start (by dsimp only [setAll, topAll, List.foldl, List.set]) rfl ?_
                refine w_seq ?_
                refine w_draw (id := 17) 3 (by kernel_rfl) (by kernel_rfl) ?_
                refine h_op (a := .agg (Enc.cells (a : BS))) rfl rfl rfl rfl (by dsimp only [aput, List.set]) ?_
                obtain ⟨x41, hx41, h⟩ := letE_e h
                refine h_call (args' := [.agg (Enc.cells (a : BS))]) (r := .list (List.length (x41 : List Sp)) (Enc.cellsL (x41 : List Sp)) .none) (by rw [← hx41]; exact (k_spans a)) rfl rfl rfl (stripL_cons (strip_c (clo_agg (Enc.clo _))) rfl) (okTrimL_cons (okTrim_clo _ _ (clo_agg (Enc.clo _))) rfl) (by dsimp only [aput, List.set]) ?_
                refine h_op (a := .agg (Enc.cells (x1 : Ar))) rfl rfl rfl (q_loadArr x1 (by decide) rfl rfl rfl) (by dsimp only [aput, List.set]) ?_
                refine h_end ?_
                obtain ⟨x42, hx42, h⟩ := bindE_e h
                refine w_callc (args' := [.agg (Enc.cells (x1 : Ar))]) (r := .list (List.length (x42 : List Int)) (Enc.cellsL (x42 : List Int)) .none) (rspans_sh fuel x1 x42 hx42) rfl rfl (stripL_cons (strip_c (clo_agg (Enc.clo _))) rfl) (okTrimL_cons (okTrim_clo _ _ (clo_agg (Enc.clo _))) rfl) (by dsimp only [aput, List.set]) ?_
                refine w_op (a := .list (List.length (x41 : List Sp)) (Enc.cellsL (x41 : List Sp)) .none) rfl rfl rfl rfl (by dsimp only [aput, List.set]) ?_
                refine w_op (a := .list (List.length (x42 : List Int)) (Enc.cellsL (x42 : List Int)) .none) rfl rfl rfl rfl (by dsimp only [aput, List.set]) ?_
                refine w_seq ?_
                refine w_seq (w_region ?_)
                refine w_op (a := .list (List.length (x41 : List Sp)) (Enc.cellsL (x41 : List Sp)) .none) rfl rfl rfl rfl (by dsimp only [aput, List.set]) ?_
                refine w_op (a := .raw (.int .i64 (List.length x41 : Int))) rfl rfl rfl rfl (by dsimp only [aput, List.set]) ?_
                obtain ⟨g20, h⟩ := chk_e h
                refine w_op (a := .raw (.int .i64 (2 * (List.length x41 : Int)))) rfl rfl rfl (op_q (q_mul rfl rfl rfl rfl g20.1 g20.2)) (by dsimp only [aput, List.set]) ?_
                refine w_op (a := .list (List.length (x42 : List Int)) (Enc.cellsL (x42 : List Int)) .none) rfl rfl rfl rfl (by dsimp only [aput, List.set]) ?_
                refine w_op (a := .raw (.int .i64 (List.length x42 : Int))) rfl rfl rfl rfl (by dsimp only [aput, List.set]) ?_
                refine w_op (a := .raw (.bool ((2 * (List.length x41 : Int)) != (List.length x42 : Int)))) rfl rfl rfl rfl (by dsimp only [aput, List.set]) ?_
                refine bif_e h (fun hc50 h => ?_) (fun hc50 h => ?_)
                ·
                 refine w_condT hc50 rfl ?_
                 refine w_seq (w_region ?_)
                 refine w_op (a := .raw (.bool false)) rfl rfl rfl rfl (by dsimp only [aput, List.set]) ?_
                 exact end_pureF (fun (r : Bool) => (.raw (.bool r) : AV)) h (a := .raw (.bool false)) rfl rfl rfl
                ·
                 refine w_condF hc50 rfl ?_
                 refine w_cutF h [4, 8, 9, 19, 20, 21, 22, 215, 216, 217, 218, 219, 220, 221, 222, 223, 224, 225, 226, 227, 228, 229, 230, 231, 232, 233, 234, 235, 236, 237, 238, 239, 240, 241, 242, 243, 244, 245, 246, 247, 248, 249, 250, 251, 252, 253] (fun j3 => []) (fun j3 => ⟨[(24, (Enc.cells (a : BS))), (24, (Enc.cells (b : BS))), (57, (Enc.cells (x1 : Ar))), (57, (Enc.cells (x2 : Ar))), (57, (Enc.cells (j1 : Ar)))], [], [], 0, false⟩) ?_ ?_
                 ·
                  intro or3 h hr3
                  refine w_seq (w_region ?_)
                  refine w_op (a := .list (List.length (x41 : List Sp)) (Enc.cellsL (x41 : List Sp)) .none) rfl rfl rfl rfl (by dsimp only [aput, List.set]) ?_
                  refine w_op (a := .raw (.int .i64 (List.length x41 : Int))) rfl rfl rfl rfl (by dsimp only [aput, List.set]) ?_
                  refine w_op (a := .raw (.int .i64 0)) rfl rfl rfl rfl (by dsimp only [aput, List.set]) ?_
                  refine w_block ?_
                  refine w_loopF h [4, 8, 9, 19, 21, 22, 215, 216, 217, 218, 219, 220, 221, 222, 223, 224, 227, 228, 229, 230, 231, 232, 233, 234, 235, 236, 237, 238, 239, 240, 241, 242, 243, 244, 245, 246, 247, 248, 249, 250, 251, 252, 253] (fun s2 => [(227, .raw (.int .i64 s2))]) (fun s2 => ⟨[(24, (Enc.cells (a : BS))), (24, (Enc.cells (b : BS))), (57, (Enc.cells (x1 : Ar))), (57, (Enc.cells (x2 : Ar))), (57, (Enc.cells (j1 : Ar)))], [], [], 0, false⟩) ?_ ?_
                  ·
                   exact wm_of [true, true, true, true, false, true, true, true, false, false, true, true, true, true, true, true, true, true, true, false, true, false, false, true, true, true, true, true, true, true, true, true, true, true, true, true, true, true, true, true, true, true, true, true, true, true, true, true, true, true, true, true, true, true, true, true, true, true, true, true, true, true, true, true, true, true, true, true, true, true, true, true, true, true, true, true, true, true, true, true, true, true, true, true, true, true, true, true, true, true, true, true, true, true, true, true, true, true, true, true, true, true, true, true, true, true, true, true, true, true, true, true, true, true, true, true, true, true, true, true, true, true, true, true, true, true, true, true, true, true, true, true, true, true, true, true, true, true, true, true, true, true, true, true, true, true, true, true, true, true, true, true, true, true, true, true, true, true, true, true, true, true, true, true, true, true, true, true, true, true, true, true, true, true, true, true, true, true, true, true, true, true, true, true, true, true, true, true, true, true, true, true, true, true, true, true, true, true, true, true, true, true, true, true, true, true, true, true, true, true, true, true, true, true, true, false, false, false, false, false, false, false, false, false, false, true, true, true, false, false, false, false, false, false, false, false, false, false, false, false, false, false, false, false, false, false, false, false, false, false, false, false, false, false] (by kernel_rfl) (by kernel_rfl)
                  ·
                   intro s2 p2 h
                   refine w_start (by dsimp only [setAll, topAll, List.foldl, List.set]) rfl ?_
                   refine w_seq (w_region ?_)
                   refine w_op (a := .raw (.bool (decide (s2 < (List.length x41 : Int))))) rfl rfl rfl rfl (by dsimp only [aput, List.set]) ?_
                   refine w_seq ?_
                   refine bif_e h (fun hc51 h => ?_) (fun hc51 h => ?_)
                   ·
                    refine w_condT hc51 rfl ?_
                    refine w_seq ?_
                    refine w_block ?_
                    refine w_seq (w_region ?_)
                    refine w_op (a := .raw (.int .i64 s2)) rfl rfl rfl rfl (by dsimp only [aput, List.set]) ?_
                    obtain ⟨g21, h⟩ := chk_e h
                    obtain ⟨x43, hx43, h⟩ := letE_e h
                    refine w_op (a := .iptr (Enc.cells x43 ++ Enc.cellsL (List.drop (Int.toNat s2 + 1) x41))) rfl rfl rfl (op_q (by rw [← hx43]; exact (q_idx (α := Sp) (l := x41) g21 rfl rfl rfl rfl rfl))) (by dsimp only [aput, List.set]) ?_
                    refine w_op (a := .agg (Enc.cells (x43 : Sp))) rfl rfl rfl rfl (by dsimp only [aput, List.set]) ?_
                    refine w_opm (a := .ptr 5 0) (σ'' := ⟨[(24, (Enc.cells (a : BS))), (24, (Enc.cells (b : BS))), (57, (Enc.cells (x1 : Ar))), (57, (Enc.cells (x2 : Ar))), (57, (Enc.cells (j1 : Ar))), (49, (Enc.cells ((0, 0) : Sp)))], [], [], 0, false⟩) rfl rfl rfl rfl (by dsimp only [aput, List.set]) rfl ?_
                    refine w_op (a := .raw (.int .i64 s2)) rfl rfl rfl rfl (by dsimp only [aput, List.set]) ?_
                    refine w_opm (σ'' := ⟨[(24, (Enc.cells (a : BS))), (24, (Enc.cells (b : BS))), (57, (Enc.cells (x1 : Ar))), (57, (Enc.cells (x2 : Ar))), (57, (Enc.cells (j1 : Ar))), (49, (Enc.cells (x43 : Sp)))], [], [], 0, false⟩) rfl rfl rfl (op_storeW (n := 2) rfl rfl rfl rfl rfl rfl rfl rfl (by decide)) (by dsimp only [aput, List.set]) rfl ?_
                    refine w_seq ?_
                    refine w_draw (id := 23) 19 (by kernel_rfl) (by kernel_rfl) ?_
                    refine h_op (a := .ptr 5 0) rfl rfl rfl rfl (by dsimp only [aput, List.set]) ?_
                    refine h_op (a := .raw (.int .u8 (((x43.1).toNat : Nat) : Int))) rfl rfl rfl rfl (by dsimp only [aput, List.set]) ?_
                    obtain ⟨g22, h⟩ := chk_e h
                    refine h_op (a := .raw (.int .i64 (((x43.1).toNat : Nat) : Int))) rfl rfl rfl (q_conv64 g22 rfl rfl rfl) (by dsimp only [aput, List.set]) ?_
                    refine h_op (a := .list (List.length (x42 : List Int)) (Enc.cellsL (x42 : List Int)) .none) rfl rfl rfl rfl (by dsimp only [aput, List.set]) ?_
                    refine h_op (a := .raw (.int .i64 s2)) rfl rfl rfl rfl (by dsimp only [aput, List.set]) ?_
                    obtain ⟨g23, h⟩ := chk_e h
                    refine h_op (a := .raw (.int .i64 (2 * s2))) rfl rfl rfl (q_mul rfl rfl rfl rfl g23.1 g23.2) (by dsimp only [aput, List.set]) ?_
                    obtain ⟨g24, h⟩ := chk_e h
                    refine h_op (a := .iptr (Enc.cells (ix x42 (2 * s2)) ++ Enc.cellsL (List.drop (Int.toNat (2 * s2) + 1) x42))) rfl rfl rfl (q_idx (α := Int) (l := x42) g24 rfl rfl rfl rfl rfl) (by dsimp only [aput, List.set]) ?_
                    refine h_op (a := .raw (.int .i64 (ix x42 (2 * s2)))) rfl rfl rfl rfl (by dsimp only [aput, List.set]) ?_
                    refine h_op (a := .raw (.bool ((((x43.1).toNat : Nat) : Int) != (ix x42 (2 * s2))))) rfl rfl rfl rfl (by dsimp only [aput, List.set]) ?_
                    refine bif_e h (fun hc52 h => ?_) (fun hc52 h => ?_)
                    ·
                     refine h_op (a := .raw (.bool true)) rfl rfl rfl (q_bool rfl hc52) (by dsimp only [aput, List.set]) ?_
                     refine h_pass rfl rfl rfl (by decide) (by dsimp only [aput, List.set]) ?_
                     refine h_pass rfl rfl rfl (by decide) (by dsimp only [aput, List.set]) ?_
                     refine h_pass rfl rfl rfl (by decide) (by dsimp only [aput, List.set]) ?_
                     refine h_pass rfl rfl rfl (by decide) (by dsimp only [aput, List.set]) ?_
                     refine h_pass rfl rfl rfl (by decide) (by dsimp only [aput, List.set]) ?_
                     refine h_pass rfl rfl rfl (by decide) (by dsimp only [aput, List.set]) ?_
                     refine h_pass rfl rfl rfl (by decide) (by dsimp only [aput, List.set]) ?_
                     refine h_pass rfl rfl rfl (by decide) (by dsimp only [aput, List.set]) ?_
                     refine h_pass rfl rfl rfl (by decide) (by dsimp only [aput, List.set]) ?_
                     refine h_end ?_
                     refine w_pass rfl rfl (by decide) (by dsimp only [aput, List.set]) ?_
                     refine w_op (a := .raw (.bool true)) rfl rfl rfl rfl (by dsimp only [aput, List.set]) ?_
                     refine w_true rfl ?_
                     refine w_seq (w_region ?_)
                     refine w_op (a := .raw (.bool false)) rfl rfl rfl rfl (by dsimp only [aput, List.set]) ?_
                     refine loop_exit h (fun h => ?_)
                     replace h := cut_inr h hr3
                     exact end_pureF (fun (r : Bool) => (.raw (.bool r) : AV)) h (a := .raw (.bool false)) rfl rfl rfl
                    ·
                     refine h_op (a := .raw (.bool false)) rfl rfl rfl (q_bool rfl hc52) (by dsimp only [aput, List.set]) ?_
                     refine h_met rfl rfl ?_
                     refine h_op (a := .ptr 5 1) rfl rfl rfl rfl (by dsimp only [aput, List.set]) ?_
                     refine h_met rfl rfl ?_
                     refine h_op (a := .raw (.int .u8 (((x43.2).toNat : Nat) : Int))) rfl rfl rfl rfl (by dsimp only [aput, List.set]) ?_
                     refine h_met rfl rfl ?_
                     obtain ⟨g25, h⟩ := chk_e h
                     refine h_op (a := .raw (.int .i64 (((x43.2).toNat : Nat) : Int))) rfl rfl rfl (q_conv64 g25 rfl rfl rfl) (by dsimp only [aput, List.set]) ?_
                     refine h_met rfl rfl ?_
                     refine h_op (a := .list (List.length (x42 : List Int)) (Enc.cellsL (x42 : List Int)) .none) rfl rfl rfl rfl (by dsimp only [aput, List.set]) ?_
                     refine h_met rfl rfl ?_
                     refine h_op (a := .raw (.int .i64 s2)) rfl rfl rfl rfl (by dsimp only [aput, List.set]) ?_
                     refine h_met rfl rfl ?_
                     obtain ⟨g26, h⟩ := chk_e h
                     refine h_op (a := .raw (.int .i64 (2 * s2))) rfl rfl rfl (q_mul rfl rfl rfl rfl g26.1 g26.2) (by dsimp only [aput, List.set]) ?_
                     refine h_met rfl rfl ?_
                     obtain ⟨g27, h⟩ := chk_e h
                     refine h_op (a := .raw (.int .i64 ((2 * s2) + 1))) rfl rfl rfl (q_add rfl rfl rfl rfl g27.1 g27.2) (by dsimp only [aput, List.set]) ?_
                     refine h_met rfl rfl ?_
                     obtain ⟨g28, h⟩ := chk_e h
                     obtain ⟨x44, hx44, h⟩ := letE_e h
                     refine h_op (a := .iptr (Enc.cells x44 ++ Enc.cellsL (List.drop (Int.toNat ((2 * s2) + 1) + 1) x42))) rfl rfl rfl (by rw [← hx44]; exact (q_idx (α := Int) (l := x42) g28 rfl rfl rfl rfl rfl)) (by dsimp only [aput, List.set]) ?_
                     refine h_met rfl rfl ?_
                     refine h_op (a := .raw (.int .i64 x44)) rfl rfl rfl rfl (by dsimp only [aput, List.set]) ?_
                     refine h_end ?_
                     refine w_met rfl rfl ?_
                     refine w_op (a := .raw (.bool ((((x43.2).toNat : Nat) : Int) != x44))) rfl rfl rfl rfl (by dsimp only [aput, List.set]) ?_
                     refine w_op (a := .raw (.bool ((((x43.2).toNat : Nat) : Int) != x44))) rfl rfl rfl rfl (by dsimp only [aput, List.set]) ?_
                     refine bif_e h (fun hc53 h => ?_) (fun hc53 h => ?_)
                     ·
                      refine w_condT hc53 rfl ?_
                      refine w_seq (w_region ?_)
                      refine w_op (a := .raw (.bool false)) rfl rfl rfl rfl (by dsimp only [aput, List.set]) ?_
                      refine loop_exit h (fun h => ?_)
                      replace h := cut_inr h hr3
                      exact end_pureF (fun (r : Bool) => (.raw (.bool r) : AV)) h (a := .raw (.bool false)) rfl rfl rfl
                     ·
                      refine w_condF hc53 rfl ?_
                      refine w_region (id := 25) ?_
                      obtain ⟨g29, h⟩ := chk_e h
                      refine w_op (a := .raw (.int .i64 (s2 + 1))) rfl rfl rfl (op_q (q_add rfl rfl rfl rfl g29.1 g29.2)) (by dsimp only [aput, List.set]) ?_
                      refine w_op (a := .raw (.int .i64 (s2 + 1))) rfl rfl rfl rfl (by dsimp only [aput, List.set]) ?_
                      refine loop_next (p := p2) ((s2 + 1)) h ?_
                      exact wm_trim [true, true, true, true, false, true, true, true, false, false, true, true, true, true, true, true, true, true, true, false, true, false, false, true, true, true, true, true, true, true, true, true, true, true, true, true, true, true, true, true, true, true, true, true, true, true, true, true, true, true, true, true, true, true, true, true, true, true, true, true, true, true, true, true, true, true, true, true, true, true, true, true, true, true, true, true, true, true, true, true, true, true, true, true, true, true, true, true, true, true, true, true, true, true, true, true, true, true, true, true, true, true, true, true, true, true, true, true, true, true, true, true, true, true, true, true, true, true, true, true, true, true, true, true, true, true, true, true, true, true, true, true, true, true, true, true, true, true, true, true, true, true, true, true, true, true, true, true, true, true, true, true, true, true, true, true, true, true, true, true, true, true, true, true, true, true, true, true, true, true, true, true, true, true, true, true, true, true, true, true, true, true, true, true, true, true, true, true, true, true, true, true, true, true, true, true, true, true, true, true, true, true, true, true, true, true, true, true, true, true, true, true, true, true, true, false, false, false, false, false, false, false, false, false, false, true, true, true, false, false, false, false, false, false, false, false, false, false, false, false, false, false, false, false, false, false, false, false, false, false, false, false, false, false] 5 (by kernel_rfl) (Nat.le_of_ble_eq_true rfl) (okSt_of (okB_cons (okTrimL_clo _ _ (Enc.clo _)) (okB_cons (okTrimL_clo _ _ (Enc.clo _)) (okB_cons (okTrimL_clo _ _ (Enc.clo _)) (okB_cons (okTrimL_clo _ _ (Enc.clo _)) (okB_cons (okTrimL_clo _ _ (Enc.clo _)) rfl)))))) (by dsimp only [setAll, topAll, List.foldl, List.set]; exact (okTrimL_cons rfl (okTrimL_cons rfl (okTrimL_cons rfl (okTrimL_cons rfl (okTrimL_cons rfl (okTrimL_cons rfl (okTrimL_cons rfl (okTrimL_cons rfl (okTrimL_cons rfl (okTrimL_cons rfl (okTrimL_cons rfl (okTrimL_cons rfl (okTrimL_cons rfl (okTrimL_cons rfl (okTrimL_cons rfl (okTrimL_cons rfl (okTrimL_cons rfl (okTrimL_cons rfl (okTrimL_cons rfl (okTrimL_cons rfl (okTrimL_cons (okTrim_l (Enc.cloL _)) (okTrimL_cons rfl (okTrimL_cons rfl (okTrimL_cons rfl (okTrimL_cons rfl (okTrimL_cons rfl (okTrimL_cons rfl (okTrimL_cons rfl (okTrimL_cons rfl (okTrimL_cons rfl (okTrimL_cons rfl (okTrimL_cons rfl (okTrimL_cons rfl (okTrimL_cons rfl (okTrimL_cons rfl (okTrimL_cons rfl (okTrimL_cons rfl (okTrimL_cons rfl (okTrimL_cons rfl (okTrimL_cons rfl (okTrimL_cons rfl (okTrimL_cons rfl (okTrimL_cons rfl (okTrimL_cons rfl (okTrimL_cons rfl (okTrimL_cons rfl (okTrimL_cons rfl (okTrimL_cons rfl (okTrimL_cons rfl (okTrimL_cons rfl (okTrimL_cons rfl (okTrimL_cons rfl (okTrimL_cons rfl (okTrimL_cons rfl (okTrimL_cons rfl (okTrimL_cons rfl (okTrimL_cons rfl (okTrimL_cons rfl (okTrimL_cons rfl (okTrimL_cons rfl (okTrimL_cons rfl (okTrimL_cons rfl (okTrimL_cons rfl (okTrimL_cons rfl (okTrimL_cons rfl (okTrimL_cons rfl (okTrimL_cons rfl (okTrimL_cons rfl (okTrimL_cons rfl (okTrimL_cons rfl (okTrimL_cons rfl (okTrimL_cons rfl (okTrimL_cons rfl (okTrimL_cons rfl (okTrimL_cons rfl (okTrimL_cons rfl (okTrimL_cons rfl (okTrimL_cons rfl (okTrimL_cons rfl (okTrimL_cons rfl (okTrimL_cons rfl (okTrimL_cons rfl (okTrimL_cons rfl (okTrimL_cons rfl (okTrimL_cons rfl (okTrimL_cons rfl (okTrimL_cons rfl (okTrimL_cons rfl (okTrimL_cons rfl (okTrimL_cons rfl (okTrimL_cons rfl (okTrimL_cons rfl (okTrimL_cons rfl (okTrimL_cons rfl (okTrimL_cons rfl (okTrimL_cons rfl (okTrimL_cons rfl (okTrimL_cons rfl (okTrimL_cons rfl (okTrimL_cons rfl (okTrimL_cons rfl (okTrimL_cons rfl (okTrimL_cons rfl (okTrimL_cons rfl (okTrimL_cons rfl (okTrimL_cons rfl (okTrimL_cons rfl (okTrimL_cons rfl (okTrimL_cons rfl (okTrimL_cons rfl (okTrimL_cons rfl (okTrimL_cons rfl (okTrimL_cons rfl (okTrimL_cons rfl (okTrimL_cons rfl (okTrimL_cons rfl (okTrimL_cons rfl (okTrimL_cons rfl (okTrimL_cons rfl (okTrimL_cons rfl (okTrimL_cons rfl (okTrimL_cons rfl (okTrimL_cons rfl (okTrimL_cons rfl (okTrimL_cons rfl (okTrimL_cons rfl (okTrimL_cons rfl (okTrimL_cons rfl (okTrimL_cons rfl (okTrimL_cons rfl (okTrimL_cons rfl (okTrimL_cons rfl (okTrimL_cons rfl (okTrimL_cons rfl (okTrimL_cons rfl (okTrimL_cons rfl (okTrimL_cons rfl (okTrimL_cons rfl (okTrimL_cons rfl (okTrimL_cons rfl (okTrimL_cons rfl (okTrimL_cons rfl (okTrimL_cons rfl (okTrimL_cons rfl (okTrimL_cons rfl (okTrimL_cons rfl (okTrimL_cons rfl (okTrimL_cons rfl (okTrimL_cons rfl (okTrimL_cons rfl (okTrimL_cons rfl (okTrimL_cons rfl (okTrimL_cons rfl (okTrimL_cons rfl (okTrimL_cons rfl (okTrimL_cons rfl (okTrimL_cons rfl (okTrimL_cons rfl (okTrimL_cons rfl (okTrimL_cons rfl (okTrimL_cons rfl (okTrimL_cons rfl (okTrimL_cons rfl (okTrimL_cons rfl (okTrimL_cons rfl (okTrimL_cons rfl (okTrimL_cons rfl (okTrimL_cons rfl (okTrimL_cons rfl (okTrimL_cons rfl (okTrimL_cons rfl (okTrimL_cons rfl (okTrimL_cons rfl (okTrimL_cons rfl (okTrimL_cons rfl (okTrimL_cons rfl (okTrimL_cons rfl (okTrimL_cons rfl (okTrimL_cons rfl (okTrimL_cons rfl (okTrimL_cons rfl (okTrimL_cons rfl (okTrimL_cons rfl (okTrimL_cons rfl (okTrimL_cons rfl (okTrimL_cons rfl (okTrimL_cons rfl (okTrimL_cons rfl (okTrimL_cons rfl (okTrimL_cons rfl (okTrimL_cons rfl (okTrimL_cons rfl (okTrimL_cons rfl (okTrimL_cons rfl (okTrimL_cons rfl (okTrimL_cons rfl (okTrimL_cons rfl (okTrimL_cons rfl (okTrimL_cons rfl (okTrimL_cons rfl (okTrimL_cons rfl (okTrimL_cons rfl (okTrimL_cons rfl (okTrimL_cons rfl (okTrimL_cons rfl (okTrimL_cons rfl (okTrimL_cons rfl (okTrimL_cons rfl (okTrimL_cons rfl (okTrimL_cons rfl (okTrimL_cons rfl (okTrimL_cons rfl (okTrimL_cons rfl (okTrimL_cons rfl (okTrimL_cons rfl (okTrimL_cons rfl (okTrimL_cons rfl (okTrimL_cons rfl (okTrimL_cons rfl (okTrimL_cons rfl (okTrimL_cons rfl (okTrimL_cons rfl (okTrimL_cons rfl (okTrimL_cons rfl (okTrimL_cons rfl (okTrimL_cons (okTrim_l (Enc.cloL _)) (okTrimL_cons rfl (okTrimL_cons rfl (okTrimL_cons rfl (okTrimL_cons rfl (okTrimL_cons rfl (okTrimL_cons rfl (okTrimL_cons rfl (okTrimL_cons rfl (okTrimL_cons rfl (okTrimL_cons rfl (okTrimL_cons rfl (okTrimL_cons rfl (okTrimL_cons rfl (okTrimL_cons rfl (okTrimL_cons rfl (okTrimL_cons rfl (okTrimL_cons rfl (okTrimL_cons rfl (okTrimL_cons rfl (okTrimL_cons rfl (okTrimL_cons rfl (okTrimL_cons rfl (okTrimL_cons rfl (okTrimL_cons rfl (okTrimL_cons rfl (okTrimL_cons rfl (okTrimL_cons rfl (okTrimL_cons rfl rfl))))))))))))))))))))))))))))))))))))))))))))))))))))))))))))))))))))))))))))))))))))))))))))))))))))))))))))))))))))))))))))))))))))))))))))))))))))))))))))))))))))))))))))))))))))))))))))))))))))))))))))))))))))))))))))))))))))))))))))))))))))))))))))))) (by kernel_rfl)
                   ·
                    refine w_condF hc51 rfl ?_
                    refine loop_exit h (fun h => ?_)
                    refine cut_done (o := or3) () h ?_
                    exact wm_of [true, true, true, true, false, true, true, true, false, false, true, true, true, true, true, true, true, true, true, false, false, false, false, true, true, true, true, true, true, true, true, true, true, true, true, true, true, true, true, true, true, true, true, true, true, true, true, true, true, true, true, true, true, true, true, true, true, true, true, true, true, true, true, true, true, true, true, true, true, true, true, true, true, true, true, true, true, true, true, true, true, true, true, true, true, true, true, true, true, true, true, true, true, true, true, true, true, true, true, true, true, true, true, true, true, true, true, true, true, true, true, true, true, true, true, true, true, true, true, true, true, true, true, true, true, true, true, true, true, true, true, true, true, true, true, true, true, true, true, true, true, true, true, true, true, true, true, true, true, true, true, true, true, true, true, true, true, true, true, true, true, true, true, true, true, true, true, true, true, true, true, true, true, true, true, true, true, true, true, true, true, true, true, true, true, true, true, true, true, true, true, true, true, true, true, true, true, true, true, true, true, true, true, true, true, true, true, true, true, true, true, true, true, true, true, false, false, false, false, false, false, false, false, false, false, false, false, false, false, false, false, false, false, false, false, false, false, false, false, false, false, false, false, false, false, false, false, false, false, false, false, false, false, false] (by kernel_rfl) (by kernel_rfl)
                 ·
                  intro j3 h
                  refine w_start (by dsimp only [setAll, topAll, List.foldl, List.set]) rfl ?_
                  refine w_seq (w_region ?_)
                  refine w_op (a := .raw (.bool true)) rfl rfl rfl rfl (by dsimp only [aput, List.set]) ?_
                  exact end_pureF (fun (r : Bool) => (.raw (.bool r) : AV)) h (a := .raw (.bool true)) rfl rfl rfl
end Go.Ab
