/-
  rxnorm: alt.
-/
import Derived.Test.YtmoncghgagmilaaZnSo
import Derived.Test.YtmoncghgagmilaaZnCo
import Derived.Test.YtmoncghgagmilaaZdQr
import Derived.Test.YtmoncghgagmilaaZnV3
import Derived.Test.YtmoncghgagmilaaZdCq
set_option linter.unusedSimpArgs false
set_option linter.unusedVariables false
namespace Go.Ab
open Go Go.RowKit Go.Fwd Go.Proofs
def zx7 (fuel : Nat) (l : (List Tr)) : Option Tr :=
 (chk ((zai l).length ≤ 2 ^ 40) (zan (orT l) (fun x1 => (bif (((x1.k : Nat) : Int) != 4) then (some x1) else (chk ((pre x1).length < 2 ^ 60) (zan (plainT x1) (fun x2 => (bif (!x2) then (za3 (zhn fuel x1.l) (fun x3 => (some x3))) else (zdo (τ := Bool × BS × (List Tr)) (zch (β := Bool × Int × BS × (List Tr)) (fun s1 => (bif (decide (s1.2.1 < (List.length x1.l : Int))) then (zdo (τ := Bool × BS × (List Tr)) (chk (0 ≤ s1.2.1 ∧ s1.2.1 < (List.length x1.l : Int)) (zan (ix x1.l s1.2.1) (fun x4 => (bif (((x4.k : Nat) : Int) == 2) then (zan (s1.2.2.1 ||| x4.s) (fun x5 => (some (Sum.inl (s1.1, x5, s1.2.2.2))))) else (bif (((x4.k : Nat) : Int) == 1) then (some (Sum.inl (true, s1.2.2.1, s1.2.2.2))) else (bif (List.isEmpty s1.2.2.2) then (chk (0 < (List.length [x4]) ∧ (List.length [x4]) * 80 ≤ 140737488355328) (some (Sum.inl (s1.1, s1.2.2.1, [x4])))) else (chk (List.length s1.2.2.2 = (List.length s1.2.2.2) ∧ 0 < (List.length s1.2.2.2) ∧ 0 < List.length [x4] ∧ ((List.length s1.2.2.2) + List.length [x4]) * 80 ≤ 140737488355328) (some (Sum.inl (s1.1, s1.2.2.1, (s1.2.2.2 ++ [x4]))))))))))) (fun j2 => (chk (-9223372036854775808 ≤ (s1.2.1 + 1) ∧ (s1.2.1 + 1) < 9223372036854775808) (some (Sum.inl (j2.1, (s1.2.1 + 1), j2.2.1, j2.2.2)))))) else (some (Sum.inr (Sum.inl (s1.1, s1.2.2.1, s1.2.2.2)))))) fuel (false, 0, 0#256, ([] : List Tr))) (fun j1 => (zdo (τ := (List Tr)) (zan (ofT j1.2.1) (fun x6 => (bif (((x6.k : Nat) : Int) == 2) then (bif (List.isEmpty j1.2.2) then (chk (0 < (List.length [x6]) ∧ (List.length [x6]) * 80 ≤ 140737488355328) (some (Sum.inl ([x6])))) else (chk (List.length j1.2.2 = (List.length j1.2.2) ∧ 0 < (List.length j1.2.2) ∧ 0 < List.length [x6] ∧ ((List.length j1.2.2) + List.length [x6]) * 80 ≤ 140737488355328) (some (Sum.inl ((j1.2.2 ++ [x6])))))) else (some (Sum.inl (j1.2.2)))))) (fun j3 => (bif (List.isEmpty j3) then (chk ((zai ([] : List Tr)).length ≤ 2 ^ 40) (zan (orT ([] : List Tr)) (fun x7 => (bif j1.1 then (bif (((x7.k : Nat) : Int) == 0) then (some (Tr.mk 1 (0#256) 0 0 [])) else (za3 (zf2 x7 (Bd.mk 0 1)) (fun x8 => (some x8)))) else (some x7))))) else (chk ((0 < List.length j3 ∧ List.length j3 < 4611686018427387904) ∧ ∀ y ∈ j3, zbj y = true) (zan (zfu j3) (fun x9 => (chk (List.length x9 = (List.length j3)) (chk ((0 < List.length x9 ∧ List.length x9 < 2 ^ 60) ∧ ∀ y ∈ x9, (pre y).length < 2 ^ 61) (zan (ze0 x9) (fun x10 => (chk ((zai x10).length ≤ 2 ^ 40) (zan (orT x10) (fun x11 => (bif j1.1 then (bif (((x11.k : Nat) : Int) == 0) then (some (Tr.mk 1 (0#256) 0 0 [])) else (za3 (zf2 x11 (Bd.mk 0 1)) (fun x12 => (some x12)))) else (some x11)))))))))))))))))))))))))
theorem ent45 : Ent Try.prog 45 := enters_of Try.func45 (by kernel_rfl) rfl
set_option maxRecDepth 100000 in
set_option maxHeartbeats 4000000 in
theorem nalt_sh (fuel : Nat) (l : (List Tr)) (r : Tr) (h : zx7 fuel l = some r) : Pure (ITP Try.prog) Try.prog 45 [.list (List.length (l : List Tr)) (Enc.cellsL (l : List Tr)) .none] (.agg (Enc.cells (r : Tr))) := by
 obtain ⟨d, hd⟩ : ∃ d, Try.f45.body = some d := ⟨_, rfl⟩
 refine zh5 mix Try.func45 hd ent45 ?_
 cases hd
 unfold zx7 at h
 refine zam (by dsimp only [zbq, Try.f45, List.length_cons, List.length_nil, Nat.zero_add, Nat.reduceAdd, Nat.reduceSub, List.replicate, List.cons_append, List.nil_append]) (by dsimp only [St.empty]) ?_
 refine ze (zc ?_)
 refine zbc (a := .ptr 0 0) (σ'' := ⟨[(30, [.u 0, .raw (.int .u64 0), .raw (.int .u64 0), .raw (.int .u64 0), .raw (.int .u64 0), .i 0, .i 0, .list 0 [] .full])], [], [], 0, false⟩) ?_
 refine ze (zc ?_)
 refine zab ?_
 obtain ⟨g1, h⟩ := zh h
 obtain ⟨x1, hx1, h⟩ := zj h
 refine za1 (args' := [.list (List.length (l : List Tr)) (Enc.cellsL (l : List Tr)) .none]) (r := .agg (Enc.cells (x1 : Tr))) (by rw [← hx1]; exact (k_or l g1)) rfl rfl (zf (zds (Enc.cloL _)) rfl) (zb (zah (Enc.cloL _)) rfl) (by dsimp only [zn, List.set]) ?_
 refine zbc (a := .ptr 1 0) (σ'' := ⟨[(30, [.u 0, .raw (.int .u64 0), .raw (.int .u64 0), .raw (.int .u64 0), .raw (.int .u64 0), .i 0, .i 0, .list 0 [] .full]), (30, [.u 0, .raw (.int .u64 0), .raw (.int .u64 0), .raw (.int .u64 0), .raw (.int .u64 0), .i 0, .i 0, .list 0 [] .full])], [], [], 0, false⟩) ?_
 refine zbc (σ'' := ⟨[(30, [.u 0, .raw (.int .u64 0), .raw (.int .u64 0), .raw (.int .u64 0), .raw (.int .u64 0), .i 0, .i 0, .list 0 [] .full]), (30, (Enc.cells (x1 : Tr)))], [], [], 0, false⟩) (h := zar (n := 8) rfl rfl rfl rfl rfl rfl rfl rfl (by decide)) ?_
 refine ze ?_
 refine ze (zc ?_)
 refine w_o (a := .ptr 1 0) ?_
 refine w_o (a := .u ((x1.k : Nat) : Int)) ?_
 refine w_o (a := .b (((x1.k : Nat) : Int) != 4)) ?_
 refine zu h (fun hc1 h => ?_) (fun hc1 h => ?_)
 refine zaq hc1 rfl ?_
 refine ze (zc ?_)
 refine w_o (a := .agg (Enc.cells (x1 : Tr))) ?_
 refine zbc (σ'' := ⟨[(30, (Enc.cells (x1 : Tr))), (30, (Enc.cells (x1 : Tr)))], [], [], 0, false⟩) (h := zar (n := 8) rfl rfl rfl rfl rfl rfl rfl rfl (by decide)) ?_
 exact zb5 (fun (r : Tr) => (.agg (Enc.cells (r : Tr)) : AV)) h (a := .agg (Enc.cells (x1 : Tr))) rfl (zm _ _ (zl (Enc.clo _))) (zaf (zl (Enc.clo _)))
 refine zat hc1 rfl ?_
 refine ze ?_
 refine ze (zc ?_)
 refine w_o (a := .agg (Enc.cells (x1 : Tr))) ?_
 obtain ⟨g2, h⟩ := zh h
 obtain ⟨x2, hx2, h⟩ := zj h
 refine za1 (args' := [.agg (Enc.cells (x1 : Tr))]) (r := .b x2) (by rw [← hx2]; exact (zlx x1 g2)) rfl rfl (zf (zaf (zl (Enc.clo _))) rfl) (zb (zm _ _ (zl (Enc.clo _))) rfl) (by dsimp only [zn, List.set]) ?_
 refine w_o (a := .b (!x2)) ?_
 refine zu h (fun hc2 h => ?_) (fun hc2 h => ?_)
 refine zaq hc2 rfl ?_
 refine ze (zc ?_)
 refine w_o (a := .ptr 1 7) ?_
 refine w_o (a := .list (List.length (x1.l : List Tr)) (Enc.cellsL (x1.l : List Tr)) .none) ?_
 obtain ⟨x3, hx3, h⟩ := zaa h
 refine za1 (args' := [.list (List.length (x1.l : List Tr)) (Enc.cellsL (x1.l : List Tr)) .none]) (r := .agg (Enc.cells (x3 : Tr))) (zxs fuel x1.l x3 hx3) rfl rfl (zf (zds (Enc.cloL _)) rfl) (zb (zah (Enc.cloL _)) rfl) (by dsimp only [zn, List.set]) ?_
 refine zbc (σ'' := ⟨[(30, (Enc.cells (x3 : Tr))), (30, (Enc.cells (x1 : Tr)))], [], [], 0, false⟩) (h := zar (n := 8) rfl rfl rfl rfl rfl rfl rfl rfl (by decide)) ?_
 exact zb5 (fun (r : Tr) => (.agg (Enc.cells (r : Tr)) : AV)) h (a := .agg (Enc.cells (x3 : Tr))) rfl (zm _ _ (zl (Enc.clo _))) (zaf (zl (Enc.clo _)))
 refine zat hc2 rfl ?_
 refine ze (zc ?_)
 refine zbc (a := .ptr 2 0) (σ'' := ⟨[(30, [.u 0, .raw (.int .u64 0), .raw (.int .u64 0), .raw (.int .u64 0), .raw (.int .u64 0), .i 0, .i 0, .list 0 [] .full]), (30, (Enc.cells (x1 : Tr))), (28, (Enc.cells (0#256 : BS)))], [], [], 0, false⟩) ?_
 refine zx2 (zc ?_)
 refine w_o (a := .list 0 [] .full) ?_
 refine z5p (S' := (.list (List.length (l : List Tr)) (Enc.cellsL (l : List Tr)) .none :: .raw undef :: .ptr 0 0 :: .ptr 1 0 :: .ptr 2 0 :: (zxn 3 (List.length ([] : List Tr)) 8) :: .raw undef :: .raw undef :: .raw undef :: .raw undef :: .list (List.length (l : List Tr)) (Enc.cellsL (l : List Tr)) .none :: .agg (Enc.cells (x1 : Tr)) :: .ptr 1 0 :: .u ((x1.k : Nat) : Int) :: .b (((x1.k : Nat) : Int) != 4) :: .raw undef :: .agg (Enc.cells (x1 : Tr)) :: .b x2 :: .b (!x2) :: .raw undef :: .raw undef :: .raw undef :: .raw undef :: .raw undef :: .raw undef :: .raw undef :: .raw undef :: .raw undef :: .raw undef :: .raw undef :: .raw undef :: .raw undef :: .raw undef :: .raw undef :: .raw undef :: .raw undef :: .raw undef :: .raw undef :: .raw undef :: .raw undef :: .raw undef :: .raw undef :: .raw undef :: .raw undef :: .raw undef :: .raw undef :: .raw undef :: .raw undef :: .raw undef :: .raw undef :: .raw undef :: .raw undef :: .raw undef :: .raw undef :: .raw undef :: .raw undef :: .raw undef :: .raw undef :: .raw undef :: .raw undef :: .raw undef :: .raw undef :: .raw undef :: .raw undef :: .raw undef :: .raw undef :: .raw undef :: .raw undef :: .raw undef :: .raw undef :: .raw undef :: .raw undef :: [])) (σ' := ⟨[(30, [.u 0, .raw (.int .u64 0), .raw (.int .u64 0), .raw (.int .u64 0), .raw (.int .u64 0), .i 0, .i 0, .list 0 [] .full]), (30, (Enc.cells (x1 : Tr))), (28, (Enc.cells (0#256 : BS))), (30, (Enc.cellsL (([] : List Tr) : List Tr)))], [], [], 0, false⟩) (zzf (true :: true :: true :: true :: true :: true :: true :: true :: true :: true :: true :: true :: true :: true :: true :: true :: true :: true :: true :: true :: true :: true :: true :: true :: true :: true :: true :: true :: true :: true :: true :: true :: true :: true :: true :: true :: true :: true :: true :: true :: true :: true :: true :: true :: true :: true :: true :: true :: true :: true :: true :: true :: true :: true :: true :: true :: true :: true :: true :: true :: true :: true :: true :: true :: true :: true :: true :: true :: true :: true :: true :: true :: []) 0 rfl rfl rfl) ?_
 refine ze (zc ?_)
 refine w_o (a := .b false) ?_
 refine za0 h [0, 1, 5, 6, 7, 8, 9, 10, 11, 12, 13, 14, 15, 16, 17, 18, 19, 20, 21, 22, 23, 24, 25, 26, 27, 28, 29, 30, 31, 32, 33, 34, 35, 36, 37, 38, 39, 40, 41, 42, 43, 44, 45, 46, 47, 48, 49, 50, 51, 52, 53, 54, 55, 56, 57, 58, 59, 60, 61, 62, 63, 64, 65, 66, 67, 68, 69, 70, 71] (fun j1 => [(6, .b j1.1), (5, (zxn 3 (List.length j1.2.2) 8))]) (fun j1 => ⟨[(30, [.u 0, .raw (.int .u64 0), .raw (.int .u64 0), .raw (.int .u64 0), .raw (.int .u64 0), .i 0, .i 0, .list 0 [] .full]), (30, (Enc.cells (x1 : Tr))), (28, (Enc.cells (j1.2.1 : BS))), (30, (Enc.cellsL (j1.2.2 : List Tr)))], [], [], 0, false⟩) ?_ ?_
 intro or1 h hr1
 refine ze (zc ?_)
 refine w_o (a := .ptr 1 7) ?_
 refine w_o (a := .list (List.length (x1.l : List Tr)) (Enc.cellsL (x1.l : List Tr)) .none) ?_
 refine w_o (a := .i (List.length x1.l : Int)) ?_
 refine w_o (a := .i 0) ?_
 refine zr ?_
 refine zcf h [0, 1, 5, 6, 7, 8, 9, 10, 11, 12, 13, 14, 15, 16, 17, 18, 19, 20, 21, 22, 25, 26, 27, 28, 29, 30, 31, 32, 33, 34, 35, 36, 37, 38, 39, 40, 41, 42, 43, 44, 45, 46, 47, 48, 49, 50, 51, 52, 53, 54, 55, 56, 57, 58, 59, 60, 61, 62, 63, 64, 65, 66, 67, 68, 69, 70, 71] (fun s1 => [(6, .b s1.1), (25, .i s1.2.1), (5, (zxn 3 (List.length s1.2.2.2) 8))]) (fun s1 => ⟨[(30, [.u 0, .raw (.int .u64 0), .raw (.int .u64 0), .raw (.int .u64 0), .raw (.int .u64 0), .i 0, .i 0, .list 0 [] .full]), (30, (Enc.cells (x1 : Tr))), (28, (Enc.cells (s1.2.2.1 : BS))), (30, (Enc.cellsL (s1.2.2.2 : List Tr)))], [], [], 0, false⟩) ?_ ?_
 exact zco (bl 72 58720380) (by kernel_rfl) (by kernel_rfl)
 intro s1 p1 h
 refine zam (by dsimp only [zz, zad, List.foldl, List.set]) rfl ?_
 refine ze (zc ?_)
 refine w_o (a := .b (decide (s1.2.1 < (List.length x1.l : Int)))) ?_
 refine ze ?_
 refine zu h (fun hc3 h => ?_) (fun hc3 h => ?_)
 refine zaq hc3 rfl ?_
 refine za0 h [5, 6, 8, 26, 27, 28, 29, 30, 31, 32, 33, 34, 35, 36, 37, 38, 39, 40, 41, 42] (fun j2 => [(6, .b j2.1), (5, (zxn 3 (List.length j2.2.2) 8))]) (fun j2 => ⟨[(30, [.u 0, .raw (.int .u64 0), .raw (.int .u64 0), .raw (.int .u64 0), .raw (.int .u64 0), .i 0, .i 0, .list 0 [] .full]), (30, (Enc.cells (x1 : Tr))), (28, (Enc.cells (j2.2.1 : BS))), (30, (Enc.cellsL (j2.2.2 : List Tr)))], [], [], 0, false⟩) ?_ ?_
 intro or2 h hr2
 refine zr ?_
 refine ze (zc ?_)
 obtain ⟨g3, h⟩ := zh h
 obtain ⟨x4, hx4, h⟩ := zj h
 refine w_o (a := .iptr (Enc.cells x4 ++ Enc.cellsL (List.drop (Int.toNat s1.2.1 + 1) x1.l))) (h := za2 (by rw [← hx4]; exact (zf7 (α := Tr) (l := x1.l) g3 rfl rfl rfl rfl rfl))) ?_
 refine w_o (a := .agg (Enc.cells (x4 : Tr))) ?_
 refine zbc (a := .ptr 4 0) (σ'' := ⟨[(30, [.u 0, .raw (.int .u64 0), .raw (.int .u64 0), .raw (.int .u64 0), .raw (.int .u64 0), .i 0, .i 0, .list 0 [] .full]), (30, (Enc.cells (x1 : Tr))), (28, (Enc.cells (s1.2.2.1 : BS))), (30, (Enc.cellsL (s1.2.2.2 : List Tr))), (30, [.u 0, .raw (.int .u64 0), .raw (.int .u64 0), .raw (.int .u64 0), .raw (.int .u64 0), .i 0, .i 0, .list 0 [] .full])], [], [], 0, false⟩) ?_
 refine zbc (σ'' := ⟨[(30, [.u 0, .raw (.int .u64 0), .raw (.int .u64 0), .raw (.int .u64 0), .raw (.int .u64 0), .i 0, .i 0, .list 0 [] .full]), (30, (Enc.cells (x1 : Tr))), (28, (Enc.cells (s1.2.2.1 : BS))), (30, (Enc.cellsL (s1.2.2.2 : List Tr))), (30, (Enc.cells (x4 : Tr)))], [], [], 0, false⟩) (h := zar (n := 8) rfl rfl rfl rfl rfl rfl rfl rfl (by decide)) ?_
 refine ze (zc ?_)
 refine w_o (a := .ptr 4 0) ?_
 refine w_o (a := .u ((x4.k : Nat) : Int)) ?_
 refine zr ?_
 refine ze (zc ?_)
 refine w_o (a := .b (((x4.k : Nat) : Int) == 2)) ?_
 refine zab ?_
 refine zu h (fun hc4 h => ?_) (fun hc4 h => ?_)
 refine zaq hc4 rfl ?_
 refine zc (k0 := 0) (id := 15) ?_
 refine w_o (a := .agg (Enc.cells (s1.2.2.1 : BS))) ?_
 refine w_o (a := .ptr 4 1) ?_
 refine w_o (a := .agg (Enc.cells (x4.s : BS))) ?_
 obtain ⟨x5, hx5, h⟩ := zj h
 refine za1 (args' := [.agg (Enc.cells (s1.2.2.1 : BS)), .agg (Enc.cells (x4.s : BS))]) (r := .agg (Enc.cells (x5 : BS))) (by rw [← hx5]; exact (k_or2 s1.2.2.1 x4.s)) rfl rfl (zf (zaf (zl (Enc.clo _))) (zf (zaf (zl (Enc.clo _))) rfl)) (zb (zm _ _ (zl (Enc.clo _))) (zb (zm _ _ (zl (Enc.clo _))) rfl)) (by dsimp only [zn, List.set]) ?_
 refine zbc (σ'' := ⟨[(30, [.u 0, .raw (.int .u64 0), .raw (.int .u64 0), .raw (.int .u64 0), .raw (.int .u64 0), .i 0, .i 0, .list 0 [] .full]), (30, (Enc.cells (x1 : Tr))), (28, (Enc.cells (x5 : BS))), (30, (Enc.cellsL (s1.2.2.2 : List Tr))), (30, (Enc.cells (x4 : Tr)))], [], [], 0, false⟩) (h := zar (n := 4) rfl rfl rfl rfl rfl rfl rfl rfl (by decide)) ?_
 refine zg (o := or2) (s1.1, x5, s1.2.2.2) h ?_
 exact zb3 (bl 72 4722366474073619300095) 4 (by kernel_rfl) (Nat.le_of_ble_eq_true rfl) (zba (zv rfl (zv (zo _ _ (Enc.clo _)) (zv (zo _ _ (Enc.clo _)) (zv (zo _ _ (Enc.cloL _)) rfl))))) (by dsimp only [zz, zad, List.foldl, List.set]; exact (zb rfl (zb rfl (zb (by decide) (zb (by decide) (zb (by decide) (zb (zmf (by decide)) (zb rfl (zb rfl (zb rfl (zb rfl (zb rfl (zb rfl (zb rfl (zb rfl (zb rfl (zb rfl (zb rfl (zb rfl (zb rfl (zb rfl (zb rfl (zb rfl (zb rfl (zb (zah (Enc.cloL _)) (by kernel_rfl)))))))))))))))))))))))))) (by kernel_rfl)
 refine zat hc4 rfl ?_
 refine ze (zc ?_)
 refine w_o (a := .b (((x4.k : Nat) : Int) == 1)) ?_
 refine zab ?_
 refine zu h (fun hc5 h => ?_) (fun hc5 h => ?_)
 refine zaq hc5 rfl ?_
 refine zc (k0 := 0) (id := 17) ?_
 refine w_o (a := .b true) ?_
 refine zg (o := or2) (true, s1.2.2.1, s1.2.2.2) h ?_
 exact zb3 (bl 72 4722366474073619300095) 4 (by kernel_rfl) (Nat.le_of_ble_eq_true rfl) (zba (zv rfl (zv (zo _ _ (Enc.clo _)) (zv (zo _ _ (Enc.clo _)) (zv (zo _ _ (Enc.cloL _)) rfl))))) (by dsimp only [zz, zad, List.foldl, List.set]; exact (zb rfl (zb rfl (zb (by decide) (zb (by decide) (zb (by decide) (zb (zmf (by decide)) (zb rfl (zb rfl (zb rfl (zb rfl (zb rfl (zb rfl (zb rfl (zb rfl (zb rfl (zb rfl (zb rfl (zb rfl (zb rfl (zb rfl (zb rfl (zb rfl (zb rfl (zb (zah (Enc.cloL _)) (by kernel_rfl)))))))))))))))))))))))))) (by kernel_rfl)
 refine zat hc5 rfl ?_
 refine zc (k0 := 0) (id := 13) ?_
 refine zab ?_
 refine w_o (a := .agg (Enc.cells (x4 : Tr))) ?_
 refine w_o (a := .list (List.length ([x4] : List Tr)) (Enc.cellsL ([x4] : List Tr)) .full) (h := za2 (zcj (α := Tr) (l := [x4]) (cs := Enc.cells (x4 : Tr) ++ []) rfl (by rw [Enc.cons, Enc.nil]))) ?_
 refine zu h (fun hc6 h => ?_) (fun hc6 h => ?_)
 rw [zek (b := 3) hc6]
 obtain ⟨g4, h⟩ := zh h
 refine zj4 (a := .bsl 5 0 (List.length [x4]) 8 false) (σ'' := ⟨[(30, [.u 0, .raw (.int .u64 0), .raw (.int .u64 0), .raw (.int .u64 0), .raw (.int .u64 0), .i 0, .i 0, .list 0 [] .full]), (30, (Enc.cells (x1 : Tr))), (28, (Enc.cells (s1.2.2.1 : BS))), (30, (Enc.cellsL (s1.2.2.2 : List Tr))), (30, (Enc.cells (x4 : Tr))), (30, (Enc.cellsL ([x4] : List Tr)))], [], [], 0, false⟩) rfl rfl rfl (zjf (α := Tr) (r := [x4]) (by' := 80) g4 rfl rfl rfl rfl rfl rfl rfl rfl rfl rfl rfl ⟨rfl, by decide⟩) (by dsimp only [zn, List.set]) rfl ?_
 refine zab ?_
 refine zg (o := or2) (s1.1, s1.2.2.1, [x4]) h ?_
 exact zdm (bl 72 4722366474073619300095) 0 [] [0, 1, 2, 5] 1 (Nat.le_refl _) rfl (by dsimp only [zz, zad, List.foldl, List.set]; exact (zd rfl (zd rfl (zd rfl (zd rfl (zd rfl (zd (zed (by simp) (by simp) _ _) (zd (zk _ _ _ rfl) (zd rfl (za (zd rfl (zd rfl (zd rfl (zd rfl (zd rfl (zd rfl (zd rfl (zd rfl (zd rfl (zd rfl (zd rfl (zd rfl (zd rfl (zd rfl (zd (zk _ _ _ (zcu (Enc.cloL _))) (zd (zk _ _ _ rfl) (zd (zk _ _ _ rfl) (za (za (za (za (za (za (za (za (za (za (za (za (za (za (za (za (za (zd rfl (zd rfl (zd rfl (zd rfl (zd rfl (zd rfl (zd rfl (zd rfl (zd rfl (zd rfl (zd rfl (zd rfl (zd rfl (zd rfl (zd rfl (zd rfl (zd rfl (zd rfl (zd rfl (zd rfl (zd rfl (zd rfl (zd rfl (zd rfl (zd rfl (zd rfl (zd rfl (zd rfl (zd rfl zdk))))))))))))))))))))))))))))))))))))))))))))))))))))))))))))))))))))))))) (zdh (z8 rfl rfl (z8 rfl (zak _ _ _ (Enc.clo _)) (z8 rfl (zak _ _ _ (Enc.clo _)) (z8 rfl (zak _ _ _ (Enc.cloL _)) zca)))) rfl)
 rw [ze1 (b := 3) hc6]
 obtain ⟨g5, h⟩ := zh h
 refine zj4 (a := .bsl 5 0 ((List.length s1.2.2.2) + List.length [x4]) 8 false) (σ'' := ⟨[(30, [.u 0, .raw (.int .u64 0), .raw (.int .u64 0), .raw (.int .u64 0), .raw (.int .u64 0), .i 0, .i 0, .list 0 [] .full]), (30, (Enc.cells (x1 : Tr))), (28, (Enc.cells (s1.2.2.1 : BS))), (30, (Enc.cellsL (([] : List Tr) : List Tr))), (30, (Enc.cells (x4 : Tr))), (30, (Enc.cellsL ((s1.2.2.2 ++ [x4]) : List Tr)))], [], [], 0, false⟩) rfl rfl rfl (zoo (α := Tr) (l := s1.2.2.2) (r := [x4]) (by' := 80) g5 rfl rfl rfl rfl rfl rfl rfl rfl rfl rfl rfl rfl ⟨rfl, by decide⟩) (by dsimp only [zn, List.set]) rfl ?_
 refine zab ?_
 refine zg (o := or2) (s1.1, s1.2.2.1, (s1.2.2.2 ++ [x4])) h ?_
 exact zdm (bl 72 4722366474073619300095) 0 [] [0, 1, 2, 5] 1 (Nat.le_refl _) rfl (by dsimp only [zz, zad, List.foldl, List.set]; exact (zd rfl (zd rfl (zd rfl (zd rfl (zd rfl (zd (zed (by simp) (by simp) _ _) (zd (zk _ _ _ rfl) (zd rfl (za (zd rfl (zd rfl (zd rfl (zd rfl (zd rfl (zd rfl (zd rfl (zd rfl (zd rfl (zd rfl (zd rfl (zd rfl (zd rfl (zd rfl (zd (zk _ _ _ (zcu (Enc.cloL _))) (zd (zk _ _ _ rfl) (zd (zk _ _ _ rfl) (za (za (za (za (za (za (za (za (za (za (za (za (za (za (za (za (za (zd rfl (zd rfl (zd rfl (zd rfl (zd rfl (zd rfl (zd rfl (zd rfl (zd rfl (zd rfl (zd rfl (zd rfl (zd rfl (zd rfl (zd rfl (zd rfl (zd rfl (zd rfl (zd rfl (zd rfl (zd rfl (zd rfl (zd rfl (zd rfl (zd rfl (zd rfl (zd rfl (zd rfl (zd rfl zdk))))))))))))))))))))))))))))))))))))))))))))))))))))))))))))))))))))))))) (zdh (z8 rfl rfl (z8 rfl (zak _ _ _ (Enc.clo _)) (z8 rfl (zak _ _ _ (Enc.clo _)) (z8 rfl (zak _ _ _ (Enc.cloL _)) zca)))) rfl)
 intro j2 h
 refine zam (by dsimp only [zz, zad, List.foldl, List.set]) rfl ?_
 refine zc (k0 := 0) (id := 18) ?_
 obtain ⟨g6, h⟩ := zh h
 refine w_o (a := .i (s1.2.1 + 1)) (h := za2 (zgv rfl rfl rfl rfl g6.1 g6.2)) ?_
 refine zab ?_
 refine zbb (p := p1) (j2.1, (s1.2.1 + 1), j2.2.1, j2.2.2) h ?_
 exact zco (bl 72 58720380) (by kernel_rfl) (by kernel_rfl)
 refine zat hc3 rfl ?_
 refine zae h (fun h => ?_)
 refine zg (o := or1) (s1.1, s1.2.2.1, s1.2.2.2) h ?_
 exact zco (bl 72 124) (by kernel_rfl) (by kernel_rfl)
 intro j1 h
 refine zam (by dsimp only [zz, zad, List.foldl, List.set]) rfl ?_
 refine za0 h [4, 5, 9, 44, 45, 46, 47, 48, 49, 50, 51, 52] (fun j3 => [(5, (zxn 3 (List.length j3) 8))]) (fun j3 => ⟨[(30, [.u 0, .raw (.int .u64 0), .raw (.int .u64 0), .raw (.int .u64 0), .raw (.int .u64 0), .i 0, .i 0, .list 0 [] .full]), (30, (Enc.cells (x1 : Tr))), (28, (Enc.cells (j1.2.1 : BS))), (30, (Enc.cellsL (j3 : List Tr)))], [], [], 0, false⟩) ?_ ?_
 intro or3 h hr3
 refine ze (zc ?_)
 refine w_o (a := .agg (Enc.cells (j1.2.1 : BS))) ?_
 obtain ⟨x6, hx6, h⟩ := zj h
 refine za1 (args' := [.agg (Enc.cells (j1.2.1 : BS))]) (r := .agg (Enc.cells (x6 : Tr))) (by rw [← hx6]; exact (k_of j1.2.1)) rfl rfl (zf (zaf (zl (Enc.clo _))) rfl) (zb (zm _ _ (zl (Enc.clo _))) rfl) (by dsimp only [zn, List.set]) ?_
 refine zbc (a := .ptr 4 0) (σ'' := ⟨[(30, [.u 0, .raw (.int .u64 0), .raw (.int .u64 0), .raw (.int .u64 0), .raw (.int .u64 0), .i 0, .i 0, .list 0 [] .full]), (30, (Enc.cells (x1 : Tr))), (28, (Enc.cells (j1.2.1 : BS))), (30, (Enc.cellsL (j1.2.2 : List Tr))), (30, [.u 0, .raw (.int .u64 0), .raw (.int .u64 0), .raw (.int .u64 0), .raw (.int .u64 0), .i 0, .i 0, .list 0 [] .full])], [], [], 0, false⟩) ?_
 refine zbc (σ'' := ⟨[(30, [.u 0, .raw (.int .u64 0), .raw (.int .u64 0), .raw (.int .u64 0), .raw (.int .u64 0), .i 0, .i 0, .list 0 [] .full]), (30, (Enc.cells (x1 : Tr))), (28, (Enc.cells (j1.2.1 : BS))), (30, (Enc.cellsL (j1.2.2 : List Tr))), (30, (Enc.cells (x6 : Tr)))], [], [], 0, false⟩) (h := zar (n := 8) rfl rfl rfl rfl rfl rfl rfl rfl (by decide)) ?_
 refine ze (zc ?_)
 refine w_o (a := .ptr 4 0) ?_
 refine w_o (a := .u ((x6.k : Nat) : Int)) ?_
 refine w_o (a := .b (((x6.k : Nat) : Int) == 2)) ?_
 refine zu h (fun hc7 h => ?_) (fun hc7 h => ?_)
 refine zaq hc7 rfl ?_
 refine zc (k0 := 0) (id := 21) ?_
 refine zab ?_
 refine w_o (a := .agg (Enc.cells (x6 : Tr))) ?_
 refine w_o (a := .list (List.length ([x6] : List Tr)) (Enc.cellsL ([x6] : List Tr)) .full) (h := za2 (zcj (α := Tr) (l := [x6]) (cs := Enc.cells (x6 : Tr) ++ []) rfl (by rw [Enc.cons, Enc.nil]))) ?_
 refine zu h (fun hc8 h => ?_) (fun hc8 h => ?_)
 rw [zek (b := 3) hc8]
 obtain ⟨g7, h⟩ := zh h
 refine zj4 (a := .bsl 5 0 (List.length [x6]) 8 false) (σ'' := ⟨[(30, [.u 0, .raw (.int .u64 0), .raw (.int .u64 0), .raw (.int .u64 0), .raw (.int .u64 0), .i 0, .i 0, .list 0 [] .full]), (30, (Enc.cells (x1 : Tr))), (28, (Enc.cells (j1.2.1 : BS))), (30, (Enc.cellsL (j1.2.2 : List Tr))), (30, (Enc.cells (x6 : Tr))), (30, (Enc.cellsL ([x6] : List Tr)))], [], [], 0, false⟩) rfl rfl rfl (zjf (α := Tr) (r := [x6]) (by' := 80) g7 rfl rfl rfl rfl rfl rfl rfl rfl rfl rfl rfl ⟨rfl, by decide⟩) (by dsimp only [zn, List.set]) rfl ?_
 refine zab ?_
 refine zg (o := or3) ([x6]) h ?_
 exact zdm (bl 72 4722357493262576516591) 0 [] [0, 1, 2, 5] 1 (Nat.le_refl _) rfl (by dsimp only [zz, zad, List.foldl, List.set]; exact (zd rfl (zd rfl (zd rfl (zd rfl (za (zd (zed (by simp) (by simp) _ _) (zd (zk _ _ _ rfl) (zd rfl (zd rfl (za (zd rfl (zd rfl (zd rfl (zd rfl (zd rfl (zd rfl (zd rfl (zd rfl (zd rfl (zd rfl (zd rfl (zd rfl (zd rfl (zd rfl (zd rfl (zd rfl (zd rfl (zd rfl (zd rfl (zd rfl (zd rfl (zd rfl (zd rfl (zd rfl (zd rfl (zd rfl (zd rfl (zd rfl (zd rfl (zd rfl (zd rfl (zd rfl (zd rfl (zd rfl (za (za (za (za (za (za (za (za (za (zd rfl (zd rfl (zd rfl (zd rfl (zd rfl (zd rfl (zd rfl (zd rfl (zd rfl (zd rfl (zd rfl (zd rfl (zd rfl (zd rfl (zd rfl (zd rfl (zd rfl (zd rfl (zd rfl zdk))))))))))))))))))))))))))))))))))))))))))))))))))))))))))))))))))))))))) (zdh (z8 rfl rfl (z8 rfl (zak _ _ _ (Enc.clo _)) (z8 rfl (zak _ _ _ (Enc.clo _)) (z8 rfl (zak _ _ _ (Enc.cloL _)) zca)))) rfl)
 rw [ze1 (b := 3) hc8]
 obtain ⟨g8, h⟩ := zh h
 refine zj4 (a := .bsl 5 0 ((List.length j1.2.2) + List.length [x6]) 8 false) (σ'' := ⟨[(30, [.u 0, .raw (.int .u64 0), .raw (.int .u64 0), .raw (.int .u64 0), .raw (.int .u64 0), .i 0, .i 0, .list 0 [] .full]), (30, (Enc.cells (x1 : Tr))), (28, (Enc.cells (j1.2.1 : BS))), (30, (Enc.cellsL (([] : List Tr) : List Tr))), (30, (Enc.cells (x6 : Tr))), (30, (Enc.cellsL ((j1.2.2 ++ [x6]) : List Tr)))], [], [], 0, false⟩) rfl rfl rfl (zoo (α := Tr) (l := j1.2.2) (r := [x6]) (by' := 80) g8 rfl rfl rfl rfl rfl rfl rfl rfl rfl rfl rfl rfl ⟨rfl, by decide⟩) (by dsimp only [zn, List.set]) rfl ?_
 refine zab ?_
 refine zg (o := or3) ((j1.2.2 ++ [x6])) h ?_
 exact zdm (bl 72 4722357493262576516591) 0 [] [0, 1, 2, 5] 1 (Nat.le_refl _) rfl (by dsimp only [zz, zad, List.foldl, List.set]; exact (zd rfl (zd rfl (zd rfl (zd rfl (za (zd (zed (by simp) (by simp) _ _) (zd (zk _ _ _ rfl) (zd rfl (zd rfl (za (zd rfl (zd rfl (zd rfl (zd rfl (zd rfl (zd rfl (zd rfl (zd rfl (zd rfl (zd rfl (zd rfl (zd rfl (zd rfl (zd rfl (zd rfl (zd rfl (zd rfl (zd rfl (zd rfl (zd rfl (zd rfl (zd rfl (zd rfl (zd rfl (zd rfl (zd rfl (zd rfl (zd rfl (zd rfl (zd rfl (zd rfl (zd rfl (zd rfl (zd rfl (za (za (za (za (za (za (za (za (za (zd rfl (zd rfl (zd rfl (zd rfl (zd rfl (zd rfl (zd rfl (zd rfl (zd rfl (zd rfl (zd rfl (zd rfl (zd rfl (zd rfl (zd rfl (zd rfl (zd rfl (zd rfl (zd rfl zdk))))))))))))))))))))))))))))))))))))))))))))))))))))))))))))))))))))))))) (zdh (z8 rfl rfl (z8 rfl (zak _ _ _ (Enc.clo _)) (z8 rfl (zak _ _ _ (Enc.clo _)) (z8 rfl (zak _ _ _ (Enc.cloL _)) zca)))) rfl)
 refine zat hc7 rfl ?_
 refine zg (o := or3) (j1.2.2) h ?_
 exact zb3 (bl 72 4722357493262576516591) 4 (by kernel_rfl) (Nat.le_of_ble_eq_true rfl) (zba (zv rfl (zv (zo _ _ (Enc.clo _)) (zv (zo _ _ (Enc.clo _)) (zv (zo _ _ (Enc.cloL _)) rfl))))) (by dsimp only [zz, zad, List.foldl, List.set]; exact (zb rfl (zb rfl (zb (by decide) (zb (by decide) (zb rfl (zb (zmf (by decide)) (by kernel_rfl)))))))) (by kernel_rfl)
 intro j3 h
 refine zam (by dsimp only [zz, zad, List.foldl, List.set]) rfl ?_
 refine ze (zc ?_)
 refine zab ?_
 refine zu h (fun hc9 h => ?_) (fun hc9 h => ?_)
 rw [zek (b := 3) hc9]
 refine za1 (args' := [.list 0 [] .none, .clos 62 []]) (r := .tup []) z1b rfl rfl (zf rfl (zf rfl rfl)) rfl (by dsimp only [zn, List.set]) ?_
 refine ze (zc ?_)
 refine zab ?_
 refine za1 (args' := [.list 0 [] .none, .clos 11 []]) (r := .list 0 [] .none) z37 rfl rfl (zf rfl (zf rfl rfl)) rfl (by dsimp only [zn, List.set]) ?_
 obtain ⟨g9, h⟩ := zh h
 obtain ⟨x7, hx7, h⟩ := zj h
 refine za1 (args' := [.list 0 [] .none]) (r := .agg (Enc.cells (x7 : Tr))) (by rw [← hx7]; exact (k_or ([] : List Tr) g9)) rfl rfl (zf rfl rfl) (by kernel_rfl) (by dsimp only [zn, List.set]) ?_
 refine zbc (σ'' := ⟨[(30, [.u 0, .raw (.int .u64 0), .raw (.int .u64 0), .raw (.int .u64 0), .raw (.int .u64 0), .i 0, .i 0, .list 0 [] .full]), (30, (Enc.cells (x7 : Tr))), (28, (Enc.cells (j1.2.1 : BS))), (30, (Enc.cellsL (j3 : List Tr)))], [], [], 0, false⟩) (h := zar (n := 8) rfl rfl rfl rfl rfl rfl rfl rfl (by decide)) ?_
 refine ze ?_
 refine zr ?_
 refine ze (zc ?_)
 refine zab ?_
 refine zu h (fun hc10 h => ?_) (fun hc10 h => ?_)
 refine w_o (a := .b true) (h := za2 (zbg rfl hc10)) ?_
 refine zac rfl rfl ?_
 refine w_o (a := .ptr 1 0) ?_
 refine zac rfl rfl ?_
 refine w_o (a := .u ((x7.k : Nat) : Int)) ?_
 refine zac rfl rfl ?_
 refine w_o (a := .b (((x7.k : Nat) : Int) == 0)) ?_
 refine w_o (a := .b (((x7.k : Nat) : Int) == 0)) ?_
 refine zab ?_
 refine zu h (fun hc11 h => ?_) (fun hc11 h => ?_)
 refine zaq hc11 rfl ?_
 refine ze (zc ?_)
 refine zcd (.agg (Enc.cells ((Tr.mk 1 (0#256) 0 0 []) : Tr))) (a0 := (zbf (Tr.mk 1 (0#256) 0 0 []) .full)) rfl rfl rfl (by kernel_rfl) (zi _ _) (by dsimp only [zn, List.set]) ?_
 refine zbc (σ'' := ⟨[(30, (Enc.cells ((Tr.mk 1 (0#256) 0 0 []) : Tr))), (30, (Enc.cells (x7 : Tr))), (28, (Enc.cells (j1.2.1 : BS))), (30, (Enc.cellsL (j3 : List Tr)))], [], [], 0, false⟩) (h := zar (n := 8) rfl rfl rfl rfl rfl rfl rfl rfl (by decide)) ?_
 exact zb5 (fun (r : Tr) => (.agg (Enc.cells (r : Tr)) : AV)) h (a := .agg (Enc.cells ((Tr.mk 1 (0#256) 0 0 []) : Tr))) rfl (zm _ _ (zl (Enc.clo _))) (zaf (zl (Enc.clo _)))
 refine zat hc11 rfl ?_
 refine ze (zc ?_)
 refine zab ?_
 refine zab ?_
 refine zaq hc10 rfl ?_
 refine ze ?_
 refine zcw (k0 := 0) (id := 27) 2 (by kernel_rfl) (by kernel_rfl) ?_
 refine h_o (a := .agg (Enc.cells (x7 : Tr))) ?_
 refine zmz (args' := []) (r := .agg (Enc.cells ((Bd.mk 0 1) : Bd))) (zyi _ rfl) rfl rfl rfl rfl rfl (by dsimp only [zn, List.set]) ?_
 refine zdr ?_
 obtain ⟨x8, hx8, h⟩ := zaa h
 refine za1 (args' := [.agg (Enc.cells (x7 : Tr)), .agg (Enc.cells ((Bd.mk 0 1) : Bd))]) (r := .agg (Enc.cells (x8 : Tr))) (zil x7 (Bd.mk 0 1) x8 hx8) rfl rfl (zf (zaf (zl (Enc.clo _))) (zf (zaf (zl (Enc.clo _))) rfl)) (zb (zm _ _ (zl (Enc.clo _))) (zb (zm _ _ (zl (Enc.clo _))) rfl)) (by dsimp only [zn, List.set]) ?_
 refine zbc (σ'' := ⟨[(30, (Enc.cells (x8 : Tr))), (30, (Enc.cells (x7 : Tr))), (28, (Enc.cells (j1.2.1 : BS))), (30, (Enc.cellsL (j3 : List Tr)))], [], [], 0, false⟩) (h := zar (n := 8) rfl rfl rfl rfl rfl rfl rfl rfl (by decide)) ?_
 exact zb5 (fun (r : Tr) => (.agg (Enc.cells (r : Tr)) : AV)) h (a := .agg (Enc.cells (x8 : Tr))) rfl (zm _ _ (zl (Enc.clo _))) (zaf (zl (Enc.clo _)))
 refine w_o (a := .b false) (h := za2 (zbg rfl hc10)) ?_
 refine zdw ?_
 refine zdw ?_
 refine zdw ?_
 refine w_o (a := .b false) ?_
 refine zab ?_
 refine zav rfl ?_
 refine ze (zc ?_)
 refine zab ?_
 refine zab ?_
 refine zat hc10 rfl ?_
 refine ze (zc ?_)
 refine w_o (a := .agg (Enc.cells (x7 : Tr))) ?_
 refine zbc (σ'' := ⟨[(30, (Enc.cells (x7 : Tr))), (30, (Enc.cells (x7 : Tr))), (28, (Enc.cells (j1.2.1 : BS))), (30, (Enc.cellsL (j3 : List Tr)))], [], [], 0, false⟩) (h := zar (n := 8) rfl rfl rfl rfl rfl rfl rfl rfl (by decide)) ?_
 exact zb5 (fun (r : Tr) => (.agg (Enc.cells (r : Tr)) : AV)) h (a := .agg (Enc.cells (x7 : Tr))) rfl (zm _ _ (zl (Enc.clo _))) (zaf (zl (Enc.clo _)))
 rw [ze1 (b := 3) hc9]
 obtain ⟨g10, h⟩ := zh h
 obtain ⟨x9, hx9, h⟩ := zj h
 refine zvl (r := .tup []) (σ' := ⟨[(30, [.u 0, .raw (.int .u64 0), .raw (.int .u64 0), .raw (.int .u64 0), .raw (.int .u64 0), .i 0, .i 0, .list 0 [] .full]), (30, (Enc.cells (x1 : Tr))), (28, (Enc.cells (j1.2.1 : BS))), (30, (Enc.cellsL (x9 : List Tr)))], [], [], 0, false⟩) (z3g j3 g10 hx9 rfl rfl) rfl rfl ⟨rfl, rfl⟩ (by dsimp only [zn, List.set]) ?_
 refine ze (zc ?_)
 refine zab ?_
 obtain ⟨g11, h⟩ := zh h
 obtain ⟨g12, h⟩ := zh h
 obtain ⟨x10, hx10, h⟩ := zj h
 refine zvl (r := .bsl 3 0 (List.length x10) 8 false) (σ' := ⟨[(30, [.u 0, .raw (.int .u64 0), .raw (.int .u64 0), .raw (.int .u64 0), .raw (.int .u64 0), .i 0, .i 0, .list 0 [] .full]), (30, (Enc.cells (x1 : Tr))), (28, (Enc.cells (j1.2.1 : BS))), (30, (Enc.cellsL (x10 : List Tr)))], [], [], 0, false⟩) (z2g x9 g11 g12 hx10 rfl) rfl rfl ⟨rfl, rfl⟩ (by dsimp only [zn, List.set]) ?_
 obtain ⟨g13, h⟩ := zh h
 obtain ⟨x11, hx11, h⟩ := zj h
 refine zvl (r := .agg (Enc.cells (x11 : Tr))) (σ' := ⟨[(30, [.u 0, .raw (.int .u64 0), .raw (.int .u64 0), .raw (.int .u64 0), .raw (.int .u64 0), .i 0, .i 0, .list 0 [] .full]), (30, (Enc.cells (x1 : Tr))), (28, (Enc.cells (j1.2.1 : BS))), (30, (Enc.cellsL (([] : List Tr) : List Tr)))], [], [], 0, false⟩) (z3u (α := Tr) (t := 30) (l := x10) (zas _) (by rw [← hx11]; exact (k_or x10 g13)) rfl rfl rfl) rfl rfl ⟨rfl, rfl⟩ (by dsimp only [zn, List.set]) ?_
 refine zbc (σ'' := ⟨[(30, [.u 0, .raw (.int .u64 0), .raw (.int .u64 0), .raw (.int .u64 0), .raw (.int .u64 0), .i 0, .i 0, .list 0 [] .full]), (30, (Enc.cells (x11 : Tr))), (28, (Enc.cells (j1.2.1 : BS))), (30, (Enc.cellsL (([] : List Tr) : List Tr)))], [], [], 0, false⟩) (h := zar (n := 8) rfl rfl rfl rfl rfl rfl rfl rfl (by decide)) ?_
 refine ze ?_
 refine zr ?_
 refine ze (zc ?_)
 refine zab ?_
 refine zu h (fun hc12 h => ?_) (fun hc12 h => ?_)
 refine w_o (a := .b true) (h := za2 (zbg rfl hc12)) ?_
 refine zac rfl rfl ?_
 refine w_o (a := .ptr 1 0) ?_
 refine zac rfl rfl ?_
 refine w_o (a := .u ((x11.k : Nat) : Int)) ?_
 refine zac rfl rfl ?_
 refine w_o (a := .b (((x11.k : Nat) : Int) == 0)) ?_
 refine w_o (a := .b (((x11.k : Nat) : Int) == 0)) ?_
 refine zab ?_
 refine zu h (fun hc13 h => ?_) (fun hc13 h => ?_)
 refine zaq hc13 rfl ?_
 refine ze (zc ?_)
 refine zcd (.agg (Enc.cells ((Tr.mk 1 (0#256) 0 0 []) : Tr))) (a0 := (zbf (Tr.mk 1 (0#256) 0 0 []) .full)) rfl rfl rfl (by kernel_rfl) (zi _ _) (by dsimp only [zn, List.set]) ?_
 refine zbc (σ'' := ⟨[(30, (Enc.cells ((Tr.mk 1 (0#256) 0 0 []) : Tr))), (30, (Enc.cells (x11 : Tr))), (28, (Enc.cells (j1.2.1 : BS))), (30, (Enc.cellsL (([] : List Tr) : List Tr)))], [], [], 0, false⟩) (h := zar (n := 8) rfl rfl rfl rfl rfl rfl rfl rfl (by decide)) ?_
 exact zb5 (fun (r : Tr) => (.agg (Enc.cells (r : Tr)) : AV)) h (a := .agg (Enc.cells ((Tr.mk 1 (0#256) 0 0 []) : Tr))) rfl (zm _ _ (zl (Enc.clo _))) (zaf (zl (Enc.clo _)))
 refine zat hc13 rfl ?_
 refine ze (zc ?_)
 refine zab ?_
 refine zab ?_
 refine zaq hc12 rfl ?_
 refine ze ?_
 refine zcw (k0 := 0) (id := 27) 2 (by kernel_rfl) (by kernel_rfl) ?_
 refine h_o (a := .agg (Enc.cells (x11 : Tr))) ?_
 refine zmz (args' := []) (r := .agg (Enc.cells ((Bd.mk 0 1) : Bd))) (zyi _ rfl) rfl rfl rfl rfl rfl (by dsimp only [zn, List.set]) ?_
 refine zdr ?_
 obtain ⟨x12, hx12, h⟩ := zaa h
 refine za1 (args' := [.agg (Enc.cells (x11 : Tr)), .agg (Enc.cells ((Bd.mk 0 1) : Bd))]) (r := .agg (Enc.cells (x12 : Tr))) (zil x11 (Bd.mk 0 1) x12 hx12) rfl rfl (zf (zaf (zl (Enc.clo _))) (zf (zaf (zl (Enc.clo _))) rfl)) (zb (zm _ _ (zl (Enc.clo _))) (zb (zm _ _ (zl (Enc.clo _))) rfl)) (by dsimp only [zn, List.set]) ?_
 refine zbc (σ'' := ⟨[(30, (Enc.cells (x12 : Tr))), (30, (Enc.cells (x11 : Tr))), (28, (Enc.cells (j1.2.1 : BS))), (30, (Enc.cellsL (([] : List Tr) : List Tr)))], [], [], 0, false⟩) (h := zar (n := 8) rfl rfl rfl rfl rfl rfl rfl rfl (by decide)) ?_
 exact zb5 (fun (r : Tr) => (.agg (Enc.cells (r : Tr)) : AV)) h (a := .agg (Enc.cells (x12 : Tr))) rfl (zm _ _ (zl (Enc.clo _))) (zaf (zl (Enc.clo _)))
 refine w_o (a := .b false) (h := za2 (zbg rfl hc12)) ?_
 refine zdw ?_
 refine zdw ?_
 refine zdw ?_
 refine w_o (a := .b false) ?_
 refine zab ?_
 refine zav rfl ?_
 refine ze (zc ?_)
 refine zab ?_
 refine zab ?_
 refine zat hc12 rfl ?_
 refine ze (zc ?_)
 refine w_o (a := .agg (Enc.cells (x11 : Tr))) ?_
 refine zbc (σ'' := ⟨[(30, (Enc.cells (x11 : Tr))), (30, (Enc.cells (x11 : Tr))), (28, (Enc.cells (j1.2.1 : BS))), (30, (Enc.cellsL (([] : List Tr) : List Tr)))], [], [], 0, false⟩) (h := zar (n := 8) rfl rfl rfl rfl rfl rfl rfl rfl (by decide)) ?_
 exact zb5 (fun (r : Tr) => (.agg (Enc.cells (r : Tr)) : AV)) h (a := .agg (Enc.cells (x11 : Tr))) rfl (zm _ _ (zl (Enc.clo _))) (zaf (zl (Enc.clo _)))
end Go.Ab
