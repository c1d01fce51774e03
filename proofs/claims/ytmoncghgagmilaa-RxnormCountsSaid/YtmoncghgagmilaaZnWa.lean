/-
  rxnorm: alt.
-/
import Derived.Test.YtmoncghgagmilaaZnSo
import Derived.Test.YtmoncghgagmilaaZnCo
import Derived.Test.YtmoncghgagmilaaZdQq
import Derived.Test.YtmoncghgagmilaaZnV3
set_option linter.unusedSimpArgs false
set_option linter.unusedVariables false
namespace Go.Ab
open Go Go.RowKit Go.Fwd Go.Proofs
def zym (fuel : Nat) (l : (List Tr)) : Option Tr :=
 (chk ((zam l).length ≤ 2 ^ 40) (zal (orT l) (fun x1 => (bif (((x1.k : Nat) : Int) != 4) then (some x1) else (chk ((pre x1).length < 2 ^ 60) (zal (plainT x1) (fun x2 => (bif (!x2) then (zau (zhp fuel x1.l) (fun x3 => (some x3))) else (zds (τ := Bool × BS × (List Tr)) (zcl (β := Bool × Int × BS × (List Tr)) (fun s1 => (bif (decide (s1.2.1 < (List.length x1.l : Int))) then (zds (τ := Bool × BS × (List Tr)) (chk (0 ≤ s1.2.1 ∧ s1.2.1 < (List.length x1.l : Int)) (zal (ix x1.l s1.2.1) (fun x4 => (bif (((x4.k : Nat) : Int) == 2) then (zal (s1.2.2.1 ||| x4.s) (fun x5 => (some (Sum.inl (s1.1, x5, s1.2.2.2))))) else (bif (((x4.k : Nat) : Int) == 1) then (some (Sum.inl (true, s1.2.2.1, s1.2.2.2))) else (bif (List.isEmpty s1.2.2.2) then (chk (0 < (List.length [x4]) ∧ (List.length [x4]) * 80 ≤ 140737488355328) (some (Sum.inl (s1.1, s1.2.2.1, [x4])))) else (chk (List.length s1.2.2.2 = (List.length s1.2.2.2) ∧ 0 < (List.length s1.2.2.2) ∧ 0 < List.length [x4] ∧ ((List.length s1.2.2.2) + List.length [x4]) * 80 ≤ 140737488355328) (some (Sum.inl (s1.1, s1.2.2.1, (s1.2.2.2 ++ [x4]))))))))))) (fun j2 => (chk (-9223372036854775808 ≤ (s1.2.1 + 1) ∧ (s1.2.1 + 1) < 9223372036854775808) (some (Sum.inl (j2.1, (s1.2.1 + 1), j2.2.1, j2.2.2)))))) else (some (Sum.inr (Sum.inl (s1.1, s1.2.2.1, s1.2.2.2)))))) fuel (false, 0, 0#256, ([] : List Tr))) (fun j1 => (zds (τ := (List Tr)) (zal (ofT j1.2.1) (fun x6 => (bif (((x6.k : Nat) : Int) == 2) then (bif (List.isEmpty j1.2.2) then (chk (0 < (List.length [x6]) ∧ (List.length [x6]) * 80 ≤ 140737488355328) (some (Sum.inl ([x6])))) else (chk (List.length j1.2.2 = (List.length j1.2.2) ∧ 0 < (List.length j1.2.2) ∧ 0 < List.length [x6] ∧ ((List.length j1.2.2) + List.length [x6]) * 80 ≤ 140737488355328) (some (Sum.inl ((j1.2.2 ++ [x6])))))) else (some (Sum.inl (j1.2.2)))))) (fun j3 => (bif (List.isEmpty j3) then (chk ((zam ([] : List Tr)).length ≤ 2 ^ 40) (zal (orT ([] : List Tr)) (fun x7 => (bif j1.1 then (bif (((x7.k : Nat) : Int) == 0) then (some (Tr.mk 1 (0#256) 0 0 [])) else (zau (zgj x7 (Bd.mk 0 1)) (fun x8 => (some x8)))) else (some x7))))) else (chk ((0 < List.length j3 ∧ List.length j3 < 4611686018427387904) ∧ ∀ y ∈ j3, zbx y = true) (zal (zgd j3) (fun x9 => (chk (List.length x9 = (List.length j3)) (chk ((0 < List.length x9 ∧ List.length x9 < 2 ^ 60) ∧ ∀ y ∈ x9, (pre y).length < 2 ^ 61) (zal (zfr x9) (fun x10 => (chk ((zam x10).length ≤ 2 ^ 40) (zal (orT x10) (fun x11 => (bif j1.1 then (bif (((x11.k : Nat) : Int) == 0) then (some (Tr.mk 1 (0#256) 0 0 [])) else (zau (zgj x11 (Bd.mk 0 1)) (fun x12 => (some x12)))) else (some x11)))))))))))))))))))))))))
theorem ent45 : Ent Try.prog 45 := enters_of Try.func45 (by kernel_rfl) rfl
set_option maxRecDepth 100000 in
set_option maxHeartbeats 4000000 in
theorem nalt_sh (fuel : Nat) (l : (List Tr)) (r : Tr) (h : zym fuel l = some r) : Pure (ITP Try.prog) Try.prog 45 [.list (List.length (l : List Tr)) (Enc.cellsL (l : List Tr)) .none] (.agg (Enc.cells (r : Tr))) := by
 obtain ⟨d, hd⟩ : ∃ d, Try.f45.body = some d := ⟨_, rfl⟩
 refine zir mix Try.func45 hd ent45 ?_
 cases hd
 unfold zym at h
 refine za0 (by dsimp only [zb1, Try.f45, List.length_cons, List.length_nil, Nat.zero_add, Nat.reduceAdd, Nat.reduceSub, List.replicate, List.cons_append, List.nil_append]) (by dsimp only [St.empty]) ?_
 refine ze (zd ?_)
 refine zbj (a := .ptr 0 0) (σ'' := ⟨[(30, [.u 0, .raw (.int .u64 0), .raw (.int .u64 0), .raw (.int .u64 0), .raw (.int .u64 0), .i 0, .i 0, .list 0 [] .full])], [], [], 0, false⟩) ?_
 refine ze (zd ?_)
 refine zad ?_
 obtain ⟨g1, h⟩ := zh h
 obtain ⟨x1, hx1, h⟩ := zj h
 refine zb3 (args' := [.list (List.length (l : List Tr)) (Enc.cellsL (l : List Tr)) .none]) (r := .agg (Enc.cells (x1 : Tr))) (by rw [← hx1]; exact (k_or l g1)) rfl rfl (zf (zer (Enc.cloL _)) rfl) (zb (zar (Enc.cloL _)) rfl) (by dsimp only [zp, List.set]) ?_
 refine zbj (a := .ptr 1 0) (σ'' := ⟨[(30, [.u 0, .raw (.int .u64 0), .raw (.int .u64 0), .raw (.int .u64 0), .raw (.int .u64 0), .i 0, .i 0, .list 0 [] .full]), (30, [.u 0, .raw (.int .u64 0), .raw (.int .u64 0), .raw (.int .u64 0), .raw (.int .u64 0), .i 0, .i 0, .list 0 [] .full])], [], [], 0, false⟩) ?_
 refine zbj (σ'' := ⟨[(30, [.u 0, .raw (.int .u64 0), .raw (.int .u64 0), .raw (.int .u64 0), .raw (.int .u64 0), .i 0, .i 0, .list 0 [] .full]), (30, (Enc.cells (x1 : Tr)))], [], [], 0, false⟩) (h := za5 (n := 8) rfl rfl rfl rfl rfl rfl rfl rfl (by decide)) ?_
 refine ze ?_
 refine ze (zd ?_)
 refine w_o (a := .ptr 1 0) ?_
 refine w_o (a := .u ((x1.k : Nat) : Int)) ?_
 refine w_o (a := .b (((x1.k : Nat) : Int) != 4)) ?_
 refine zu h (fun hc1 h => ?_) (fun hc1 h => ?_)
 refine za4 hc1 rfl ?_
 refine ze (zd ?_)
 refine w_o (a := .agg (Enc.cells (x1 : Tr))) ?_
 refine zbj (σ'' := ⟨[(30, (Enc.cells (x1 : Tr))), (30, (Enc.cells (x1 : Tr)))], [], [], 0, false⟩) (h := za5 (n := 8) rfl rfl rfl rfl rfl rfl rfl rfl (by decide)) ?_
 exact zca (fun (r : Tr) => (.agg (Enc.cells (r : Tr)) : AV)) h (a := .agg (Enc.cells (x1 : Tr))) rfl (zn _ _ (zl (Enc.clo _))) (zai (zl (Enc.clo _)))
 refine za7 hc1 rfl ?_
 refine ze ?_
 refine ze (zd ?_)
 refine w_o (a := .agg (Enc.cells (x1 : Tr))) ?_
 obtain ⟨g2, h⟩ := zh h
 obtain ⟨x2, hx2, h⟩ := zj h
 refine zb3 (args' := [.agg (Enc.cells (x1 : Tr))]) (r := .b x2) (by rw [← hx2]; exact (zl2 x1 g2)) rfl rfl (zf (zai (zl (Enc.clo _))) rfl) (zb (zn _ _ (zl (Enc.clo _))) rfl) (by dsimp only [zp, List.set]) ?_
 refine w_o (a := .b (!x2)) ?_
 refine zu h (fun hc2 h => ?_) (fun hc2 h => ?_)
 refine za4 hc2 rfl ?_
 refine ze (zd ?_)
 refine w_o (a := .ptr 1 7) ?_
 refine w_o (a := .list (List.length (x1.l : List Tr)) (Enc.cellsL (x1.l : List Tr)) .none) ?_
 obtain ⟨x3, hx3, h⟩ := zw h
 refine zb3 (args' := [.list (List.length (x1.l : List Tr)) (Enc.cellsL (x1.l : List Tr)) .none]) (r := .agg (Enc.cells (x3 : Tr))) (zwn fuel x1.l x3 hx3) rfl rfl (zf (zer (Enc.cloL _)) rfl) (zb (zar (Enc.cloL _)) rfl) (by dsimp only [zp, List.set]) ?_
 refine zbj (σ'' := ⟨[(30, (Enc.cells (x3 : Tr))), (30, (Enc.cells (x1 : Tr)))], [], [], 0, false⟩) (h := za5 (n := 8) rfl rfl rfl rfl rfl rfl rfl rfl (by decide)) ?_
 exact zca (fun (r : Tr) => (.agg (Enc.cells (r : Tr)) : AV)) h (a := .agg (Enc.cells (x3 : Tr))) rfl (zn _ _ (zl (Enc.clo _))) (zai (zl (Enc.clo _)))
 refine za7 hc2 rfl ?_
 refine ze (zd ?_)
 refine zbj (a := .ptr 2 0) (σ'' := ⟨[(30, [.u 0, .raw (.int .u64 0), .raw (.int .u64 0), .raw (.int .u64 0), .raw (.int .u64 0), .i 0, .i 0, .list 0 [] .full]), (30, (Enc.cells (x1 : Tr))), (28, (Enc.cells (0#256 : BS)))], [], [], 0, false⟩) ?_
 refine zyu (zd ?_)
 refine w_o (a := .list 0 [] .full) ?_
 refine z7i (S' := (.list (List.length (l : List Tr)) (Enc.cellsL (l : List Tr)) .none :: .raw undef :: .ptr 0 0 :: .ptr 1 0 :: .ptr 2 0 :: (zw8 3 (List.length ([] : List Tr)) 8) :: .raw undef :: .raw undef :: .raw undef :: .raw undef :: .list (List.length (l : List Tr)) (Enc.cellsL (l : List Tr)) .none :: .agg (Enc.cells (x1 : Tr)) :: .ptr 1 0 :: .u ((x1.k : Nat) : Int) :: .b (((x1.k : Nat) : Int) != 4) :: .raw undef :: .agg (Enc.cells (x1 : Tr)) :: .b x2 :: .b (!x2) :: .raw undef :: .raw undef :: .raw undef :: .raw undef :: .raw undef :: .raw undef :: .raw undef :: .raw undef :: .raw undef :: .raw undef :: .raw undef :: .raw undef :: .raw undef :: .raw undef :: .raw undef :: .raw undef :: .raw undef :: .raw undef :: .raw undef :: .raw undef :: .raw undef :: .raw undef :: .raw undef :: .raw undef :: .raw undef :: .raw undef :: .raw undef :: .raw undef :: .raw undef :: .raw undef :: .raw undef :: .raw undef :: .raw undef :: .raw undef :: .raw undef :: .raw undef :: .raw undef :: .raw undef :: .raw undef :: .raw undef :: .raw undef :: .raw undef :: .raw undef :: .raw undef :: .raw undef :: .raw undef :: .raw undef :: .raw undef :: .raw undef :: .raw undef :: .raw undef :: .raw undef :: .raw undef :: [])) (σ' := ⟨[(30, [.u 0, .raw (.int .u64 0), .raw (.int .u64 0), .raw (.int .u64 0), .raw (.int .u64 0), .i 0, .i 0, .list 0 [] .full]), (30, (Enc.cells (x1 : Tr))), (28, (Enc.cells (0#256 : BS))), (30, (Enc.cellsL (([] : List Tr) : List Tr)))], [], [], 0, false⟩) (zzp (true :: true :: true :: true :: true :: true :: true :: true :: true :: true :: true :: true :: true :: true :: true :: true :: true :: true :: true :: true :: true :: true :: true :: true :: true :: true :: true :: true :: true :: true :: true :: true :: true :: true :: true :: true :: true :: true :: true :: true :: true :: true :: true :: true :: true :: true :: true :: true :: true :: true :: true :: true :: true :: true :: true :: true :: true :: true :: true :: true :: true :: true :: true :: true :: true :: true :: true :: true :: true :: true :: true :: true :: []) 0 rfl rfl rfl) ?_
 refine ze (zd ?_)
 refine w_o (a := .b false) ?_
 refine za3 h [0, 1, 5, 6, 7, 8, 9, 10, 11, 12, 13, 14, 15, 16, 17, 18, 19, 20, 21, 22, 23, 24, 25, 26, 27, 28, 29, 30, 31, 32, 33, 34, 35, 36, 37, 38, 39, 40, 41, 42, 43, 44, 45, 46, 47, 48, 49, 50, 51, 52, 53, 54, 55, 56, 57, 58, 59, 60, 61, 62, 63, 64, 65, 66, 67, 68, 69, 70, 71] (fun j1 => [(6, .b j1.1), (5, (zw8 3 (List.length j1.2.2) 8))]) (fun j1 => ⟨[(30, [.u 0, .raw (.int .u64 0), .raw (.int .u64 0), .raw (.int .u64 0), .raw (.int .u64 0), .i 0, .i 0, .list 0 [] .full]), (30, (Enc.cells (x1 : Tr))), (28, (Enc.cells (j1.2.1 : BS))), (30, (Enc.cellsL (j1.2.2 : List Tr)))], [], [], 0, false⟩) ?_ ?_
 intro or1 h hr1
 refine ze (zd ?_)
 refine w_o (a := .ptr 1 7) ?_
 refine w_o (a := .list (List.length (x1.l : List Tr)) (Enc.cellsL (x1.l : List Tr)) .none) ?_
 refine w_o (a := .i (List.length x1.l : Int)) ?_
 refine w_o (a := .i 0) ?_
 refine zt ?_
 refine zcp h [0, 1, 5, 6, 7, 8, 9, 10, 11, 12, 13, 14, 15, 16, 17, 18, 19, 20, 21, 22, 25, 26, 27, 28, 29, 30, 31, 32, 33, 34, 35, 36, 37, 38, 39, 40, 41, 42, 43, 44, 45, 46, 47, 48, 49, 50, 51, 52, 53, 54, 55, 56, 57, 58, 59, 60, 61, 62, 63, 64, 65, 66, 67, 68, 69, 70, 71] (fun s1 => [(6, .b s1.1), (25, .i s1.2.1), (5, (zw8 3 (List.length s1.2.2.2) 8))]) (fun s1 => ⟨[(30, [.u 0, .raw (.int .u64 0), .raw (.int .u64 0), .raw (.int .u64 0), .raw (.int .u64 0), .i 0, .i 0, .list 0 [] .full]), (30, (Enc.cells (x1 : Tr))), (28, (Enc.cells (s1.2.2.1 : BS))), (30, (Enc.cellsL (s1.2.2.2 : List Tr)))], [], [], 0, false⟩) ?_ ?_
 exact zc4 (bl 72 58720380) (by kernel_rfl) (by kernel_rfl)
 intro s1 p1 h
 refine za0 (by dsimp only [zaf, zae, List.foldl, List.set]) rfl ?_
 refine ze (zd ?_)
 refine w_o (a := .b (decide (s1.2.1 < (List.length x1.l : Int)))) ?_
 refine ze ?_
 refine zu h (fun hc3 h => ?_) (fun hc3 h => ?_)
 refine za4 hc3 rfl ?_
 refine za3 h [5, 6, 8, 26, 27, 28, 29, 30, 31, 32, 33, 34, 35, 36, 37, 38, 39, 40, 41, 42] (fun j2 => [(6, .b j2.1), (5, (zw8 3 (List.length j2.2.2) 8))]) (fun j2 => ⟨[(30, [.u 0, .raw (.int .u64 0), .raw (.int .u64 0), .raw (.int .u64 0), .raw (.int .u64 0), .i 0, .i 0, .list 0 [] .full]), (30, (Enc.cells (x1 : Tr))), (28, (Enc.cells (j2.2.1 : BS))), (30, (Enc.cellsL (j2.2.2 : List Tr)))], [], [], 0, false⟩) ?_ ?_
 intro or2 h hr2
 refine zt ?_
 refine ze (zd ?_)
 obtain ⟨g3, h⟩ := zh h
 obtain ⟨x4, hx4, h⟩ := zj h
 refine w_o (a := .iptr (Enc.cells x4 ++ Enc.cellsL (List.drop (Int.toNat s1.2.1 + 1) x1.l))) (h := zbs (by rw [← hx4]; exact (zkc (α := Tr) (l := x1.l) g3 rfl rfl rfl rfl rfl))) ?_
 refine w_o (a := .agg (Enc.cells (x4 : Tr))) ?_
 refine zbj (a := .ptr 4 0) (σ'' := ⟨[(30, [.u 0, .raw (.int .u64 0), .raw (.int .u64 0), .raw (.int .u64 0), .raw (.int .u64 0), .i 0, .i 0, .list 0 [] .full]), (30, (Enc.cells (x1 : Tr))), (28, (Enc.cells (s1.2.2.1 : BS))), (30, (Enc.cellsL (s1.2.2.2 : List Tr))), (30, [.u 0, .raw (.int .u64 0), .raw (.int .u64 0), .raw (.int .u64 0), .raw (.int .u64 0), .i 0, .i 0, .list 0 [] .full])], [], [], 0, false⟩) ?_
 refine zbj (σ'' := ⟨[(30, [.u 0, .raw (.int .u64 0), .raw (.int .u64 0), .raw (.int .u64 0), .raw (.int .u64 0), .i 0, .i 0, .list 0 [] .full]), (30, (Enc.cells (x1 : Tr))), (28, (Enc.cells (s1.2.2.1 : BS))), (30, (Enc.cellsL (s1.2.2.2 : List Tr))), (30, (Enc.cells (x4 : Tr)))], [], [], 0, false⟩) (h := za5 (n := 8) rfl rfl rfl rfl rfl rfl rfl rfl (by decide)) ?_
 refine ze (zd ?_)
 refine w_o (a := .ptr 4 0) ?_
 refine w_o (a := .u ((x4.k : Nat) : Int)) ?_
 refine zt ?_
 refine ze (zd ?_)
 refine w_o (a := .b (((x4.k : Nat) : Int) == 2)) ?_
 refine zad ?_
 refine zu h (fun hc4 h => ?_) (fun hc4 h => ?_)
 refine za4 hc4 rfl ?_
 refine zd (k0 := 0) (id := 15) ?_
 refine w_o (a := .agg (Enc.cells (s1.2.2.1 : BS))) ?_
 refine w_o (a := .ptr 4 1) ?_
 refine w_o (a := .agg (Enc.cells (x4.s : BS))) ?_
 obtain ⟨x5, hx5, h⟩ := zj h
 refine zb3 (args' := [.agg (Enc.cells (s1.2.2.1 : BS)), .agg (Enc.cells (x4.s : BS))]) (r := .agg (Enc.cells (x5 : BS))) (by rw [← hx5]; exact (k_or2 s1.2.2.1 x4.s)) rfl rfl (zf (zai (zl (Enc.clo _))) (zf (zai (zl (Enc.clo _))) rfl)) (zb (zn _ _ (zl (Enc.clo _))) (zb (zn _ _ (zl (Enc.clo _))) rfl)) (by dsimp only [zp, List.set]) ?_
 refine zbj (σ'' := ⟨[(30, [.u 0, .raw (.int .u64 0), .raw (.int .u64 0), .raw (.int .u64 0), .raw (.int .u64 0), .i 0, .i 0, .list 0 [] .full]), (30, (Enc.cells (x1 : Tr))), (28, (Enc.cells (x5 : BS))), (30, (Enc.cellsL (s1.2.2.2 : List Tr))), (30, (Enc.cells (x4 : Tr)))], [], [], 0, false⟩) (h := za5 (n := 4) rfl rfl rfl rfl rfl rfl rfl rfl (by decide)) ?_
 refine zg (o := or2) (s1.1, x5, s1.2.2.2) h ?_
 exact zcn (bl 72 4722366474073619300095) 4 (by kernel_rfl) (Nat.le_of_ble_eq_true rfl) (zbi (zv rfl (zv (zm _ _ (Enc.clo _)) (zv (zm _ _ (Enc.clo _)) (zv (zm _ _ (Enc.cloL _)) rfl))))) (by dsimp only [zaf, zae, List.foldl, List.set]; exact (zb rfl (zb rfl (zb (by decide) (zb (by decide) (zb (by decide) (zb (zl6 (by decide)) (zb rfl (zb rfl (zb rfl (zb rfl (zb rfl (zb rfl (zb rfl (zb rfl (zb rfl (zb rfl (zb rfl (zb rfl (zb rfl (zb rfl (zb rfl (zb rfl (zb rfl (zb (zar (Enc.cloL _)) (by kernel_rfl)))))))))))))))))))))))))) (by kernel_rfl)
 refine za7 hc4 rfl ?_
 refine ze (zd ?_)
 refine w_o (a := .b (((x4.k : Nat) : Int) == 1)) ?_
 refine zad ?_
 refine zu h (fun hc5 h => ?_) (fun hc5 h => ?_)
 refine za4 hc5 rfl ?_
 refine zd (k0 := 0) (id := 17) ?_
 refine w_o (a := .b true) ?_
 refine zg (o := or2) (true, s1.2.2.1, s1.2.2.2) h ?_
 exact zcn (bl 72 4722366474073619300095) 4 (by kernel_rfl) (Nat.le_of_ble_eq_true rfl) (zbi (zv rfl (zv (zm _ _ (Enc.clo _)) (zv (zm _ _ (Enc.clo _)) (zv (zm _ _ (Enc.cloL _)) rfl))))) (by dsimp only [zaf, zae, List.foldl, List.set]; exact (zb rfl (zb rfl (zb (by decide) (zb (by decide) (zb (by decide) (zb (zl6 (by decide)) (zb rfl (zb rfl (zb rfl (zb rfl (zb rfl (zb rfl (zb rfl (zb rfl (zb rfl (zb rfl (zb rfl (zb rfl (zb rfl (zb rfl (zb rfl (zb rfl (zb rfl (zb (zar (Enc.cloL _)) (by kernel_rfl)))))))))))))))))))))))))) (by kernel_rfl)
 refine za7 hc5 rfl ?_
 refine zd (k0 := 0) (id := 13) ?_
 refine zad ?_
 refine w_o (a := .agg (Enc.cells (x4 : Tr))) ?_
 refine w_o (a := .list (List.length ([x4] : List Tr)) (Enc.cellsL ([x4] : List Tr)) .full) (h := zbs (zfs (α := Tr) (l := [x4]) (cs := Enc.cells (x4 : Tr) ++ []) rfl (by rw [Enc.cons, Enc.nil]))) ?_
 refine zu h (fun hc6 h => ?_) (fun hc6 h => ?_)
 rw [zeo (b := 3) hc6]
 obtain ⟨g4, h⟩ := zh h
 refine zka (a := .bsl 5 0 (List.length [x4]) 8 false) (σ'' := ⟨[(30, [.u 0, .raw (.int .u64 0), .raw (.int .u64 0), .raw (.int .u64 0), .raw (.int .u64 0), .i 0, .i 0, .list 0 [] .full]), (30, (Enc.cells (x1 : Tr))), (28, (Enc.cells (s1.2.2.1 : BS))), (30, (Enc.cellsL (s1.2.2.2 : List Tr))), (30, (Enc.cells (x4 : Tr))), (30, (Enc.cellsL ([x4] : List Tr)))], [], [], 0, false⟩) rfl rfl rfl (zjh (α := Tr) (r := [x4]) (by' := 80) g4 rfl rfl rfl rfl rfl rfl rfl rfl rfl rfl rfl ⟨rfl, by decide⟩) (by dsimp only [zp, List.set]) rfl ?_
 refine zad ?_
 refine zg (o := or2) (s1.1, s1.2.2.1, [x4]) h ?_
 exact zdk (bl 72 4722366474073619300095) 0 [] [0, 1, 2, 5] 1 (Nat.le_refl _) rfl (by dsimp only [zaf, zae, List.foldl, List.set]; exact (zc rfl (zc rfl (zc rfl (zc rfl (zc rfl (zc (zeb (by simp) (by simp) _ _) (zc (zk _ _ _ rfl) (zc rfl (za (zc rfl (zc rfl (zc rfl (zc rfl (zc rfl (zc rfl (zc rfl (zc rfl (zc rfl (zc rfl (zc rfl (zc rfl (zc rfl (zc rfl (zc (zk _ _ _ (zc3 (Enc.cloL _))) (zc (zk _ _ _ rfl) (zc (zk _ _ _ rfl) (za (za (za (za (za (za (za (za (za (za (za (za (za (za (za (za (za (zc rfl (zc rfl (zc rfl (zc rfl (zc rfl (zc rfl (zc rfl (zc rfl (zc rfl (zc rfl (zc rfl (zc rfl (zc rfl (zc rfl (zc rfl (zc rfl (zc rfl (zc rfl (zc rfl (zc rfl (zc rfl (zc rfl (zc rfl (zc rfl (zc rfl (zc rfl (zc rfl (zc rfl (zc rfl zdm))))))))))))))))))))))))))))))))))))))))))))))))))))))))))))))))))))))))) (zdi (zaa rfl rfl (zaa rfl (zaq _ _ _ (Enc.clo _)) (zaa rfl (zaq _ _ _ (Enc.clo _)) (zaa rfl (zaq _ _ _ (Enc.cloL _)) zcd)))) rfl)
 rw [ze6 (b := 3) hc6]
 obtain ⟨g5, h⟩ := zh h
 refine zka (a := .bsl 5 0 ((List.length s1.2.2.2) + List.length [x4]) 8 false) (σ'' := ⟨[(30, [.u 0, .raw (.int .u64 0), .raw (.int .u64 0), .raw (.int .u64 0), .raw (.int .u64 0), .i 0, .i 0, .list 0 [] .full]), (30, (Enc.cells (x1 : Tr))), (28, (Enc.cells (s1.2.2.1 : BS))), (30, (Enc.cellsL (([] : List Tr) : List Tr))), (30, (Enc.cells (x4 : Tr))), (30, (Enc.cellsL ((s1.2.2.2 ++ [x4]) : List Tr)))], [], [], 0, false⟩) rfl rfl rfl (zn9 (α := Tr) (l := s1.2.2.2) (r := [x4]) (by' := 80) g5 rfl rfl rfl rfl rfl rfl rfl rfl rfl rfl rfl rfl ⟨rfl, by decide⟩) (by dsimp only [zp, List.set]) rfl ?_
 refine zad ?_
 refine zg (o := or2) (s1.1, s1.2.2.1, (s1.2.2.2 ++ [x4])) h ?_
 exact zdk (bl 72 4722366474073619300095) 0 [] [0, 1, 2, 5] 1 (Nat.le_refl _) rfl (by dsimp only [zaf, zae, List.foldl, List.set]; exact (zc rfl (zc rfl (zc rfl (zc rfl (zc rfl (zc (zeb (by simp) (by simp) _ _) (zc (zk _ _ _ rfl) (zc rfl (za (zc rfl (zc rfl (zc rfl (zc rfl (zc rfl (zc rfl (zc rfl (zc rfl (zc rfl (zc rfl (zc rfl (zc rfl (zc rfl (zc rfl (zc (zk _ _ _ (zc3 (Enc.cloL _))) (zc (zk _ _ _ rfl) (zc (zk _ _ _ rfl) (za (za (za (za (za (za (za (za (za (za (za (za (za (za (za (za (za (zc rfl (zc rfl (zc rfl (zc rfl (zc rfl (zc rfl (zc rfl (zc rfl (zc rfl (zc rfl (zc rfl (zc rfl (zc rfl (zc rfl (zc rfl (zc rfl (zc rfl (zc rfl (zc rfl (zc rfl (zc rfl (zc rfl (zc rfl (zc rfl (zc rfl (zc rfl (zc rfl (zc rfl (zc rfl zdm))))))))))))))))))))))))))))))))))))))))))))))))))))))))))))))))))))))))) (zdi (zaa rfl rfl (zaa rfl (zaq _ _ _ (Enc.clo _)) (zaa rfl (zaq _ _ _ (Enc.clo _)) (zaa rfl (zaq _ _ _ (Enc.cloL _)) zcd)))) rfl)
 intro j2 h
 refine za0 (by dsimp only [zaf, zae, List.foldl, List.set]) rfl ?_
 refine zd (k0 := 0) (id := 18) ?_
 obtain ⟨g6, h⟩ := zh h
 refine w_o (a := .i (s1.2.1 + 1)) (h := zbs (zhr rfl rfl rfl rfl g6.1 g6.2)) ?_
 refine zad ?_
 refine zbn (p := p1) (j2.1, (s1.2.1 + 1), j2.2.1, j2.2.2) h ?_
 exact zc4 (bl 72 58720380) (by kernel_rfl) (by kernel_rfl)
 refine za7 hc3 rfl ?_
 refine zac h (fun h => ?_)
 refine zg (o := or1) (s1.1, s1.2.2.1, s1.2.2.2) h ?_
 exact zc4 (bl 72 124) (by kernel_rfl) (by kernel_rfl)
 intro j1 h
 refine za0 (by dsimp only [zaf, zae, List.foldl, List.set]) rfl ?_
 refine za3 h [4, 5, 9, 44, 45, 46, 47, 48, 49, 50, 51, 52] (fun j3 => [(5, (zw8 3 (List.length j3) 8))]) (fun j3 => ⟨[(30, [.u 0, .raw (.int .u64 0), .raw (.int .u64 0), .raw (.int .u64 0), .raw (.int .u64 0), .i 0, .i 0, .list 0 [] .full]), (30, (Enc.cells (x1 : Tr))), (28, (Enc.cells (j1.2.1 : BS))), (30, (Enc.cellsL (j3 : List Tr)))], [], [], 0, false⟩) ?_ ?_
 intro or3 h hr3
 refine ze (zd ?_)
 refine w_o (a := .agg (Enc.cells (j1.2.1 : BS))) ?_
 obtain ⟨x6, hx6, h⟩ := zj h
 refine zb3 (args' := [.agg (Enc.cells (j1.2.1 : BS))]) (r := .agg (Enc.cells (x6 : Tr))) (by rw [← hx6]; exact (k_of j1.2.1)) rfl rfl (zf (zai (zl (Enc.clo _))) rfl) (zb (zn _ _ (zl (Enc.clo _))) rfl) (by dsimp only [zp, List.set]) ?_
 refine zbj (a := .ptr 4 0) (σ'' := ⟨[(30, [.u 0, .raw (.int .u64 0), .raw (.int .u64 0), .raw (.int .u64 0), .raw (.int .u64 0), .i 0, .i 0, .list 0 [] .full]), (30, (Enc.cells (x1 : Tr))), (28, (Enc.cells (j1.2.1 : BS))), (30, (Enc.cellsL (j1.2.2 : List Tr))), (30, [.u 0, .raw (.int .u64 0), .raw (.int .u64 0), .raw (.int .u64 0), .raw (.int .u64 0), .i 0, .i 0, .list 0 [] .full])], [], [], 0, false⟩) ?_
 refine zbj (σ'' := ⟨[(30, [.u 0, .raw (.int .u64 0), .raw (.int .u64 0), .raw (.int .u64 0), .raw (.int .u64 0), .i 0, .i 0, .list 0 [] .full]), (30, (Enc.cells (x1 : Tr))), (28, (Enc.cells (j1.2.1 : BS))), (30, (Enc.cellsL (j1.2.2 : List Tr))), (30, (Enc.cells (x6 : Tr)))], [], [], 0, false⟩) (h := za5 (n := 8) rfl rfl rfl rfl rfl rfl rfl rfl (by decide)) ?_
 refine ze (zd ?_)
 refine w_o (a := .ptr 4 0) ?_
 refine w_o (a := .u ((x6.k : Nat) : Int)) ?_
 refine w_o (a := .b (((x6.k : Nat) : Int) == 2)) ?_
 refine zu h (fun hc7 h => ?_) (fun hc7 h => ?_)
 refine za4 hc7 rfl ?_
 refine zd (k0 := 0) (id := 21) ?_
 refine zad ?_
 refine w_o (a := .agg (Enc.cells (x6 : Tr))) ?_
 refine w_o (a := .list (List.length ([x6] : List Tr)) (Enc.cellsL ([x6] : List Tr)) .full) (h := zbs (zfs (α := Tr) (l := [x6]) (cs := Enc.cells (x6 : Tr) ++ []) rfl (by rw [Enc.cons, Enc.nil]))) ?_
 refine zu h (fun hc8 h => ?_) (fun hc8 h => ?_)
 rw [zeo (b := 3) hc8]
 obtain ⟨g7, h⟩ := zh h
 refine zka (a := .bsl 5 0 (List.length [x6]) 8 false) (σ'' := ⟨[(30, [.u 0, .raw (.int .u64 0), .raw (.int .u64 0), .raw (.int .u64 0), .raw (.int .u64 0), .i 0, .i 0, .list 0 [] .full]), (30, (Enc.cells (x1 : Tr))), (28, (Enc.cells (j1.2.1 : BS))), (30, (Enc.cellsL (j1.2.2 : List Tr))), (30, (Enc.cells (x6 : Tr))), (30, (Enc.cellsL ([x6] : List Tr)))], [], [], 0, false⟩) rfl rfl rfl (zjh (α := Tr) (r := [x6]) (by' := 80) g7 rfl rfl rfl rfl rfl rfl rfl rfl rfl rfl rfl ⟨rfl, by decide⟩) (by dsimp only [zp, List.set]) rfl ?_
 refine zad ?_
 refine zg (o := or3) ([x6]) h ?_
 exact zdk (bl 72 4722357493262576516591) 0 [] [0, 1, 2, 5] 1 (Nat.le_refl _) rfl (by dsimp only [zaf, zae, List.foldl, List.set]; exact (zc rfl (zc rfl (zc rfl (zc rfl (za (zc (zeb (by simp) (by simp) _ _) (zc (zk _ _ _ rfl) (zc rfl (zc rfl (za (zc rfl (zc rfl (zc rfl (zc rfl (zc rfl (zc rfl (zc rfl (zc rfl (zc rfl (zc rfl (zc rfl (zc rfl (zc rfl (zc rfl (zc rfl (zc rfl (zc rfl (zc rfl (zc rfl (zc rfl (zc rfl (zc rfl (zc rfl (zc rfl (zc rfl (zc rfl (zc rfl (zc rfl (zc rfl (zc rfl (zc rfl (zc rfl (zc rfl (zc rfl (za (za (za (za (za (za (za (za (za (zc rfl (zc rfl (zc rfl (zc rfl (zc rfl (zc rfl (zc rfl (zc rfl (zc rfl (zc rfl (zc rfl (zc rfl (zc rfl (zc rfl (zc rfl (zc rfl (zc rfl (zc rfl (zc rfl zdm))))))))))))))))))))))))))))))))))))))))))))))))))))))))))))))))))))))))) (zdi (zaa rfl rfl (zaa rfl (zaq _ _ _ (Enc.clo _)) (zaa rfl (zaq _ _ _ (Enc.clo _)) (zaa rfl (zaq _ _ _ (Enc.cloL _)) zcd)))) rfl)
 rw [ze6 (b := 3) hc8]
 obtain ⟨g8, h⟩ := zh h
 refine zka (a := .bsl 5 0 ((List.length j1.2.2) + List.length [x6]) 8 false) (σ'' := ⟨[(30, [.u 0, .raw (.int .u64 0), .raw (.int .u64 0), .raw (.int .u64 0), .raw (.int .u64 0), .i 0, .i 0, .list 0 [] .full]), (30, (Enc.cells (x1 : Tr))), (28, (Enc.cells (j1.2.1 : BS))), (30, (Enc.cellsL (([] : List Tr) : List Tr))), (30, (Enc.cells (x6 : Tr))), (30, (Enc.cellsL ((j1.2.2 ++ [x6]) : List Tr)))], [], [], 0, false⟩) rfl rfl rfl (zn9 (α := Tr) (l := j1.2.2) (r := [x6]) (by' := 80) g8 rfl rfl rfl rfl rfl rfl rfl rfl rfl rfl rfl rfl ⟨rfl, by decide⟩) (by dsimp only [zp, List.set]) rfl ?_
 refine zad ?_
 refine zg (o := or3) ((j1.2.2 ++ [x6])) h ?_
 exact zdk (bl 72 4722357493262576516591) 0 [] [0, 1, 2, 5] 1 (Nat.le_refl _) rfl (by dsimp only [zaf, zae, List.foldl, List.set]; exact (zc rfl (zc rfl (zc rfl (zc rfl (za (zc (zeb (by simp) (by simp) _ _) (zc (zk _ _ _ rfl) (zc rfl (zc rfl (za (zc rfl (zc rfl (zc rfl (zc rfl (zc rfl (zc rfl (zc rfl (zc rfl (zc rfl (zc rfl (zc rfl (zc rfl (zc rfl (zc rfl (zc rfl (zc rfl (zc rfl (zc rfl (zc rfl (zc rfl (zc rfl (zc rfl (zc rfl (zc rfl (zc rfl (zc rfl (zc rfl (zc rfl (zc rfl (zc rfl (zc rfl (zc rfl (zc rfl (zc rfl (za (za (za (za (za (za (za (za (za (zc rfl (zc rfl (zc rfl (zc rfl (zc rfl (zc rfl (zc rfl (zc rfl (zc rfl (zc rfl (zc rfl (zc rfl (zc rfl (zc rfl (zc rfl (zc rfl (zc rfl (zc rfl (zc rfl zdm))))))))))))))))))))))))))))))))))))))))))))))))))))))))))))))))))))))))) (zdi (zaa rfl rfl (zaa rfl (zaq _ _ _ (Enc.clo _)) (zaa rfl (zaq _ _ _ (Enc.clo _)) (zaa rfl (zaq _ _ _ (Enc.cloL _)) zcd)))) rfl)
 refine za7 hc7 rfl ?_
 refine zg (o := or3) (j1.2.2) h ?_
 exact zcn (bl 72 4722357493262576516591) 4 (by kernel_rfl) (Nat.le_of_ble_eq_true rfl) (zbi (zv rfl (zv (zm _ _ (Enc.clo _)) (zv (zm _ _ (Enc.clo _)) (zv (zm _ _ (Enc.cloL _)) rfl))))) (by dsimp only [zaf, zae, List.foldl, List.set]; exact (zb rfl (zb rfl (zb (by decide) (zb (by decide) (zb rfl (zb (zl6 (by decide)) (by kernel_rfl)))))))) (by kernel_rfl)
 intro j3 h
 refine za0 (by dsimp only [zaf, zae, List.foldl, List.set]) rfl ?_
 refine ze (zd ?_)
 refine zad ?_
 refine zu h (fun hc9 h => ?_) (fun hc9 h => ?_)
 rw [zeo (b := 3) hc9]
 refine zb3 (args' := [.list 0 [] .none, .clos 62 []]) (r := .tup []) z3a rfl rfl (zf rfl (zf rfl rfl)) rfl (by dsimp only [zp, List.set]) ?_
 refine ze (zd ?_)
 refine zad ?_
 refine zb3 (args' := [.list 0 [] .none, .clos 11 []]) (r := .list 0 [] .none) z4z rfl rfl (zf rfl (zf rfl rfl)) rfl (by dsimp only [zp, List.set]) ?_
 obtain ⟨g9, h⟩ := zh h
 obtain ⟨x7, hx7, h⟩ := zj h
 refine zb3 (args' := [.list 0 [] .none]) (r := .agg (Enc.cells (x7 : Tr))) (by rw [← hx7]; exact (k_or ([] : List Tr) g9)) rfl rfl (zf rfl rfl) (by kernel_rfl) (by dsimp only [zp, List.set]) ?_
 refine zbj (σ'' := ⟨[(30, [.u 0, .raw (.int .u64 0), .raw (.int .u64 0), .raw (.int .u64 0), .raw (.int .u64 0), .i 0, .i 0, .list 0 [] .full]), (30, (Enc.cells (x7 : Tr))), (28, (Enc.cells (j1.2.1 : BS))), (30, (Enc.cellsL (j3 : List Tr)))], [], [], 0, false⟩) (h := za5 (n := 8) rfl rfl rfl rfl rfl rfl rfl rfl (by decide)) ?_
 refine ze ?_
 refine zt ?_
 refine ze (zd ?_)
 refine zad ?_
 refine zu h (fun hc10 h => ?_) (fun hc10 h => ?_)
 refine w_o (a := .b true) (h := zbs (zak rfl hc10)) ?_
 refine zab rfl rfl ?_
 refine w_o (a := .ptr 1 0) ?_
 refine zab rfl rfl ?_
 refine w_o (a := .u ((x7.k : Nat) : Int)) ?_
 refine zab rfl rfl ?_
 refine w_o (a := .b (((x7.k : Nat) : Int) == 0)) ?_
 refine w_o (a := .b (((x7.k : Nat) : Int) == 0)) ?_
 refine zad ?_
 refine zu h (fun hc11 h => ?_) (fun hc11 h => ?_)
 refine za4 hc11 rfl ?_
 refine ze (zd ?_)
 refine zdz (.agg (Enc.cells ((Tr.mk 1 (0#256) 0 0 []) : Tr))) (a0 := (zbh (Tr.mk 1 (0#256) 0 0 []) .full)) rfl rfl rfl (by kernel_rfl) (zi _ _) (by dsimp only [zp, List.set]) ?_
 refine zbj (σ'' := ⟨[(30, (Enc.cells ((Tr.mk 1 (0#256) 0 0 []) : Tr))), (30, (Enc.cells (x7 : Tr))), (28, (Enc.cells (j1.2.1 : BS))), (30, (Enc.cellsL (j3 : List Tr)))], [], [], 0, false⟩) (h := za5 (n := 8) rfl rfl rfl rfl rfl rfl rfl rfl (by decide)) ?_
 exact zca (fun (r : Tr) => (.agg (Enc.cells (r : Tr)) : AV)) h (a := .agg (Enc.cells ((Tr.mk 1 (0#256) 0 0 []) : Tr))) rfl (zn _ _ (zl (Enc.clo _))) (zai (zl (Enc.clo _)))
 refine za7 hc11 rfl ?_
 refine ze (zd ?_)
 refine zad ?_
 refine zad ?_
 refine za4 hc10 rfl ?_
 refine ze ?_
 refine zck (k0 := 0) (id := 27) 2 (by kernel_rfl) (by kernel_rfl) ?_
 refine h_o (a := .agg (Enc.cells (x7 : Tr))) ?_
 refine zo8 (args' := []) (r := .agg (Enc.cells ((Bd.mk 0 1) : Bd))) (zyx _ rfl) rfl rfl rfl rfl rfl (by dsimp only [zp, List.set]) ?_
 refine zb7 ?_
 obtain ⟨x8, hx8, h⟩ := zw h
 refine zb3 (args' := [.agg (Enc.cells (x7 : Tr)), .agg (Enc.cells ((Bd.mk 0 1) : Bd))]) (r := .agg (Enc.cells (x8 : Tr))) (zi9 x7 (Bd.mk 0 1) x8 hx8) rfl rfl (zf (zai (zl (Enc.clo _))) (zf (zai (zl (Enc.clo _))) rfl)) (zb (zn _ _ (zl (Enc.clo _))) (zb (zn _ _ (zl (Enc.clo _))) rfl)) (by dsimp only [zp, List.set]) ?_
 refine zbj (σ'' := ⟨[(30, (Enc.cells (x8 : Tr))), (30, (Enc.cells (x7 : Tr))), (28, (Enc.cells (j1.2.1 : BS))), (30, (Enc.cellsL (j3 : List Tr)))], [], [], 0, false⟩) (h := za5 (n := 8) rfl rfl rfl rfl rfl rfl rfl rfl (by decide)) ?_
 exact zca (fun (r : Tr) => (.agg (Enc.cells (r : Tr)) : AV)) h (a := .agg (Enc.cells (x8 : Tr))) rfl (zn _ _ (zl (Enc.clo _))) (zai (zl (Enc.clo _)))
 refine w_o (a := .b false) (h := zbs (zak rfl hc10)) ?_
 refine zee ?_
 refine zee ?_
 refine zee ?_
 refine w_o (a := .b false) ?_
 refine zad ?_
 refine zay rfl ?_
 refine ze (zd ?_)
 refine zad ?_
 refine zad ?_
 refine za7 hc10 rfl ?_
 refine ze (zd ?_)
 refine w_o (a := .agg (Enc.cells (x7 : Tr))) ?_
 refine zbj (σ'' := ⟨[(30, (Enc.cells (x7 : Tr))), (30, (Enc.cells (x7 : Tr))), (28, (Enc.cells (j1.2.1 : BS))), (30, (Enc.cellsL (j3 : List Tr)))], [], [], 0, false⟩) (h := za5 (n := 8) rfl rfl rfl rfl rfl rfl rfl rfl (by decide)) ?_
 exact zca (fun (r : Tr) => (.agg (Enc.cells (r : Tr)) : AV)) h (a := .agg (Enc.cells (x7 : Tr))) rfl (zn _ _ (zl (Enc.clo _))) (zai (zl (Enc.clo _)))
 rw [ze6 (b := 3) hc9]
 obtain ⟨g10, h⟩ := zh h
 obtain ⟨x9, hx9, h⟩ := zj h
 refine zu1 (r := .tup []) (σ' := ⟨[(30, [.u 0, .raw (.int .u64 0), .raw (.int .u64 0), .raw (.int .u64 0), .raw (.int .u64 0), .i 0, .i 0, .list 0 [] .full]), (30, (Enc.cells (x1 : Tr))), (28, (Enc.cells (j1.2.1 : BS))), (30, (Enc.cellsL (x9 : List Tr)))], [], [], 0, false⟩) (z3g j3 g10 hx9 rfl rfl) rfl rfl ⟨rfl, rfl⟩ (by dsimp only [zp, List.set]) ?_
 refine ze (zd ?_)
 refine zad ?_
 obtain ⟨g11, h⟩ := zh h
 obtain ⟨g12, h⟩ := zh h
 obtain ⟨x10, hx10, h⟩ := zj h
 refine zu1 (r := .bsl 3 0 (List.length x10) 8 false) (σ' := ⟨[(30, [.u 0, .raw (.int .u64 0), .raw (.int .u64 0), .raw (.int .u64 0), .raw (.int .u64 0), .i 0, .i 0, .list 0 [] .full]), (30, (Enc.cells (x1 : Tr))), (28, (Enc.cells (j1.2.1 : BS))), (30, (Enc.cellsL (x10 : List Tr)))], [], [], 0, false⟩) (z11 x9 g11 g12 hx10 rfl) rfl rfl ⟨rfl, rfl⟩ (by dsimp only [zp, List.set]) ?_
 obtain ⟨g13, h⟩ := zh h
 obtain ⟨x11, hx11, h⟩ := zj h
 refine zu1 (r := .agg (Enc.cells (x11 : Tr))) (σ' := ⟨[(30, [.u 0, .raw (.int .u64 0), .raw (.int .u64 0), .raw (.int .u64 0), .raw (.int .u64 0), .i 0, .i 0, .list 0 [] .full]), (30, (Enc.cells (x1 : Tr))), (28, (Enc.cells (j1.2.1 : BS))), (30, (Enc.cellsL (([] : List Tr) : List Tr)))], [], [], 0, false⟩) (z3d (α := Tr) (t := 30) (l := x10) (zav _) (by rw [← hx11]; exact (k_or x10 g13)) rfl rfl rfl) rfl rfl ⟨rfl, rfl⟩ (by dsimp only [zp, List.set]) ?_
 refine zbj (σ'' := ⟨[(30, [.u 0, .raw (.int .u64 0), .raw (.int .u64 0), .raw (.int .u64 0), .raw (.int .u64 0), .i 0, .i 0, .list 0 [] .full]), (30, (Enc.cells (x11 : Tr))), (28, (Enc.cells (j1.2.1 : BS))), (30, (Enc.cellsL (([] : List Tr) : List Tr)))], [], [], 0, false⟩) (h := za5 (n := 8) rfl rfl rfl rfl rfl rfl rfl rfl (by decide)) ?_
 refine ze ?_
 refine zt ?_
 refine ze (zd ?_)
 refine zad ?_
 refine zu h (fun hc12 h => ?_) (fun hc12 h => ?_)
 refine w_o (a := .b true) (h := zbs (zak rfl hc12)) ?_
 refine zab rfl rfl ?_
 refine w_o (a := .ptr 1 0) ?_
 refine zab rfl rfl ?_
 refine w_o (a := .u ((x11.k : Nat) : Int)) ?_
 refine zab rfl rfl ?_
 refine w_o (a := .b (((x11.k : Nat) : Int) == 0)) ?_
 refine w_o (a := .b (((x11.k : Nat) : Int) == 0)) ?_
 refine zad ?_
 refine zu h (fun hc13 h => ?_) (fun hc13 h => ?_)
 refine za4 hc13 rfl ?_
 refine ze (zd ?_)
 refine zdz (.agg (Enc.cells ((Tr.mk 1 (0#256) 0 0 []) : Tr))) (a0 := (zbh (Tr.mk 1 (0#256) 0 0 []) .full)) rfl rfl rfl (by kernel_rfl) (zi _ _) (by dsimp only [zp, List.set]) ?_
 refine zbj (σ'' := ⟨[(30, (Enc.cells ((Tr.mk 1 (0#256) 0 0 []) : Tr))), (30, (Enc.cells (x11 : Tr))), (28, (Enc.cells (j1.2.1 : BS))), (30, (Enc.cellsL (([] : List Tr) : List Tr)))], [], [], 0, false⟩) (h := za5 (n := 8) rfl rfl rfl rfl rfl rfl rfl rfl (by decide)) ?_
 exact zca (fun (r : Tr) => (.agg (Enc.cells (r : Tr)) : AV)) h (a := .agg (Enc.cells ((Tr.mk 1 (0#256) 0 0 []) : Tr))) rfl (zn _ _ (zl (Enc.clo _))) (zai (zl (Enc.clo _)))
 refine za7 hc13 rfl ?_
 refine ze (zd ?_)
 refine zad ?_
 refine zad ?_
 refine za4 hc12 rfl ?_
 refine ze ?_
 refine zck (k0 := 0) (id := 27) 2 (by kernel_rfl) (by kernel_rfl) ?_
 refine h_o (a := .agg (Enc.cells (x11 : Tr))) ?_
 refine zo8 (args' := []) (r := .agg (Enc.cells ((Bd.mk 0 1) : Bd))) (zyx _ rfl) rfl rfl rfl rfl rfl (by dsimp only [zp, List.set]) ?_
 refine zb7 ?_
 obtain ⟨x12, hx12, h⟩ := zw h
 refine zb3 (args' := [.agg (Enc.cells (x11 : Tr)), .agg (Enc.cells ((Bd.mk 0 1) : Bd))]) (r := .agg (Enc.cells (x12 : Tr))) (zi9 x11 (Bd.mk 0 1) x12 hx12) rfl rfl (zf (zai (zl (Enc.clo _))) (zf (zai (zl (Enc.clo _))) rfl)) (zb (zn _ _ (zl (Enc.clo _))) (zb (zn _ _ (zl (Enc.clo _))) rfl)) (by dsimp only [zp, List.set]) ?_
 refine zbj (σ'' := ⟨[(30, (Enc.cells (x12 : Tr))), (30, (Enc.cells (x11 : Tr))), (28, (Enc.cells (j1.2.1 : BS))), (30, (Enc.cellsL (([] : List Tr) : List Tr)))], [], [], 0, false⟩) (h := za5 (n := 8) rfl rfl rfl rfl rfl rfl rfl rfl (by decide)) ?_
 exact zca (fun (r : Tr) => (.agg (Enc.cells (r : Tr)) : AV)) h (a := .agg (Enc.cells (x12 : Tr))) rfl (zn _ _ (zl (Enc.clo _))) (zai (zl (Enc.clo _)))
 refine w_o (a := .b false) (h := zbs (zak rfl hc12)) ?_
 refine zee ?_
 refine zee ?_
 refine zee ?_
 refine w_o (a := .b false) ?_
 refine zad ?_
 refine zay rfl ?_
 refine ze (zd ?_)
 refine zad ?_
 refine zad ?_
 refine za7 hc12 rfl ?_
 refine ze (zd ?_)
 refine w_o (a := .agg (Enc.cells (x11 : Tr))) ?_
 refine zbj (σ'' := ⟨[(30, (Enc.cells (x11 : Tr))), (30, (Enc.cells (x11 : Tr))), (28, (Enc.cells (j1.2.1 : BS))), (30, (Enc.cellsL (([] : List Tr) : List Tr)))], [], [], 0, false⟩) (h := za5 (n := 8) rfl rfl rfl rfl rfl rfl rfl rfl (by decide)) ?_
 exact zca (fun (r : Tr) => (.agg (Enc.cells (r : Tr)) : AV)) h (a := .agg (Enc.cells (x11 : Tr))) rfl (zn _ _ (zl (Enc.clo _))) (zai (zl (Enc.clo _)))
end Go.Ab
