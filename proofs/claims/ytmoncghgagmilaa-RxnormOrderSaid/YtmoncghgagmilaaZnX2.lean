/-
  RxnormOrder: its walk.
-/
import Derived.Test.YtmoncghgagmilaaZnNf
import Derived.Test.YtmoncghgagmilaaZnEl
import Derived.Test.YtmoncghgagmilaaZnOb
import Derived.Test.YtmoncghgagmilaaZdQr
import Derived.Test.YtmoncghgagmilaaZnV3
import Derived.Test.YtmoncghgagmilaaZdCq
set_option linter.unusedSimpArgs false
set_option linter.unusedVariables false
namespace Go.Ab
open Go Go.RowKit Go.Fwd Go.Proofs
def zrp (fuel : Nat) (j : (List Sm)) (k : (List Sm)) (l : (List Sm)) : Option Bool :=
 (zdo (τ := (List Tr)) (zch (β := (List Tr) × Int) (fun s1 => (bif (decide (s1.2 < (List.length [j, k, l] : Int))) then (zdo (τ := (List Tr)) (chk (0 ≤ s1.2 ∧ s1.2 < (List.length [j, k, l] : Int)) (chk (List.length (ix [j, k, l] s1.2) < 2 ^ 63 ∧ ∀ y ∈ (ix [j, k, l] s1.2), y.2.1 < 256) (zan (zkr (ix [j, k, l] s1.2)) (fun x1 => (chk ((pre x1).length < 2 ^ 60) (zan (zks x1) (fun x2 => (bif x2 then (chk ((List.length s1.1 + List.length [x1]) * 80 ≤ 140737488355328) (some (Sum.inl ((s1.1 ++ [x1]))))) else (some (Sum.inl (s1.1))))))))))) (fun j2 => (chk (-9223372036854775808 ≤ (s1.2 + 1) ∧ (s1.2 + 1) < 9223372036854775808) (some (Sum.inl (j2, (s1.2 + 1))))))) else (some (Sum.inr (Sum.inl (s1.1)))))) fuel (([] : (List Tr)), 0)) (fun j1 => (chk ((zai j1).length ≤ 2 ^ 40) (zan (orT j1) (fun x3 => (chk ((CS 998 x3 ∨ zbj x3 = false) ∧ (pre x3).length < 2 ^ 61) (zan (zmg x3) (fun x4 => (bif ((List.length j1 : Int) == 0) then (some (x4.2 == 110)) else (bif (x4.2 != 0) then (some false) else (chk (0 ≤ (1 : Int) ∧ (1 : Int) ≤ (List.length j1 : Int) ∧ (List.length j1 : Int) ≤ (List.length j1 : Int)) (chk ((List.length ([] : List Tr) + List.length (sub j1 (1 : Int) (List.length j1 : Int))) * 80 ≤ 140737488355328) (chk (0 ≤ (0 : Int) ∧ (0 : Int) < (List.length j1 : Int)) (zan (ix j1 (0 : Int)) (fun x5 => (chk ((List.length (([] : List Tr) ++ (sub j1 (1 : Int) (List.length j1 : Int))) + List.length [x5]) * 80 ≤ 140737488355328) (chk ((List.length ([] : List Tr) + List.length ((([] : List Tr) ++ (sub j1 (1 : Int) (List.length j1 : Int))) ++ [x5])) * 80 ≤ 140737488355328) (chk ((List.length (([] : List Tr) ++ ((([] : List Tr) ++ (sub j1 (1 : Int) (List.length j1 : Int))) ++ [x5])) + List.length j1) * 80 ≤ 140737488355328) (zdo (τ := Unit) (zch (β := Int) (fun s2 => (bif (decide (s2 < (List.length [((([] : List Tr) ++ (sub j1 (1 : Int) (List.length j1 : Int))) ++ [x5]), ((([] : List Tr) ++ ((([] : List Tr) ++ (sub j1 (1 : Int) (List.length j1 : Int))) ++ [x5])) ++ j1)] : Int))) then (chk (0 ≤ s2 ∧ s2 < (List.length [((([] : List Tr) ++ (sub j1 (1 : Int) (List.length j1 : Int))) ++ [x5]), ((([] : List Tr) ++ ((([] : List Tr) ++ (sub j1 (1 : Int) (List.length j1 : Int))) ++ [x5])) ++ j1)] : Int)) (zan (ix [((([] : List Tr) ++ (sub j1 (1 : Int) (List.length j1 : Int))) ++ [x5]), ((([] : List Tr) ++ ((([] : List Tr) ++ (sub j1 (1 : Int) (List.length j1 : Int))) ++ [x5])) ++ j1)] s2) (fun x6 => (chk ((zai x6).length ≤ 2 ^ 40) (zan (orT x6) (fun x7 => (chk ((CS 998 x7 ∨ zbj x7 = false) ∧ (pre x7).length < 2 ^ 61) (zan (zmg x7) (fun x8 => (bif (x8.2 != 0) then (some (Sum.inr (Sum.inr false))) else (chk ((pre x8.1).length < 2 ^ 61 ∧ (pre x4.1).length < 2 ^ 61) (zan (zfc x8.1 x4.1) (fun x9 => (bif (!x9) then (some (Sum.inr (Sum.inr false))) else (chk (-9223372036854775808 ≤ (s2 + 1) ∧ (s2 + 1) < 9223372036854775808) (some (Sum.inl ((s2 + 1))))))))))))))))))) else (some (Sum.inr (Sum.inl ()))))) fuel (0)) (fun j3 => (chk (([97] : List UInt8) ∈ clsA) (zan (zpw ([97] : List UInt8)) (fun x10 => (chk (([98] : List UInt8) ∈ clsA) (zan (zpw ([98] : List UInt8)) (fun x11 => (chk ((zai [x10, x11]).length ≤ 2 ^ 40) (zan (orT [x10, x11]) (fun x12 => (chk ((CS 998 x12 ∨ zbj x12 = false) ∧ (pre x12).length < 2 ^ 61) (zan (zmg x12) (fun x13 => (bif (x13.2 == 0) then (chk (([97, 98] : List UInt8) ∈ clsA) (zan (zpw ([97, 98] : List UInt8)) (fun x14 => (chk ((pre x13.1).length < 2 ^ 61 ∧ (pre x14).length < 2 ^ 61) (zan (zfc x13.1 x14) (fun x15 => (some x15))))))) else (some false))))))))))))))))))))))))))))))))))
theorem ent3 : Ent Try.prog 3 := enters_of Try.func3 (by kernel_rfl) rfl
set_option maxRecDepth 100000 in
set_option maxHeartbeats 4000000 in
theorem z6p (fuel : Nat) (j : (List Sm)) (k : (List Sm)) (l : (List Sm)) (r : Bool) (h : zrp fuel j k l = some r) : Pure (ITP Try.prog) Try.prog 3 [.list (List.length (j : List Sm)) (Enc.cellsL (j : List Sm)) .none, .list (List.length (k : List Sm)) (Enc.cellsL (k : List Sm)) .none, .list (List.length (l : List Sm)) (Enc.cellsL (l : List Sm)) .none] (.raw (.bool r)) := by
 obtain ⟨d, hd⟩ : ∃ d, Try.f3.body = some d := ⟨_, rfl⟩
 refine zh5 mix Try.func3 hd ent3 ?_
 cases hd
 unfold zrp at h
 refine zam (by dsimp only [zbq, Try.f3, List.length_cons, List.length_nil, Nat.zero_add, Nat.reduceAdd, Nat.reduceSub, List.replicate, List.cons_append, List.nil_append]) (by dsimp only [St.empty]) ?_
 refine ze (zc ?_)
 refine w_o (a := .b false) ?_
 refine ze ?_
 refine ze (zc ?_)
 refine za1 (args' := []) (r := .b true) z0t rfl rfl rfl rfl (by dsimp only [zn, List.set]) ?_
 refine w_o (a := .b false) ?_
 refine zav rfl ?_
 refine ze (zc ?_)
 refine w_o (a := .list 0 [] .full) ?_
 refine za0 h [0, 1, 2, 3, 4, 5, 6, 7, 8, 9, 10, 11, 12, 13, 14, 15, 16, 17, 18, 19, 20, 21, 22, 23, 24, 25, 26, 27, 28, 29, 30, 31, 32, 33, 34, 35, 36, 37, 38, 39, 40, 41, 42, 43, 44, 45, 46, 47, 48, 49, 50, 51, 52, 53, 54, 55, 56, 57, 58, 59, 60, 61, 62, 63, 64, 65, 66, 67, 68, 69, 70, 71, 72, 73, 74, 75, 76, 77, 78, 79, 80, 81, 82, 83, 84, 85, 86, 87, 88, 89, 90, 91, 92, 93, 94, 95, 96, 97, 98, 99, 100, 101, 102, 103, 104] (fun j1 => [(7, (zee (List.length (j1 : List Tr)) (Enc.cellsL (j1 : List Tr))))]) (fun j1 => (zc0 [] 30 (List.length (j1 : List Tr)) 8)) ?_ ?_
 intro or1 h hr1
 refine ze (zc ?_)
 refine zab ?_
 refine zab ?_
 refine zab ?_
 refine w_o (a := .list (List.length ([j, k, l] : List (List Sm))) (Enc.cellsL ([j, k, l] : List (List Sm))) .full) (h := za2 (zcj (α := (List Sm)) (l := [j, k, l]) (cs := Enc.cells (j : (List Sm)) ++ (Enc.cells (k : (List Sm)) ++ (Enc.cells (l : (List Sm)) ++ []))) (by kernel_rfl) (by rw [Enc.cons, Enc.cons, Enc.cons, Enc.nil]))) ?_
 refine w_o (a := .i (List.length [j, k, l] : Int)) ?_
 refine w_o (a := .i 0) ?_
 refine zr ?_
 refine zcf h [0, 1, 2, 3, 4, 5, 6, 7, 8, 9, 10, 11, 12, 13, 14, 15, 16, 17, 18, 19, 20, 21, 22, 23, 24, 27, 28, 29, 30, 31, 32, 33, 34, 35, 36, 37, 38, 39, 40, 41, 42, 43, 44, 45, 46, 47, 48, 49, 50, 51, 52, 53, 54, 55, 56, 57, 58, 59, 60, 61, 62, 63, 64, 65, 66, 67, 68, 69, 70, 71, 72, 73, 74, 75, 76, 77, 78, 79, 80, 81, 82, 83, 84, 85, 86, 87, 88, 89, 90, 91, 92, 93, 94, 95, 96, 97, 98, 99, 100, 101, 102, 103, 104] (fun s1 => [(7, (zee (List.length (s1.1 : List Tr)) (Enc.cellsL (s1.1 : List Tr)))), (27, .i s1.2)]) (fun s1 => (zc0 [] 30 (List.length (s1.1 : List Tr)) 8)) ?_ ?_
 exact zco (bl 105 234881152) (by kernel_rfl) (by kernel_rfl)
 intro s1 p1 h
 refine zam (by dsimp only [zz, zad, List.foldl, List.set]) rfl ?_
 refine ze (zc ?_)
 refine w_o (a := .b (decide (s1.2 < (List.length [j, k, l] : Int)))) ?_
 refine ze ?_
 refine zu h (fun hc1 h => ?_) (fun hc1 h => ?_)
 refine zaq hc1 rfl ?_
 refine za0 h [7, 9, 10, 28, 29, 30, 31, 32, 33, 34, 35, 36, 37, 38] (fun j2 => [(7, (zee (List.length (j2 : List Tr)) (Enc.cellsL (j2 : List Tr))))]) (fun j2 => (zc0 [] 30 (List.length (j2 : List Tr)) 8)) ?_ ?_
 intro or2 h hr2
 refine zr ?_
 refine ze (zc ?_)
 obtain ⟨g1, h⟩ := zh h
 refine w_o (a := .iptr (Enc.cells (ix [j, k, l] s1.2) ++ Enc.cellsL (List.drop (Int.toNat s1.2 + 1) [j, k, l]))) (h := za2 (zf7 (α := (List Sm)) (l := [j, k, l]) g1 rfl rfl rfl rfl rfl)) ?_
 refine w_o (a := .list (List.length ((ix [j, k, l] s1.2) : List Sm)) (Enc.cellsL ((ix [j, k, l] s1.2) : List Sm)) .none) ?_
 refine zab ?_
 refine ze (zc ?_)
 refine zab ?_
 obtain ⟨g2, h⟩ := zh h
 obtain ⟨x1, hx1, h⟩ := zj h
 refine za1 (args' := [.list (List.length ((ix [j, k, l] s1.2) : List Sm)) (Enc.cellsL ((ix [j, k, l] s1.2) : List Sm)) .none]) (r := .agg (Enc.cells (x1 : Tr))) (by rw [← hx1]; exact (k_made (ix [j, k, l] s1.2) g2)) rfl rfl (zf (zds (Enc.cloL _)) rfl) (zb (zah (Enc.cloL _)) rfl) (by dsimp only [zn, List.set]) ?_
 refine zbc (a := .ptr 0 0) (σ'' := (zc0 [(30, [.u 0, .raw (.int .u64 0), .raw (.int .u64 0), .raw (.int .u64 0), .raw (.int .u64 0), .i 0, .i 0, .list 0 [] .full])] 30 (List.length (s1.1 : List Tr)) 8)) ?_
 refine zbc (σ'' := (zc0 [(30, (Enc.cells (x1 : Tr)))] 30 (List.length (s1.1 : List Tr)) 8)) (h := zar (n := 8) rfl rfl rfl rfl rfl rfl rfl rfl (by decide)) ?_
 refine ze (zc ?_)
 refine w_o (a := .agg (Enc.cells (x1 : Tr))) ?_
 obtain ⟨g3, h⟩ := zh h
 obtain ⟨x2, hx2, h⟩ := zj h
 refine za1 (args' := [.agg (Enc.cells (x1 : Tr))]) (r := .b x2) (by rw [← hx2]; exact (zwx x1 g3)) rfl rfl (zf (zaf (zl (Enc.clo _))) rfl) (zb (zm _ _ (zl (Enc.clo _))) rfl) (by dsimp only [zn, List.set]) ?_
 refine zu h (fun hc2 h => ?_) (fun hc2 h => ?_)
 refine zaq hc2 rfl ?_
 refine zc (k0 := 0) (id := 9) ?_
 refine zab ?_
 refine w_o (a := .agg (Enc.cells (x1 : Tr))) ?_
 refine w_o (a := .list (List.length ([x1] : List Tr)) (Enc.cellsL ([x1] : List Tr)) .full) (h := za2 (zcj (α := Tr) (l := [x1]) (cs := Enc.cells (x1 : Tr) ++ []) rfl (by rw [Enc.cons, Enc.nil]))) ?_
 obtain ⟨g4, h⟩ := zh h
 refine zii (a := (zee (List.length ((s1.1 ++ [x1]) : List Tr)) (Enc.cellsL ((s1.1 ++ [x1]) : List Tr)))) (σ'' := (zc0 [(30, (Enc.cells (x1 : Tr)))] 30 (List.length ((s1.1 ++ [x1]) : List Tr)) 8)) rfl rfl rfl (zck rfl rfl rfl rfl (zd2 (α := Tr) (bs := [(30, (Enc.cells (x1 : Tr)))]) (a := s1.1) (b := [x1]) g4 rfl rfl rfl rfl rfl ⟨rfl, by decide⟩)) (by dsimp only [zn, List.set]) rfl ?_
 refine zab ?_
 refine zg (o := or2) ((s1.1 ++ [x1])) h ?_
 exact zb3 (bl 105 40564819207303340847345015192063) 0 (by kernel_rfl) (Nat.le_of_ble_eq_true rfl) (zba rfl) (by dsimp only [zz, zad, List.foldl, List.set]; exact (zb rfl (zb rfl (zb rfl (zb rfl (zb rfl (zb rfl (zb rfl (zb (zbp (Enc.cloL _)) (zb rfl (zb rfl (zb rfl (zb rfl (zb rfl (zb rfl (zb rfl (zb rfl (zb rfl (zb rfl (zb rfl (zb rfl (zb rfl (zb rfl (zb rfl (zb rfl (zb rfl (zb (zah (Enc.cloL _)) (by kernel_rfl)))))))))))))))))))))))))))) (by kernel_rfl)
 refine zat hc2 rfl ?_
 refine zg (o := or2) (s1.1) h ?_
 exact zb3 (bl 105 40564819207303340847345015192063) 0 (by kernel_rfl) (Nat.le_of_ble_eq_true rfl) (zba rfl) (by dsimp only [zz, zad, List.foldl, List.set]; exact (zb rfl (zb rfl (zb rfl (zb rfl (zb rfl (zb rfl (zb rfl (zb (zbp (Enc.cloL _)) (zb rfl (zb rfl (zb rfl (zb rfl (zb rfl (zb rfl (zb rfl (zb rfl (zb rfl (zb rfl (zb rfl (zb rfl (zb rfl (zb rfl (zb rfl (zb rfl (zb rfl (zb (zah (Enc.cloL _)) (by kernel_rfl)))))))))))))))))))))))))))) (by kernel_rfl)
 intro j2 h
 refine zam (by dsimp only [zz, zad, List.foldl, List.set]) rfl ?_
 refine zc (k0 := 0) (id := 10) ?_
 obtain ⟨g5, h⟩ := zh h
 refine w_o (a := .i (s1.2 + 1)) (h := za2 (zgv rfl rfl rfl rfl g5.1 g5.2)) ?_
 refine zab ?_
 refine zbb (p := p1) (j2, (s1.2 + 1)) h ?_
 exact zco (bl 105 234881152) (by kernel_rfl) (by kernel_rfl)
 refine zat hc1 rfl ?_
 refine zae h (fun h => ?_)
 refine zg (o := or1) (s1.1) h ?_
 exact zco (bl 105 128) (by kernel_rfl) (by kernel_rfl)
 intro j1 h
 refine zam (by dsimp only [zz, zad, List.foldl, List.set]) rfl ?_
 refine ze (zc ?_)
 refine zab ?_
 obtain ⟨g6, h⟩ := zh h
 obtain ⟨x3, hx3, h⟩ := zj h
 refine za1 (args' := [.list (List.length (j1 : List Tr)) (Enc.cellsL (j1 : List Tr)) .none]) (r := .agg (Enc.cells (x3 : Tr))) (by rw [← hx3]; exact (k_or j1 g6)) rfl rfl (zf (zph (Enc.cloL _) Enc.z) rfl) (zb (zbp (Enc.cloL _)) rfl) (by dsimp only [zn, List.set]) ?_
 obtain ⟨g7, h⟩ := zh h
 obtain ⟨x4, hx4, h⟩ := zj h
 refine za1 (args' := [.agg (Enc.cells (x3 : Tr))]) (r := .tup [.agg (Enc.cells (x4.1 : Tr)), .i x4.2]) (by rw [← hx4]; exact (zs8 x3 g7)) rfl rfl (zf (zaf (zl (Enc.clo _))) rfl) (zb (zm _ _ (zl (Enc.clo _))) rfl) (by dsimp only [zn, List.set]) ?_
 refine zab ?_
 refine w_ex ?_
 refine w_ex ?_
 refine zbc (a := .ptr 0 0) (σ'' := (zc0 [(30, [.u 0, .raw (.int .u64 0), .raw (.int .u64 0), .raw (.int .u64 0), .raw (.int .u64 0), .i 0, .i 0, .list 0 [] .full])] 30 (List.length (j1 : List Tr)) 8)) ?_
 refine zbc (σ'' := (zc0 [(30, (Enc.cells (x4.1 : Tr)))] 30 (List.length (j1 : List Tr)) 8)) (h := zar (n := 8) rfl rfl rfl rfl rfl rfl rfl rfl (by decide)) ?_
 refine zab ?_
 refine ze ?_
 refine ze (zc ?_)
 refine zab ?_
 refine w_o (a := .i (List.length j1 : Int)) (h := za2 (z7v (α := Tr) (l := j1) rfl rfl rfl rfl rfl rfl)) ?_
 refine w_o (a := .b ((List.length j1 : Int) == 0)) ?_
 refine zu h (fun hc3 h => ?_) (fun hc3 h => ?_)
 refine zaq hc3 rfl ?_
 refine ze (zc ?_)
 refine zab ?_
 refine w_o (a := .b (x4.2 == 110)) ?_
 refine zab ?_
 exact za4 h
 refine zat hc3 rfl ?_
 refine ze ?_
 refine ze (zc ?_)
 refine zab ?_
 refine w_o (a := .b (x4.2 != 0)) ?_
 refine zu h (fun hc4 h => ?_) (fun hc4 h => ?_)
 refine zaq hc4 rfl ?_
 refine ze (zc ?_)
 refine w_o (a := .b false) ?_
 exact za4 h
 refine zat hc4 rfl ?_
 have hne1 : ¬ List.length (j1 : List Tr) = 0 := ne_of0 hc3
 rw [z5c hne1, z5w hne1]
 obtain ⟨g8, h⟩ := zh h
 obtain ⟨g9, h⟩ := zh h
 obtain ⟨g10, h⟩ := zh h
 obtain ⟨x5, hx5, h⟩ := zj h
 obtain ⟨g11, h⟩ := zh h
 refine z64 (id := 16) [.top, .top, .top, .top, .top, .top, .top, .list (List.length (j1 : List Tr)) (Enc.cellsL (j1 : List Tr)) (.own 0), .top, .top, .top, .ptr 0 0, .i x4.2, (zg1 1 (List.length (((([] : List Tr) ++ (sub j1 (1 : Int) (List.length j1 : Int))) ++ [x5]) : List Tr)) (Enc.cellsL (((([] : List Tr) ++ (sub j1 (1 : Int) (List.length j1 : Int))) ++ [x5]) : List Tr))), .top, .top, .top, .top, .top, .top, .top, .top, .top, .top, .top, .top, .top, .top, .top, .top, .top, .top, .top, .top, .top, .top, .top, .top, .top, .top, .tup [.agg (Enc.cells (x4.1 : Tr)), .i x4.2], .list (List.length (j1 : List Tr)) (Enc.cellsL (j1 : List Tr)) (.own 0), .agg (Enc.cells (x3 : Tr)), .tup [.agg (Enc.cells (x4.1 : Tr)), .i x4.2], .agg (Enc.cells (x4.1 : Tr)), .i x4.2, .list (List.length (j1 : List Tr)) (Enc.cellsL (j1 : List Tr)) (.own 0), .i (List.length j1 : Int), .b ((List.length j1 : Int) == 0), .top, .top, .i x4.2, .b (x4.2 != 0), .list (List.length (([] : List Tr) : List Tr)) (Enc.cellsL (([] : List Tr) : List Tr)) .full, .list (List.length (j1 : List Tr)) (Enc.cellsL (j1 : List Tr)) .none, .list (List.length ((sub j1 (1 : Int) (List.length j1 : Int)) : List Tr)) (Enc.cellsL ((sub j1 (1 : Int) (List.length j1 : Int)) : List Tr)) .none, (zg1 1 (List.length ((([] : List Tr) ++ (sub j1 (1 : Int) (List.length j1 : Int))) : List Tr)) (Enc.cellsL ((([] : List Tr) ++ (sub j1 (1 : Int) (List.length j1 : Int))) : List Tr))), .list (List.length (j1 : List Tr)) (Enc.cellsL (j1 : List Tr)) .none, .iptr (Enc.cells x5 ++ Enc.cellsL (List.drop (Int.toNat (0 : Int) + 1) j1)), .agg (Enc.cells (x5 : Tr)), .list (List.length ([x5] : List Tr)) (Enc.cellsL ([x5] : List Tr)) .full, (zg1 1 (List.length (((([] : List Tr) ++ (sub j1 (1 : Int) (List.length j1 : Int))) ++ [x5]) : List Tr)) (Enc.cellsL (((([] : List Tr) ++ (sub j1 (1 : Int) (List.length j1 : Int))) ++ [x5]) : List Tr))), .top, .top, .top, .top, .top, .top, .top, .top, .top, .top, .top, .top, .top, .top, .top, .top, .top, .top, .top, .top, .top, .top, .top, .top, .top, .top, .top, .top, .top, .top, .top, .top, .top, .top, .top, .top, .top, .top, .top, .top, .top, .top, .top] (zgy [(30, (Enc.cells (x4.1 : Tr)))] [List.length (j1 : List Tr) * 8] [30] 30 (List.length (((([] : List Tr) ++ (sub j1 (1 : Int) (List.length j1 : Int))) ++ [x5]) : List Tr)) 8) ?_ ?_
 refine z0g (fun ops hops FIN hFIN S0 hS0 => ?_)
 let v53 : AV := .list (List.length (([] : List Tr) : List Tr)) (Enc.cellsL (([] : List Tr) : List Tr)) .full
 let v58 : AV := .iptr (Enc.cells x5 ++ Enc.cellsL (List.drop (Int.toNat (0 : Int) + 1) j1))
 let v59 : AV := .agg (Enc.cells (x5 : Tr))
 let v56 : AV := (zg1 1 (List.length ((([] : List Tr) ++ (sub j1 (1 : Int) (List.length j1 : Int))) : List Tr)) (Enc.cellsL ((([] : List Tr) ++ (sub j1 (1 : Int) (List.length j1 : Int))) : List Tr)))
 let v60 : AV := .list (List.length ([x5] : List Tr)) (Enc.cellsL ([x5] : List Tr)) .full
 let v61 : AV := (zg1 1 (List.length (((([] : List Tr) ++ (sub j1 (1 : Int) (List.length j1 : Int))) ++ [x5]) : List Tr)) (Enc.cellsL (((([] : List Tr) ++ (sub j1 (1 : Int) (List.length j1 : Int))) ++ [x5]) : List Tr)))
 let G0 : St := ⟨[(30, (Enc.cells (x4.1 : Tr)))], [List.length (j1 : List Tr) * 8], [30], 0, false⟩
 let G1 : St := (zgy [(30, (Enc.cells (x4.1 : Tr)))] [List.length (j1 : List Tr) * 8] [30] 30 (List.length ((([] : List Tr) ++ (sub j1 (1 : Int) (List.length j1 : Int))) : List Tr)) 8)
 let G2 : St := (zgy [(30, (Enc.cells (x4.1 : Tr)))] [List.length (j1 : List Tr) * 8] [30] 30 (List.length (((([] : List Tr) ++ (sub j1 (1 : Int) (List.length j1 : Int))) ++ [x5]) : List Tr)) 8)
 obtain ⟨ps, hps⟩ : ∃ ps : List (Option (Nat × AV)), ps = [some (53, v53), some (54, .list (List.length (j1 : List Tr)) (Enc.cellsL (j1 : List Tr)) .none), some (55, .list (List.length ((sub j1 (1 : Int) (List.length j1 : Int)) : List Tr)) (Enc.cellsL ((sub j1 (1 : Int) (List.length j1 : Int)) : List Tr)) .none), some (56, v56), some (57, .list (List.length (j1 : List Tr)) (Enc.cellsL (j1 : List Tr)) .none), some (58, v58), some (59, v59), some (60, v60), some (61, v61), some (13, (zg1 1 (List.length (((([] : List Tr) ++ (sub j1 (1 : Int) (List.length j1 : Int))) ++ [x5]) : List Tr)) (Enc.cellsL (((([] : List Tr) ++ (sub j1 (1 : Int) (List.length j1 : Int))) ++ [x5]) : List Tr))))] := ⟨_, rfl⟩
 let N : Nat → Nat → St → Prop := fun k m σ => aN (ITP Try.prog) Try.prog none ops FIN S0 ps 10 k m σ
 have n36 : N 0 1023 G2 := by
  exact aN_0 hops hS0 hps (hFIN _ _ (Wk.refl _ _ _))
 have n35 : N 1 511 G2 := by
  refine z43 hops hS0 hps 9 ?_
  refine zab ?_
  exact zbe n36 hS0 hps
 have n34 : N 2 255 G1 := by
  refine z43 hops hS0 hps 8 ?_
  refine zii (a := v61) (σ'' := G2) rfl rfl rfl (zck rfl rfl rfl rfl (zd3 (α := Tr) (bs := [(30, (Enc.cells (x4.1 : Tr)))]) (pl := [List.length (j1 : List Tr) * 8]) (pe := [30]) (a := (([] : List Tr) ++ (sub j1 (1 : Int) (List.length j1 : Int)))) (b := [x5]) rfl rfl g11 rfl rfl rfl rfl rfl ⟨rfl, by decide⟩)) (by dsimp only [zn, List.set]) rfl ?_
  exact zbe n35 hS0 hps
 have n33 : N 3 247 G0 := by
  refine z43 hops hS0 hps 3 ?_
  refine zii (a := v56) (σ'' := G1) rfl rfl rfl (zck rfl rfl rfl rfl (zd3 (α := Tr) (bs := [(30, (Enc.cells (x4.1 : Tr)))]) (pl := [List.length (j1 : List Tr) * 8]) (pe := [30]) (a := ([] : List Tr)) (b := (sub j1 (1 : Int) (List.length j1 : Int))) rfl rfl g9 rfl rfl rfl rfl rfl ⟨rfl, by decide⟩)) (by dsimp only [zn, List.set]) rfl ?_
  exact zbe n34 hS0 hps
 have n32 : N 3 127 G1 := by
  refine z43 hops hS0 hps 7 ?_
  refine w_o (a := v60) (h := za2 (zcj (α := Tr) (l := [x5]) (cs := Enc.cells (x5 : Tr) ++ []) rfl (by rw [Enc.cons, Enc.nil]))) ?_
  exact zbe n34 hS0 hps
 have n31 : N 4 246 G0 := by
  refine z43 hops hS0 hps 0 ?_
  refine w_o (a := v53) (h := za2 (zcj (α := Tr) (l := []) (cs := []) rfl (by rw [Enc.nil]))) ?_
  exact zbe n33 hS0 hps
 have n30 : N 4 243 G0 := by
  refine z43 hops hS0 hps 2 ?_
  refine zcd (.list (List.length ((sub j1 (1 : Int) (List.length j1 : Int)) : List Tr)) (Enc.cellsL ((sub j1 (1 : Int) (List.length j1 : Int)) : List Tr)) .none) rfl rfl rfl (zf0 (α := Tr) (l := j1) g8 rfl rfl rfl rfl rfl) (zcz _ _ _) (by dsimp only [zn, List.set]) ?_
  exact zbe n33 hS0 hps
 have n29 : N 4 119 G0 := by
  refine zti hops hS0 hps 3 7 ?_ ?_
  refine zii (a := v56) (σ'' := G1) rfl rfl rfl (zck rfl rfl rfl rfl (zd3 (α := Tr) (bs := [(30, (Enc.cells (x4.1 : Tr)))]) (pl := [List.length (j1 : List Tr) * 8]) (pe := [30]) (a := ([] : List Tr)) (b := (sub j1 (1 : Int) (List.length j1 : Int))) rfl rfl g9 rfl rfl rfl rfl rfl ⟨rfl, by decide⟩)) (by dsimp only [zn, List.set]) rfl ?_
  exact zbe n32 hS0 hps
  refine w_o (a := v60) (h := za2 (zcj (α := Tr) (l := [x5]) (cs := Enc.cells (x5 : Tr) ++ []) rfl (by rw [Enc.cons, Enc.nil]))) ?_
  exact zbe n33 hS0 hps
 have n28 : N 4 63 G1 := by
  refine z43 hops hS0 hps 6 ?_
  refine w_o (a := v59) ?_
  exact zbe n32 hS0 hps
 have n27 : N 5 242 G0 := by
  refine zti hops hS0 hps 0 2 ?_ ?_
  refine w_o (a := v53) (h := za2 (zcj (α := Tr) (l := []) (cs := []) rfl (by rw [Enc.nil]))) ?_
  exact zbe n30 hS0 hps
  refine zcd (.list (List.length ((sub j1 (1 : Int) (List.length j1 : Int)) : List Tr)) (Enc.cellsL ((sub j1 (1 : Int) (List.length j1 : Int)) : List Tr)) .none) rfl rfl rfl (zf0 (α := Tr) (l := j1) g8 rfl rfl rfl rfl rfl) (zcz _ _ _) (by dsimp only [zn, List.set]) ?_
  exact zbe n31 hS0 hps
 have n26 : N 5 118 G0 := by
  refine zti hops hS0 hps 0 7 ?_ ?_
  refine w_o (a := v53) (h := za2 (zcj (α := Tr) (l := []) (cs := []) rfl (by rw [Enc.nil]))) ?_
  exact zbe n29 hS0 hps
  refine w_o (a := v60) (h := za2 (zcj (α := Tr) (l := [x5]) (cs := Enc.cells (x5 : Tr) ++ []) rfl (by rw [Enc.cons, Enc.nil]))) ?_
  exact zbe n31 hS0 hps
 have n25 : N 5 241 G0 := by
  refine z43 hops hS0 hps 1 ?_
  refine zcd (.list (List.length (j1 : List Tr)) (Enc.cellsL (j1 : List Tr)) .none) (a0 := .list (List.length (j1 : List Tr)) (Enc.cellsL (j1 : List Tr)) (.own 0)) rfl rfl rfl rfl (zb2 (Enc.cloL _)) (by dsimp only [zn, List.set]) ?_
  exact zbe n30 hS0 hps
 have n24 : N 5 115 G0 := by
  refine zti hops hS0 hps 2 7 ?_ ?_
  refine zcd (.list (List.length ((sub j1 (1 : Int) (List.length j1 : Int)) : List Tr)) (Enc.cellsL ((sub j1 (1 : Int) (List.length j1 : Int)) : List Tr)) .none) rfl rfl rfl (zf0 (α := Tr) (l := j1) g8 rfl rfl rfl rfl rfl) (zcz _ _ _) (by dsimp only [zn, List.set]) ?_
  exact zbe n29 hS0 hps
  refine w_o (a := v60) (h := za2 (zcj (α := Tr) (l := [x5]) (cs := Enc.cells (x5 : Tr) ++ []) rfl (by rw [Enc.cons, Enc.nil]))) ?_
  exact zbe n30 hS0 hps
 have n23 : N 5 55 G0 := by
  refine zti hops hS0 hps 3 6 ?_ ?_
  refine zii (a := v56) (σ'' := G1) rfl rfl rfl (zck rfl rfl rfl rfl (zd3 (α := Tr) (bs := [(30, (Enc.cells (x4.1 : Tr)))]) (pl := [List.length (j1 : List Tr) * 8]) (pe := [30]) (a := ([] : List Tr)) (b := (sub j1 (1 : Int) (List.length j1 : Int))) rfl rfl g9 rfl rfl rfl rfl rfl ⟨rfl, by decide⟩)) (by dsimp only [zn, List.set]) rfl ?_
  exact zbe n28 hS0 hps
  refine w_o (a := v59) ?_
  exact zbe n29 hS0 hps
 have n22 : N 5 31 G1 := by
  refine z43 hops hS0 hps 5 ?_
  refine w_o (a := v58) (h := za2 (by subst hx5; exact (zf7 (α := Tr) (l := j1) g10 rfl rfl rfl rfl rfl))) ?_
  exact zbe n28 hS0 hps
 have n21 : N 6 240 G0 := by
  refine zti hops hS0 hps 0 1 ?_ ?_
  refine w_o (a := v53) (h := za2 (zcj (α := Tr) (l := []) (cs := []) rfl (by rw [Enc.nil]))) ?_
  exact zbe n25 hS0 hps
  refine zcd (.list (List.length (j1 : List Tr)) (Enc.cellsL (j1 : List Tr)) .none) (a0 := .list (List.length (j1 : List Tr)) (Enc.cellsL (j1 : List Tr)) (.own 0)) rfl rfl rfl rfl (zb2 (Enc.cloL _)) (by dsimp only [zn, List.set]) ?_
  exact zbe n27 hS0 hps
 have n20 : N 6 114 G0 := by
  refine z7u hops hS0 hps 0 2 7 ?_ ?_ ?_
  refine w_o (a := v53) (h := za2 (zcj (α := Tr) (l := []) (cs := []) rfl (by rw [Enc.nil]))) ?_
  exact zbe n24 hS0 hps
  refine zcd (.list (List.length ((sub j1 (1 : Int) (List.length j1 : Int)) : List Tr)) (Enc.cellsL ((sub j1 (1 : Int) (List.length j1 : Int)) : List Tr)) .none) rfl rfl rfl (zf0 (α := Tr) (l := j1) g8 rfl rfl rfl rfl rfl) (zcz _ _ _) (by dsimp only [zn, List.set]) ?_
  exact zbe n26 hS0 hps
  refine w_o (a := v60) (h := za2 (zcj (α := Tr) (l := [x5]) (cs := Enc.cells (x5 : Tr) ++ []) rfl (by rw [Enc.cons, Enc.nil]))) ?_
  exact zbe n27 hS0 hps
 have n19 : N 6 54 G0 := by
  refine zti hops hS0 hps 0 6 ?_ ?_
  refine w_o (a := v53) (h := za2 (zcj (α := Tr) (l := []) (cs := []) rfl (by rw [Enc.nil]))) ?_
  exact zbe n23 hS0 hps
  refine w_o (a := v59) ?_
  exact zbe n26 hS0 hps
 have n18 : N 6 113 G0 := by
  refine zti hops hS0 hps 1 7 ?_ ?_
  refine zcd (.list (List.length (j1 : List Tr)) (Enc.cellsL (j1 : List Tr)) .none) (a0 := .list (List.length (j1 : List Tr)) (Enc.cellsL (j1 : List Tr)) (.own 0)) rfl rfl rfl rfl (zb2 (Enc.cloL _)) (by dsimp only [zn, List.set]) ?_
  exact zbe n24 hS0 hps
  refine w_o (a := v60) (h := za2 (zcj (α := Tr) (l := [x5]) (cs := Enc.cells (x5 : Tr) ++ []) rfl (by rw [Enc.cons, Enc.nil]))) ?_
  exact zbe n25 hS0 hps
 have n17 : N 6 51 G0 := by
  refine zti hops hS0 hps 2 6 ?_ ?_
  refine zcd (.list (List.length ((sub j1 (1 : Int) (List.length j1 : Int)) : List Tr)) (Enc.cellsL ((sub j1 (1 : Int) (List.length j1 : Int)) : List Tr)) .none) rfl rfl rfl (zf0 (α := Tr) (l := j1) g8 rfl rfl rfl rfl rfl) (zcz _ _ _) (by dsimp only [zn, List.set]) ?_
  exact zbe n23 hS0 hps
  refine w_o (a := v59) ?_
  exact zbe n24 hS0 hps
 have n16 : N 6 23 G0 := by
  refine zti hops hS0 hps 3 5 ?_ ?_
  refine zii (a := v56) (σ'' := G1) rfl rfl rfl (zck rfl rfl rfl rfl (zd3 (α := Tr) (bs := [(30, (Enc.cells (x4.1 : Tr)))]) (pl := [List.length (j1 : List Tr) * 8]) (pe := [30]) (a := ([] : List Tr)) (b := (sub j1 (1 : Int) (List.length j1 : Int))) rfl rfl g9 rfl rfl rfl rfl rfl ⟨rfl, by decide⟩)) (by dsimp only [zn, List.set]) rfl ?_
  exact zbe n22 hS0 hps
  refine w_o (a := v58) (h := za2 (by subst hx5; exact (zf7 (α := Tr) (l := j1) g10 rfl rfl rfl rfl rfl))) ?_
  exact zbe n23 hS0 hps
 have n15 : N 6 15 G1 := by
  refine z43 hops hS0 hps 4 ?_
  refine zcd (.list (List.length (j1 : List Tr)) (Enc.cellsL (j1 : List Tr)) .none) (a0 := .list (List.length (j1 : List Tr)) (Enc.cellsL (j1 : List Tr)) (.own 0)) rfl rfl rfl rfl (zb2 (Enc.cloL _)) (by dsimp only [zn, List.set]) ?_
  exact zbe n22 hS0 hps
 have n14 : N 7 112 G0 := by
  refine z7u hops hS0 hps 0 1 7 ?_ ?_ ?_
  refine w_o (a := v53) (h := za2 (zcj (α := Tr) (l := []) (cs := []) rfl (by rw [Enc.nil]))) ?_
  exact zbe n18 hS0 hps
  refine zcd (.list (List.length (j1 : List Tr)) (Enc.cellsL (j1 : List Tr)) .none) (a0 := .list (List.length (j1 : List Tr)) (Enc.cellsL (j1 : List Tr)) (.own 0)) rfl rfl rfl rfl (zb2 (Enc.cloL _)) (by dsimp only [zn, List.set]) ?_
  exact zbe n20 hS0 hps
  refine w_o (a := v60) (h := za2 (zcj (α := Tr) (l := [x5]) (cs := Enc.cells (x5 : Tr) ++ []) rfl (by rw [Enc.cons, Enc.nil]))) ?_
  exact zbe n21 hS0 hps
 have n13 : N 7 50 G0 := by
  refine z7u hops hS0 hps 0 2 6 ?_ ?_ ?_
  refine w_o (a := v53) (h := za2 (zcj (α := Tr) (l := []) (cs := []) rfl (by rw [Enc.nil]))) ?_
  exact zbe n17 hS0 hps
  refine zcd (.list (List.length ((sub j1 (1 : Int) (List.length j1 : Int)) : List Tr)) (Enc.cellsL ((sub j1 (1 : Int) (List.length j1 : Int)) : List Tr)) .none) rfl rfl rfl (zf0 (α := Tr) (l := j1) g8 rfl rfl rfl rfl rfl) (zcz _ _ _) (by dsimp only [zn, List.set]) ?_
  exact zbe n19 hS0 hps
  refine w_o (a := v59) ?_
  exact zbe n20 hS0 hps
 have n12 : N 7 22 G0 := by
  refine zti hops hS0 hps 0 5 ?_ ?_
  refine w_o (a := v53) (h := za2 (zcj (α := Tr) (l := []) (cs := []) rfl (by rw [Enc.nil]))) ?_
  exact zbe n16 hS0 hps
  refine w_o (a := v58) (h := za2 (by subst hx5; exact (zf7 (α := Tr) (l := j1) g10 rfl rfl rfl rfl rfl))) ?_
  exact zbe n19 hS0 hps
 have n11 : N 7 49 G0 := by
  refine zti hops hS0 hps 1 6 ?_ ?_
  refine zcd (.list (List.length (j1 : List Tr)) (Enc.cellsL (j1 : List Tr)) .none) (a0 := .list (List.length (j1 : List Tr)) (Enc.cellsL (j1 : List Tr)) (.own 0)) rfl rfl rfl rfl (zb2 (Enc.cloL _)) (by dsimp only [zn, List.set]) ?_
  exact zbe n17 hS0 hps
  refine w_o (a := v59) ?_
  exact zbe n18 hS0 hps
 have n10 : N 7 19 G0 := by
  refine zti hops hS0 hps 2 5 ?_ ?_
  refine zcd (.list (List.length ((sub j1 (1 : Int) (List.length j1 : Int)) : List Tr)) (Enc.cellsL ((sub j1 (1 : Int) (List.length j1 : Int)) : List Tr)) .none) rfl rfl rfl (zf0 (α := Tr) (l := j1) g8 rfl rfl rfl rfl rfl) (zcz _ _ _) (by dsimp only [zn, List.set]) ?_
  exact zbe n16 hS0 hps
  refine w_o (a := v58) (h := za2 (by subst hx5; exact (zf7 (α := Tr) (l := j1) g10 rfl rfl rfl rfl rfl))) ?_
  exact zbe n17 hS0 hps
 have n9 : N 7 7 G0 := by
  refine zti hops hS0 hps 3 4 ?_ ?_
  refine zii (a := v56) (σ'' := G1) rfl rfl rfl (zck rfl rfl rfl rfl (zd3 (α := Tr) (bs := [(30, (Enc.cells (x4.1 : Tr)))]) (pl := [List.length (j1 : List Tr) * 8]) (pe := [30]) (a := ([] : List Tr)) (b := (sub j1 (1 : Int) (List.length j1 : Int))) rfl rfl g9 rfl rfl rfl rfl rfl ⟨rfl, by decide⟩)) (by dsimp only [zn, List.set]) rfl ?_
  exact zbe n15 hS0 hps
  refine zcd (.list (List.length (j1 : List Tr)) (Enc.cellsL (j1 : List Tr)) .none) (a0 := .list (List.length (j1 : List Tr)) (Enc.cellsL (j1 : List Tr)) (.own 0)) rfl rfl rfl rfl (zb2 (Enc.cloL _)) (by dsimp only [zn, List.set]) ?_
  exact zbe n16 hS0 hps
 have n8 : N 8 48 G0 := by
  refine z7u hops hS0 hps 0 1 6 ?_ ?_ ?_
  refine w_o (a := v53) (h := za2 (zcj (α := Tr) (l := []) (cs := []) rfl (by rw [Enc.nil]))) ?_
  exact zbe n11 hS0 hps
  refine zcd (.list (List.length (j1 : List Tr)) (Enc.cellsL (j1 : List Tr)) .none) (a0 := .list (List.length (j1 : List Tr)) (Enc.cellsL (j1 : List Tr)) (.own 0)) rfl rfl rfl rfl (zb2 (Enc.cloL _)) (by dsimp only [zn, List.set]) ?_
  exact zbe n13 hS0 hps
  refine w_o (a := v59) ?_
  exact zbe n14 hS0 hps
 have n7 : N 8 18 G0 := by
  refine z7u hops hS0 hps 0 2 5 ?_ ?_ ?_
  refine w_o (a := v53) (h := za2 (zcj (α := Tr) (l := []) (cs := []) rfl (by rw [Enc.nil]))) ?_
  exact zbe n10 hS0 hps
  refine zcd (.list (List.length ((sub j1 (1 : Int) (List.length j1 : Int)) : List Tr)) (Enc.cellsL ((sub j1 (1 : Int) (List.length j1 : Int)) : List Tr)) .none) rfl rfl rfl (zf0 (α := Tr) (l := j1) g8 rfl rfl rfl rfl rfl) (zcz _ _ _) (by dsimp only [zn, List.set]) ?_
  exact zbe n12 hS0 hps
  refine w_o (a := v58) (h := za2 (by subst hx5; exact (zf7 (α := Tr) (l := j1) g10 rfl rfl rfl rfl rfl))) ?_
  exact zbe n13 hS0 hps
 have n6 : N 8 6 G0 := by
  refine zti hops hS0 hps 0 4 ?_ ?_
  refine w_o (a := v53) (h := za2 (zcj (α := Tr) (l := []) (cs := []) rfl (by rw [Enc.nil]))) ?_
  exact zbe n9 hS0 hps
  refine zcd (.list (List.length (j1 : List Tr)) (Enc.cellsL (j1 : List Tr)) .none) (a0 := .list (List.length (j1 : List Tr)) (Enc.cellsL (j1 : List Tr)) (.own 0)) rfl rfl rfl rfl (zb2 (Enc.cloL _)) (by dsimp only [zn, List.set]) ?_
  exact zbe n12 hS0 hps
 have n5 : N 8 17 G0 := by
  refine zti hops hS0 hps 1 5 ?_ ?_
  refine zcd (.list (List.length (j1 : List Tr)) (Enc.cellsL (j1 : List Tr)) .none) (a0 := .list (List.length (j1 : List Tr)) (Enc.cellsL (j1 : List Tr)) (.own 0)) rfl rfl rfl rfl (zb2 (Enc.cloL _)) (by dsimp only [zn, List.set]) ?_
  exact zbe n10 hS0 hps
  refine w_o (a := v58) (h := za2 (by subst hx5; exact (zf7 (α := Tr) (l := j1) g10 rfl rfl rfl rfl rfl))) ?_
  exact zbe n11 hS0 hps
 have n4 : N 8 3 G0 := by
  refine zti hops hS0 hps 2 4 ?_ ?_
  refine zcd (.list (List.length ((sub j1 (1 : Int) (List.length j1 : Int)) : List Tr)) (Enc.cellsL ((sub j1 (1 : Int) (List.length j1 : Int)) : List Tr)) .none) rfl rfl rfl (zf0 (α := Tr) (l := j1) g8 rfl rfl rfl rfl rfl) (zcz _ _ _) (by dsimp only [zn, List.set]) ?_
  exact zbe n9 hS0 hps
  refine zcd (.list (List.length (j1 : List Tr)) (Enc.cellsL (j1 : List Tr)) .none) (a0 := .list (List.length (j1 : List Tr)) (Enc.cellsL (j1 : List Tr)) (.own 0)) rfl rfl rfl rfl (zb2 (Enc.cloL _)) (by dsimp only [zn, List.set]) ?_
  exact zbe n10 hS0 hps
 have n3 : N 9 16 G0 := by
  refine z7u hops hS0 hps 0 1 5 ?_ ?_ ?_
  refine w_o (a := v53) (h := za2 (zcj (α := Tr) (l := []) (cs := []) rfl (by rw [Enc.nil]))) ?_
  exact zbe n5 hS0 hps
  refine zcd (.list (List.length (j1 : List Tr)) (Enc.cellsL (j1 : List Tr)) .none) (a0 := .list (List.length (j1 : List Tr)) (Enc.cellsL (j1 : List Tr)) (.own 0)) rfl rfl rfl rfl (zb2 (Enc.cloL _)) (by dsimp only [zn, List.set]) ?_
  exact zbe n7 hS0 hps
  refine w_o (a := v58) (h := za2 (by subst hx5; exact (zf7 (α := Tr) (l := j1) g10 rfl rfl rfl rfl rfl))) ?_
  exact zbe n8 hS0 hps
 have n2 : N 9 2 G0 := by
  refine z7u hops hS0 hps 0 2 4 ?_ ?_ ?_
  refine w_o (a := v53) (h := za2 (zcj (α := Tr) (l := []) (cs := []) rfl (by rw [Enc.nil]))) ?_
  exact zbe n4 hS0 hps
  refine zcd (.list (List.length ((sub j1 (1 : Int) (List.length j1 : Int)) : List Tr)) (Enc.cellsL ((sub j1 (1 : Int) (List.length j1 : Int)) : List Tr)) .none) rfl rfl rfl (zf0 (α := Tr) (l := j1) g8 rfl rfl rfl rfl rfl) (zcz _ _ _) (by dsimp only [zn, List.set]) ?_
  exact zbe n6 hS0 hps
  refine zcd (.list (List.length (j1 : List Tr)) (Enc.cellsL (j1 : List Tr)) .none) (a0 := .list (List.length (j1 : List Tr)) (Enc.cellsL (j1 : List Tr)) (.own 0)) rfl rfl rfl rfl (zb2 (Enc.cloL _)) (by dsimp only [zn, List.set]) ?_
  exact zbe n7 hS0 hps
 have n1 : N 9 1 G0 := by
  refine zti hops hS0 hps 1 4 ?_ ?_
  refine zcd (.list (List.length (j1 : List Tr)) (Enc.cellsL (j1 : List Tr)) .none) (a0 := .list (List.length (j1 : List Tr)) (Enc.cellsL (j1 : List Tr)) (.own 0)) rfl rfl rfl rfl (zb2 (Enc.cloL _)) (by dsimp only [zn, List.set]) ?_
  exact zbe n4 hS0 hps
  refine zcd (.list (List.length (j1 : List Tr)) (Enc.cellsL (j1 : List Tr)) .none) (a0 := .list (List.length (j1 : List Tr)) (Enc.cellsL (j1 : List Tr)) (.own 0)) rfl rfl rfl rfl (zb2 (Enc.cloL _)) (by dsimp only [zn, List.set]) ?_
  exact zbe n5 hS0 hps
 have n0 : N 10 0 G0 := by
  refine z7u hops hS0 hps 0 1 4 ?_ ?_ ?_
  refine w_o (a := v53) (h := za2 (zcj (α := Tr) (l := []) (cs := []) rfl (by rw [Enc.nil]))) ?_
  exact zbe n1 hS0 hps
  refine zcd (.list (List.length (j1 : List Tr)) (Enc.cellsL (j1 : List Tr)) .none) (a0 := .list (List.length (j1 : List Tr)) (Enc.cellsL (j1 : List Tr)) (.own 0)) rfl rfl rfl rfl (zb2 (Enc.cloL _)) (by dsimp only [zn, List.set]) ?_
  exact zbe n2 hS0 hps
  refine zcd (.list (List.length (j1 : List Tr)) (Enc.cellsL (j1 : List Tr)) .none) (a0 := .list (List.length (j1 : List Tr)) (Enc.cellsL (j1 : List Tr)) (.own 0)) rfl rfl rfl rfl (zb2 (Enc.cloL _)) (by dsimp only [zn, List.set]) ?_
  exact zbe n3 hS0 hps
 exact z68 n0 hps
 have hne2 : ¬ List.length (((([] : List Tr) ++ (sub j1 (1 : Int) (List.length j1 : Int))) ++ [x5]) : List Tr) = 0 := by simp only [List.length_append, List.length_cons]; omega
 rw [zry hne2, zkn hne2]
 refine ze (zc ?_)
 refine w_o (a := .list (List.length (([] : List Tr) : List Tr)) (Enc.cellsL (([] : List Tr) : List Tr)) .full) (h := za2 (zcj (α := Tr) (l := []) (cs := []) rfl (by rw [Enc.nil]))) ?_
 refine zcd (.list (List.length (((([] : List Tr) ++ (sub j1 (1 : Int) (List.length j1 : Int))) ++ [x5]) : List Tr)) (Enc.cellsL (((([] : List Tr) ++ (sub j1 (1 : Int) (List.length j1 : Int))) ++ [x5]) : List Tr)) .none) (a0 := .list (List.length (((([] : List Tr) ++ (sub j1 (1 : Int) (List.length j1 : Int))) ++ [x5]) : List Tr)) (Enc.cellsL (((([] : List Tr) ++ (sub j1 (1 : Int) (List.length j1 : Int))) ++ [x5]) : List Tr)) (.own 1)) rfl rfl rfl rfl (zb2 (Enc.cloL _)) (by dsimp only [zn, List.set]) ?_
 obtain ⟨g12, h⟩ := zh h
 refine zii (a := (zg1 2 (List.length ((([] : List Tr) ++ ((([] : List Tr) ++ (sub j1 (1 : Int) (List.length j1 : Int))) ++ [x5])) : List Tr)) (Enc.cellsL ((([] : List Tr) ++ ((([] : List Tr) ++ (sub j1 (1 : Int) (List.length j1 : Int))) ++ [x5])) : List Tr)))) (σ'' := (zgy [(30, (Enc.cells (x4.1 : Tr)))] [List.length (j1 : List Tr) * 8, List.length (((([] : List Tr) ++ (sub j1 (1 : Int) (List.length j1 : Int))) ++ [x5]) : List Tr) * 8] [30, 30] 30 (List.length ((([] : List Tr) ++ ((([] : List Tr) ++ (sub j1 (1 : Int) (List.length j1 : Int))) ++ [x5])) : List Tr)) 8)) rfl rfl rfl (zck rfl rfl rfl rfl (zd3 (α := Tr) (bs := [(30, (Enc.cells (x4.1 : Tr)))]) (pl := [List.length (j1 : List Tr) * 8, List.length (((([] : List Tr) ++ (sub j1 (1 : Int) (List.length j1 : Int))) ++ [x5]) : List Tr) * 8]) (pe := [30, 30]) (a := ([] : List Tr)) (b := ((([] : List Tr) ++ (sub j1 (1 : Int) (List.length j1 : Int))) ++ [x5])) rfl rfl g12 rfl rfl rfl rfl rfl ⟨rfl, by decide⟩)) (by dsimp only [zn, List.set]) rfl ?_
 refine zcd (.list (List.length (j1 : List Tr)) (Enc.cellsL (j1 : List Tr)) .none) (a0 := .list (List.length (j1 : List Tr)) (Enc.cellsL (j1 : List Tr)) (.own 0)) rfl rfl rfl rfl (zb2 (Enc.cloL _)) (by dsimp only [zn, List.set]) ?_
 obtain ⟨g13, h⟩ := zh h
 refine zii (a := (zg1 2 (List.length (((([] : List Tr) ++ ((([] : List Tr) ++ (sub j1 (1 : Int) (List.length j1 : Int))) ++ [x5])) ++ j1) : List Tr)) (Enc.cellsL (((([] : List Tr) ++ ((([] : List Tr) ++ (sub j1 (1 : Int) (List.length j1 : Int))) ++ [x5])) ++ j1) : List Tr)))) (σ'' := (zgy [(30, (Enc.cells (x4.1 : Tr)))] [List.length (j1 : List Tr) * 8, List.length (((([] : List Tr) ++ (sub j1 (1 : Int) (List.length j1 : Int))) ++ [x5]) : List Tr) * 8] [30, 30] 30 (List.length (((([] : List Tr) ++ ((([] : List Tr) ++ (sub j1 (1 : Int) (List.length j1 : Int))) ++ [x5])) ++ j1) : List Tr)) 8)) rfl rfl rfl (zck rfl rfl rfl rfl (zd3 (α := Tr) (bs := [(30, (Enc.cells (x4.1 : Tr)))]) (pl := [List.length (j1 : List Tr) * 8, List.length (((([] : List Tr) ++ (sub j1 (1 : Int) (List.length j1 : Int))) ++ [x5]) : List Tr) * 8]) (pe := [30, 30]) (a := (([] : List Tr) ++ ((([] : List Tr) ++ (sub j1 (1 : Int) (List.length j1 : Int))) ++ [x5]))) (b := j1) rfl rfl g13 rfl rfl rfl rfl rfl ⟨rfl, by decide⟩)) (by dsimp only [zn, List.set]) rfl ?_
 refine zab ?_
 refine za0 h [6, 7, 11, 12, 13, 14, 16, 17, 18, 40, 41, 42, 43, 44, 45, 46, 47, 48, 51, 52, 53, 54, 55, 56, 57, 58, 59, 60, 61, 62, 63, 64, 65, 66, 67, 68, 69, 70, 71, 72, 73, 74, 75, 76, 77, 78, 79, 80, 81, 82, 83, 84, 85, 86, 87, 88, 89] (fun j3 => []) (fun j3 => (zgy [(30, (Enc.cells (x4.1 : Tr)))] [List.length (j1 : List Tr) * 8, List.length (((([] : List Tr) ++ (sub j1 (1 : Int) (List.length j1 : Int))) ++ [x5]) : List Tr) * 8] [30, 30] 30 (List.length (((([] : List Tr) ++ ((([] : List Tr) ++ (sub j1 (1 : Int) (List.length j1 : Int))) ++ [x5])) ++ j1) : List Tr)) 8)) ?_ ?_
 intro or3 h hr3
 have hne3 : ¬ List.length (((([] : List Tr) ++ ((([] : List Tr) ++ (sub j1 (1 : Int) (List.length j1 : Int))) ++ [x5])) ++ j1) : List Tr) = 0 := by simp only [List.length_append, List.length_cons]; omega
 rw [zry hne3, zkn hne3]
 refine ze (zc ?_)
 refine zcd (.list (List.length (((([] : List Tr) ++ (sub j1 (1 : Int) (List.length j1 : Int))) ++ [x5]) : List Tr)) (Enc.cellsL (((([] : List Tr) ++ (sub j1 (1 : Int) (List.length j1 : Int))) ++ [x5]) : List Tr)) .none) (a0 := .list (List.length (((([] : List Tr) ++ (sub j1 (1 : Int) (List.length j1 : Int))) ++ [x5]) : List Tr)) (Enc.cellsL (((([] : List Tr) ++ (sub j1 (1 : Int) (List.length j1 : Int))) ++ [x5]) : List Tr)) (.own 1)) rfl rfl rfl rfl (zb2 (Enc.cloL _)) (by dsimp only [zn, List.set]) ?_
 refine zcd (.list (List.length (((([] : List Tr) ++ ((([] : List Tr) ++ (sub j1 (1 : Int) (List.length j1 : Int))) ++ [x5])) ++ j1) : List Tr)) (Enc.cellsL (((([] : List Tr) ++ ((([] : List Tr) ++ (sub j1 (1 : Int) (List.length j1 : Int))) ++ [x5])) ++ j1) : List Tr)) .none) (a0 := .list (List.length (((([] : List Tr) ++ ((([] : List Tr) ++ (sub j1 (1 : Int) (List.length j1 : Int))) ++ [x5])) ++ j1) : List Tr)) (Enc.cellsL (((([] : List Tr) ++ ((([] : List Tr) ++ (sub j1 (1 : Int) (List.length j1 : Int))) ++ [x5])) ++ j1) : List Tr)) (.own 2)) rfl rfl rfl rfl (zb2 (Enc.cloL _)) (by dsimp only [zn, List.set]) ?_
 refine w_o (a := .list (List.length ([((([] : List Tr) ++ (sub j1 (1 : Int) (List.length j1 : Int))) ++ [x5]), ((([] : List Tr) ++ ((([] : List Tr) ++ (sub j1 (1 : Int) (List.length j1 : Int))) ++ [x5])) ++ j1)] : List (List Tr))) (Enc.cellsL ([((([] : List Tr) ++ (sub j1 (1 : Int) (List.length j1 : Int))) ++ [x5]), ((([] : List Tr) ++ ((([] : List Tr) ++ (sub j1 (1 : Int) (List.length j1 : Int))) ++ [x5])) ++ j1)] : List (List Tr))) .full) (h := za2 (zcj (α := (List Tr)) (l := [((([] : List Tr) ++ (sub j1 (1 : Int) (List.length j1 : Int))) ++ [x5]), ((([] : List Tr) ++ ((([] : List Tr) ++ (sub j1 (1 : Int) (List.length j1 : Int))) ++ [x5])) ++ j1)]) (cs := Enc.cells (((([] : List Tr) ++ (sub j1 (1 : Int) (List.length j1 : Int))) ++ [x5]) : (List Tr)) ++ (Enc.cells (((([] : List Tr) ++ ((([] : List Tr) ++ (sub j1 (1 : Int) (List.length j1 : Int))) ++ [x5])) ++ j1) : (List Tr)) ++ [])) rfl (by rw [Enc.cons, Enc.cons, Enc.nil]))) ?_
 refine w_o (a := .i (List.length [((([] : List Tr) ++ (sub j1 (1 : Int) (List.length j1 : Int))) ++ [x5]), ((([] : List Tr) ++ ((([] : List Tr) ++ (sub j1 (1 : Int) (List.length j1 : Int))) ++ [x5])) ++ j1)] : Int)) ?_
 refine w_o (a := .i 0) ?_
 refine zr ?_
 refine zcf h [6, 7, 12, 13, 14, 16, 17, 18, 40, 41, 42, 43, 44, 45, 46, 47, 48, 51, 52, 53, 54, 55, 56, 57, 58, 59, 60, 61, 62, 63, 64, 65, 66, 67, 68, 71, 72, 73, 74, 75, 76, 77, 78, 79, 80, 81, 82, 83, 84, 85, 86, 87, 88, 89] (fun s2 => [(71, .i s2)]) (fun s2 => ⟨[(30, (Enc.cells (x4.1 : Tr)))], [List.length (j1 : List Tr) * 8, List.length (((([] : List Tr) ++ (sub j1 (1 : Int) (List.length j1 : Int))) ++ [x5]) : List Tr) * 8, List.length (((([] : List Tr) ++ ((([] : List Tr) ++ (sub j1 (1 : Int) (List.length j1 : Int))) ++ [x5])) ++ j1) : List Tr) * 8], [30, 30, 30], 0, false⟩) ?_ ?_
 exact zco (bl 105 40563581271396127830079914413887) (by kernel_rfl) (by kernel_rfl)
 intro s2 p2 h
 refine zam (by dsimp only [zz, zad, List.foldl, List.set]) rfl ?_
 refine ze (zc ?_)
 refine w_o (a := .b (decide (s2 < (List.length [((([] : List Tr) ++ (sub j1 (1 : Int) (List.length j1 : Int))) ++ [x5]), ((([] : List Tr) ++ ((([] : List Tr) ++ (sub j1 (1 : Int) (List.length j1 : Int))) ++ [x5])) ++ j1)] : Int)))) ?_
 refine ze ?_
 refine zu h (fun hc5 h => ?_) (fun hc5 h => ?_)
 refine zaq hc5 rfl ?_
 refine ze ?_
 refine zr ?_
 refine ze (zc ?_)
 obtain ⟨g14, h⟩ := zh h
 obtain ⟨x6, hx6, h⟩ := zj h
 refine w_o (a := .iptr (Enc.cells x6 ++ Enc.cellsL (List.drop (Int.toNat s2 + 1) [((([] : List Tr) ++ (sub j1 (1 : Int) (List.length j1 : Int))) ++ [x5]), ((([] : List Tr) ++ ((([] : List Tr) ++ (sub j1 (1 : Int) (List.length j1 : Int))) ++ [x5])) ++ j1)]))) (h := za2 (by rw [← hx6]; exact (zf7 (α := (List Tr)) (l := [((([] : List Tr) ++ (sub j1 (1 : Int) (List.length j1 : Int))) ++ [x5]), ((([] : List Tr) ++ ((([] : List Tr) ++ (sub j1 (1 : Int) (List.length j1 : Int))) ++ [x5])) ++ j1)]) g14 rfl rfl rfl rfl rfl))) ?_
 refine w_o (a := .list (List.length (x6 : List Tr)) (Enc.cellsL (x6 : List Tr)) .none) ?_
 refine zab ?_
 refine ze (zc ?_)
 refine zab ?_
 obtain ⟨g15, h⟩ := zh h
 obtain ⟨x7, hx7, h⟩ := zj h
 refine za1 (args' := [.list (List.length (x6 : List Tr)) (Enc.cellsL (x6 : List Tr)) .none]) (r := .agg (Enc.cells (x7 : Tr))) (by rw [← hx7]; exact (k_or x6 g15)) rfl rfl (zf (zds (Enc.cloL _)) rfl) (zb (zah (Enc.cloL _)) rfl) (by dsimp only [zn, List.set]) ?_
 obtain ⟨g16, h⟩ := zh h
 obtain ⟨x8, hx8, h⟩ := zj h
 refine za1 (args' := [.agg (Enc.cells (x7 : Tr))]) (r := .tup [.agg (Enc.cells (x8.1 : Tr)), .i x8.2]) (by rw [← hx8]; exact (zs8 x7 g16)) rfl rfl (zf (zaf (zl (Enc.clo _))) rfl) (zb (zm _ _ (zl (Enc.clo _))) rfl) (by dsimp only [zn, List.set]) ?_
 refine zab ?_
 refine w_ex ?_
 refine w_ex ?_
 refine zbc (a := .ptr 1 0) (σ'' := ⟨[(30, (Enc.cells (x4.1 : Tr))), (30, [.u 0, .raw (.int .u64 0), .raw (.int .u64 0), .raw (.int .u64 0), .raw (.int .u64 0), .i 0, .i 0, .list 0 [] .full])], [List.length (j1 : List Tr) * 8, List.length (((([] : List Tr) ++ (sub j1 (1 : Int) (List.length j1 : Int))) ++ [x5]) : List Tr) * 8, List.length (((([] : List Tr) ++ ((([] : List Tr) ++ (sub j1 (1 : Int) (List.length j1 : Int))) ++ [x5])) ++ j1) : List Tr) * 8], [30, 30, 30], 0, false⟩) ?_
 refine zbc (σ'' := ⟨[(30, (Enc.cells (x4.1 : Tr))), (30, (Enc.cells (x8.1 : Tr)))], [List.length (j1 : List Tr) * 8, List.length (((([] : List Tr) ++ (sub j1 (1 : Int) (List.length j1 : Int))) ++ [x5]) : List Tr) * 8, List.length (((([] : List Tr) ++ ((([] : List Tr) ++ (sub j1 (1 : Int) (List.length j1 : Int))) ++ [x5])) ++ j1) : List Tr) * 8], [30, 30, 30], 0, false⟩) (h := zar (n := 8) rfl rfl rfl rfl rfl rfl rfl rfl (by decide)) ?_
 refine zab ?_
 refine ze (zc ?_)
 refine zab ?_
 refine w_o (a := .b (x8.2 != 0)) ?_
 refine zu h (fun hc6 h => ?_) (fun hc6 h => ?_)
 refine w_o (a := .b true) (h := za2 (zbg rfl hc6)) ?_
 refine zdw ?_
 refine zdw ?_
 refine zdw ?_
 refine zdw ?_
 refine w_o (a := .b true) ?_
 refine zbo rfl ?_
 refine ze (zc ?_)
 refine w_o (a := .b false) ?_
 refine zae h (fun h => ?_)
 replace h := zp h hr3
 exact za4 h
 refine w_o (a := .b false) (h := za2 (zbg rfl hc6)) ?_
 refine zac rfl rfl ?_
 refine w_o (a := .agg (Enc.cells (x8.1 : Tr))) ?_
 refine zac rfl rfl ?_
 refine w_o (a := .agg (Enc.cells (x4.1 : Tr))) ?_
 refine zac rfl rfl ?_
 obtain ⟨g17, h⟩ := zh h
 obtain ⟨x9, hx9, h⟩ := zj h
 refine za1 (args' := [.agg (Enc.cells (x8.1 : Tr)), .agg (Enc.cells (x4.1 : Tr))]) (r := .b x9) (by rw [← hx9]; exact (zmo x8.1 x4.1 g17)) rfl rfl (zf (zaf (zl (Enc.clo _))) (zf (zaf (zl (Enc.clo _))) rfl)) (zb (zm _ _ (zl (Enc.clo _))) (zb (zm _ _ (zl (Enc.clo _))) rfl)) (by dsimp only [zn, List.set]) ?_
 refine zac rfl rfl ?_
 refine w_o (a := .b (!x9)) ?_
 refine w_o (a := .b (!x9)) ?_
 refine zu h (fun hc7 h => ?_) (fun hc7 h => ?_)
 refine zaq hc7 rfl ?_
 refine ze (zc ?_)
 refine w_o (a := .b false) ?_
 refine zae h (fun h => ?_)
 replace h := zp h hr3
 exact za4 h
 refine zat hc7 rfl ?_
 refine zc (k0 := 0) (id := 24) ?_
 obtain ⟨g18, h⟩ := zh h
 refine w_o (a := .i (s2 + 1)) (h := za2 (zgv rfl rfl rfl rfl g18.1 g18.2)) ?_
 refine zab ?_
 refine zbb (p := p2) ((s2 + 1)) h ?_
 exact zb3 (bl 105 40563581271396127830079914413887) 1 (by kernel_rfl) (Nat.le_of_ble_eq_true rfl) (zba (zv (zo _ _ (Enc.clo _)) rfl)) (by dsimp only [zz, zad, List.foldl, List.set]; exact (zb rfl (zb rfl (zb rfl (zb rfl (zb rfl (zb rfl (zb rfl (zb rfl (zb rfl (zb rfl (zb rfl (zb (by decide) (zb rfl (zb rfl (zb rfl (zb rfl (zb rfl (zb rfl (zb rfl (zb rfl (zb rfl (zb rfl (zb rfl (zb rfl (zb rfl (zb rfl (zb rfl (zb rfl (zb rfl (zb rfl (zb rfl (zb rfl (zb rfl (zb rfl (zb rfl (zb rfl (zb rfl (zb rfl (zb rfl (zb rfl (zb rfl (zb rfl (zb rfl (zb rfl (zb rfl (zb rfl (zb rfl (zb rfl (zb rfl (zb rfl (zb rfl (zb rfl (zb rfl (zb rfl (zb rfl (zb rfl (zb rfl (zb rfl (zb rfl (zb rfl (zb rfl (zb rfl (zb rfl (zb rfl (zb rfl (zb rfl (zb rfl (zb rfl (zb rfl (zb (zah (Enc.cloL _)) (by kernel_rfl)))))))))))))))))))))))))))))))))))))))))))))))))))))))))))))))))))))))) (by kernel_rfl)
 refine zat hc5 rfl ?_
 refine zae h (fun h => ?_)
 refine zg (o := or3) () h ?_
 exact zco (bl 105 40563581267264057157568974849855) (by kernel_rfl) (by kernel_rfl)
 intro j3 h
 refine zam (by dsimp only [zz, zad, List.foldl, List.set]) rfl ?_
 refine ze (zc ?_)
 obtain ⟨g19, h⟩ := zh h
 obtain ⟨x10, hx10, h⟩ := zj h
 refine za1 (args' := [.s ([97] : List UInt8)]) (r := .agg (Enc.cells (x10 : Tr))) (by rw [← hx10]; exact (zo0 ([97] : List UInt8) g19)) rfl rfl (zf rfl rfl) (by kernel_rfl) (by dsimp only [zn, List.set]) ?_
 obtain ⟨g20, h⟩ := zh h
 obtain ⟨x11, hx11, h⟩ := zj h
 refine za1 (args' := [.s ([98] : List UInt8)]) (r := .agg (Enc.cells (x11 : Tr))) (by rw [← hx11]; exact (zo0 ([98] : List UInt8) g20)) rfl rfl (zf rfl rfl) (by kernel_rfl) (by dsimp only [zn, List.set]) ?_
 refine w_o (a := .list (List.length ([x10, x11] : List Tr)) (Enc.cellsL ([x10, x11] : List Tr)) .full) (h := za2 (zcj (α := Tr) (l := [x10, x11]) (cs := Enc.cells (x10 : Tr) ++ (Enc.cells (x11 : Tr) ++ [])) rfl (by rw [Enc.cons, Enc.cons, Enc.nil]))) ?_
 obtain ⟨g21, h⟩ := zh h
 obtain ⟨x12, hx12, h⟩ := zj h
 refine za1 (args' := [.list (List.length ([x10, x11] : List Tr)) (Enc.cellsL ([x10, x11] : List Tr)) .none]) (r := .agg (Enc.cells (x12 : Tr))) (by rw [← hx12]; exact (k_or [x10, x11] g21)) rfl rfl (zf (zds (Enc.cloL _)) rfl) (zb (zah (Enc.cloL _)) rfl) (by dsimp only [zn, List.set]) ?_
 obtain ⟨g22, h⟩ := zh h
 obtain ⟨x13, hx13, h⟩ := zj h
 refine za1 (args' := [.agg (Enc.cells (x12 : Tr))]) (r := .tup [.agg (Enc.cells (x13.1 : Tr)), .i x13.2]) (by rw [← hx13]; exact (zs8 x12 g22)) rfl rfl (zf (zaf (zl (Enc.clo _))) rfl) (zb (zm _ _ (zl (Enc.clo _))) rfl) (by dsimp only [zn, List.set]) ?_
 refine zab ?_
 refine w_ex ?_
 refine w_ex ?_
 refine zbc (a := .ptr 1 0) (σ'' := (zgy [(30, (Enc.cells (x4.1 : Tr))), (30, [.u 0, .raw (.int .u64 0), .raw (.int .u64 0), .raw (.int .u64 0), .raw (.int .u64 0), .i 0, .i 0, .list 0 [] .full])] [List.length (j1 : List Tr) * 8, List.length (((([] : List Tr) ++ (sub j1 (1 : Int) (List.length j1 : Int))) ++ [x5]) : List Tr) * 8] [30, 30] 30 (List.length (((([] : List Tr) ++ ((([] : List Tr) ++ (sub j1 (1 : Int) (List.length j1 : Int))) ++ [x5])) ++ j1) : List Tr)) 8)) ?_
 refine zbc (σ'' := (zgy [(30, (Enc.cells (x4.1 : Tr))), (30, (Enc.cells (x13.1 : Tr)))] [List.length (j1 : List Tr) * 8, List.length (((([] : List Tr) ++ (sub j1 (1 : Int) (List.length j1 : Int))) ++ [x5]) : List Tr) * 8] [30, 30] 30 (List.length (((([] : List Tr) ++ ((([] : List Tr) ++ (sub j1 (1 : Int) (List.length j1 : Int))) ++ [x5])) ++ j1) : List Tr)) 8)) (h := zar (n := 8) rfl rfl rfl rfl rfl rfl rfl rfl (by decide)) ?_
 refine zab ?_
 refine ze ?_
 refine zcw (k0 := 0) (id := 26) 5 (by kernel_rfl) (by kernel_rfl) ?_
 refine zgc ?_
 refine h_o (a := .b (x13.2 == 0)) ?_
 refine zu h (fun hc8 h => ?_) (fun hc8 h => ?_)
 refine h_o (a := .b true) (h := zbg rfl hc8) ?_
 refine zgi rfl rfl ?_
 refine h_o (a := .agg (Enc.cells (x13.1 : Tr))) ?_
 refine zgi rfl rfl ?_
 obtain ⟨g23, h⟩ := zh h
 obtain ⟨x14, hx14, h⟩ := zj h
 refine zmz (args' := [.s ([97, 98] : List UInt8)]) (r := .agg (Enc.cells (x14 : Tr))) (by rw [← hx14]; exact (zo0 ([97, 98] : List UInt8) g23)) rfl rfl rfl (zf rfl rfl) (by kernel_rfl) (by dsimp only [zn, List.set]) ?_
 refine zdr ?_
 refine zac rfl rfl ?_
 obtain ⟨g24, h⟩ := zh h
 obtain ⟨x15, hx15, h⟩ := zj h
 refine za1 (args' := [.agg (Enc.cells (x13.1 : Tr)), .agg (Enc.cells (x14 : Tr))]) (r := .b x15) (by rw [← hx15]; exact (zmo x13.1 x14 g24)) rfl rfl (zf (zaf (zl (Enc.clo _))) (zf (zaf (zl (Enc.clo _))) rfl)) (zb (zm _ _ (zl (Enc.clo _))) (zb (zm _ _ (zl (Enc.clo _))) rfl)) (by dsimp only [zn, List.set]) ?_
 refine w_o (a := .b x15) ?_
 refine zab ?_
 exact za4 h
 refine h_o (a := .b false) (h := zbg rfl hc8) ?_
 refine zkb ?_
 refine zkb ?_
 refine zdr ?_
 refine zdw ?_
 refine w_o (a := .b false) ?_
 refine zab ?_
 exact za4 h
end Go.Ab
