/-
  rx: Copy, good, checked, flat, joined, Seq, Or, Times, Capture.
-/
import Derived.Test.YtmoncghgagmilaaZnV3
import Derived.Test.YtmoncghgagmilaaZdQr
set_option linter.unusedSimpArgs false
set_option linter.unusedVariables false
set_option maxRecDepth 100000
set_option maxHeartbeats 4000000
namespace Go.Ab
open Go Go.RowKit Go.Fwd Go.Proofs
def zyn (t : Tr) : Option Tr :=
 (chk ((pre t).length < 2 ^ 61) (zan (zcl t) (fun x1 => (bif (!x1) then (some noneT) else (chk ((pre t).length < 2 ^ 40) (zan t (fun x2 => (some x2))))))))
theorem ent27 : Ent Try.prog 27 := enters_of Try.func27 (by kernel_rfl) rfl
theorem copy_sh (t : Tr) (r : Tr) (h : zyn t = some r) : Pure (ITP Try.prog) Try.prog 27 [.A (t : Tr)] (.A (r : Tr)) := by
 unfold zyn at h
 refine zaw 8 mix Try.func27 ent27 ?_
 refine ze (zc ?_)
 refine zbc (a := .ptr 0 0) (σ'' := (.B [(30, (Enc.cells (t : Tr)))])) ?_
 refine zbc (a := .ptr 1 0) (σ'' := (.B [(30, (Enc.cells (t : Tr))), (30, [.u 0, .raw (.int .u64 0), .raw (.int .u64 0), .raw (.int .u64 0), .raw (.int .u64 0), .i 0, .i 0, .list 0 [] .full])])) ?_
 refine ze ?_
 refine zw [.v (.A (t : Tr))] ?_
 obtain ⟨g1, h⟩ := zh h
 obtain ⟨x1, hx1, h⟩ := zj h
 refine zbs (args' := [.A (t : Tr)]) (r := .b x1) (by rw [← hx1]; exact (zlv t g1)) ?_
 refine w_o (a := .b (!x1)) ?_
 refine zbu h (fun hc1 h => ?_) (fun hc1 h => ?_)
 refine ze (zc ?_)
 refine zcd (.A (noneT : Tr)) (a0 := (zbf noneT .full)) rfl rfl rfl (by kernel_rfl) (zi _ _) (by dsimp only [zn, List.set]) ?_
 refine zbk 8 (.B [(30, (Enc.cells (t : Tr))), (30, (Enc.cells (noneT : Tr)))]) ?_
 exact zal (fun (r : Tr) => .A (r : Tr)) h (.A (noneT : Tr))
 refine zw [.v (.A (t : Tr))] ?_
 obtain ⟨g2, h⟩ := zh h
 obtain ⟨x2, hx2, h⟩ := zj h
 refine zbs (args' := [.A (t : Tr)]) (r := .A (x2 : Tr)) (by rw [← hx2]; exact (zh2 t g2)) ?_
 refine zbk 8 (.B [(30, (Enc.cells (t : Tr))), (30, (Enc.cells (x2 : Tr)))]) ?_
 exact zal (fun (r : Tr) => .A (r : Tr)) h (.A (x2 : Tr))
def zkt (t : Tr) : Option Bool :=
 (chk ((pre t).length < 2 ^ 60 ∧ (pre noneT).length < 2 ^ 60) (zan (zim t noneT) (fun x1 => (bif x1 then (some true) else (chk ((pre t).length < 2 ^ 61) (zan (zbj t) (fun x2 => (some x2))))))))
theorem ent29 : Ent Try.prog 29 := enters_of Try.func29 (by kernel_rfl) rfl
theorem zo1 (t : Tr) (r : Bool) (h : zkt t = some r) : Pure (ITP Try.prog) Try.prog 29 [.A (t : Tr)] (.raw (.bool r)) := by
 unfold zkt at h
 refine zaw 9 mix Try.func29 ent29 ?_
 refine ze (zc ?_)
 refine zbc (a := .ptr 0 0) (σ'' := (.B [(30, (Enc.cells (t : Tr)))])) ?_
 refine w_o (a := .b false) ?_
 refine zw [.v (.A (t : Tr))] ?_
 refine zcd (.A (noneT : Tr)) (a0 := (zbf noneT .full)) rfl rfl rfl (by kernel_rfl) (zi _ _) (by dsimp only [zn, List.set]) ?_
 obtain ⟨g1, h⟩ := zh h
 obtain ⟨x1, hx1, h⟩ := zj h
 refine zbs (args' := [.A (t : Tr), .A (noneT : Tr)]) (r := .b x1) (by rw [← hx1]; exact (z1z t noneT g1)) ?_
 refine zu h (fun hc1 h => ?_) (fun hc1 h => ?_)
 refine zau hc1 ?_
 refine w_r [.p, .p, .v (.b true), .m _] ?_
 exact za4 h
 refine zau hc1 ?_
 refine zac rfl rfl ?_
 refine w_o (a := .A (t : Tr)) ?_
 refine zac rfl rfl ?_
 obtain ⟨g2, h⟩ := zh h
 obtain ⟨x2, hx2, h⟩ := zj h
 refine zbs (args' := [.A (t : Tr)]) (r := .b x2) (by rw [← hx2]; exact (zl7 t g2)) ?_
 refine w_r [.v (.b x2), .m _] ?_
 exact za4 h
def zdn (t : Tr) : Option Tr :=
 (chk ((pre t).length < 2 ^ 61) (zan (zbj t) (fun x1 => (bif (!x1) then (some noneT) else (chk ((pre t).length < 2 ^ 40) (zan t (fun x2 => (some x2))))))))
theorem ent34 : Ent Try.prog 34 := enters_of Try.func34 (by kernel_rfl) rfl
theorem zfj (t : Tr) (r : Tr) (h : zdn t = some r) : Pure (ITP Try.prog) Try.prog 34 [.A (t : Tr)] (.A (r : Tr)) := by
 unfold zdn at h
 refine zaw 8 mix Try.func34 ent34 ?_
 refine ze (zc ?_)
 refine zbc (a := .ptr 0 0) (σ'' := (.B [(30, (Enc.cells (t : Tr)))])) ?_
 refine zbc (a := .ptr 1 0) (σ'' := (.B [(30, (Enc.cells (t : Tr))), (30, [.u 0, .raw (.int .u64 0), .raw (.int .u64 0), .raw (.int .u64 0), .raw (.int .u64 0), .i 0, .i 0, .list 0 [] .full])])) ?_
 refine ze ?_
 refine zw [.v (.A (t : Tr))] ?_
 obtain ⟨g1, h⟩ := zh h
 obtain ⟨x1, hx1, h⟩ := zj h
 refine zbs (args' := [.A (t : Tr)]) (r := .b x1) (by rw [← hx1]; exact (zl7 t g1)) ?_
 refine w_o (a := .b (!x1)) ?_
 refine zbu h (fun hc1 h => ?_) (fun hc1 h => ?_)
 refine ze (zc ?_)
 refine zcd (.A (noneT : Tr)) (a0 := (zbf noneT .full)) rfl rfl rfl (by kernel_rfl) (zi _ _) (by dsimp only [zn, List.set]) ?_
 refine zbk 8 (.B [(30, (Enc.cells (t : Tr))), (30, (Enc.cells (noneT : Tr)))]) ?_
 exact zal (fun (r : Tr) => .A (r : Tr)) h (.A (noneT : Tr))
 refine zw [.v (.A (t : Tr))] ?_
 obtain ⟨g2, h⟩ := zh h
 obtain ⟨x2, hx2, h⟩ := zj h
 refine zbs (args' := [.A (t : Tr)]) (r := .A (x2 : Tr)) (by rw [← hx2]; exact (zh2 t g2)) ?_
 refine zbk 8 (.B [(30, (Enc.cells (t : Tr))), (30, (Enc.cells (x2 : Tr)))]) ?_
 exact zal (fun (r : Tr) => .A (r : Tr)) h (.A (x2 : Tr))
def zmy (fuel : Nat) (k : Int) (w : Int) (l : (List Tr)) : Option (List Tr) :=
 (zdo (τ := (List Tr)) (zch (β := (List Tr) × Int) (fun s1 => (bif (decide (s1.2 < (List.length l : Int))) then (zdo (τ := (List Tr)) (chk (0 ≤ s1.2 ∧ s1.2 < (List.length l : Int)) (zan (ix l s1.2) (fun x1 => (bif (((x1.k : Nat) : Int) == k) then (chk ((List.length s1.1 + List.length x1.l) * 80 ≤ 140737488355328) (some (Sum.inl ((s1.1 ++ x1.l))))) else (bif (((x1.k : Nat) : Int) == w) then (some (Sum.inl (s1.1))) else (chk ((List.length s1.1 + List.length [x1]) * 80 ≤ 140737488355328) (some (Sum.inl ((s1.1 ++ [x1])))))))))) (fun j2 => (chk (-9223372036854775808 ≤ (s1.2 + 1) ∧ (s1.2 + 1) < 9223372036854775808) (some (Sum.inl (j2, (s1.2 + 1))))))) else (some (Sum.inr (Sum.inl (s1.1)))))) fuel (([] : (List Tr)), 0)) (fun j1 => (some j1)))
theorem ent31 : Ent Try.prog 31 := enters_of Try.func31 (by kernel_rfl) rfl
theorem z1x (fuel : Nat) (k : Int) (w : Int) (l : (List Tr)) (r : (List Tr)) (h : zmy fuel k w l = some r) : Pure (ITP Try.prog) Try.prog 31 [.raw (.int .u8 k), .raw (.int .u8 w), .L (l : List Tr)] (.L (r : List Tr)) := by
 unfold zmy at h
 refine zaw 31 mix Try.func31 ent31 ?_
 refine zw [.v (.list 0 [] .full)] ?_
 refine zw [.v (.list 0 [] .full)] ?_
 refine za0 h (bz 0 34 17179869183) (fun j1 => [(7, (.O (j1 : List Tr)))]) (fun j1 => (zc0 [] 30 (List.length (j1 : List Tr)) 8)) ?_ ?_
 intro or1 h hr1
 refine zw [.m _, .v (.i (List.length l : Int)), .v (.i 0)] ?_
 refine zr ?_
 refine zcf h (bz 0 34 17179866108) (fun s1 => [(7, (.O (s1.1 : List Tr))), (12, .i s1.2)]) (fun s1 => (zc0 [] 30 (List.length (s1.1 : List Tr)) 8)) ?_ ?_
 exact zc7 (bl 34 7299)
 intro s1 p1 h
 refine zf8 ?_
 refine zw [.v (.b (decide (s1.2 < (List.length l : Int))))] ?_
 refine ze ?_
 refine zbu h (fun hc1 h => ?_) (fun hc1 h => ?_)
 refine za0 h (bz 0 32 4294959744) (fun j2 => [(7, (.O (j2 : List Tr)))]) (fun j2 => (zc0 [] 30 (List.length (j2 : List Tr)) 8)) ?_ ?_
 intro or2 h hr2
 refine zr ?_
 refine ze (zc ?_)
 obtain ⟨g1, h⟩ := zh h
 obtain ⟨x1, hx1, h⟩ := zj h
 refine zzn hx1 g1 ?_
 refine w_o (a := .A (x1 : Tr)) ?_
 refine zbc (a := .ptr 0 0) (σ'' := (zc0 [(30, [.u 0, .raw (.int .u64 0), .raw (.int .u64 0), .raw (.int .u64 0), .raw (.int .u64 0), .i 0, .i 0, .list 0 [] .full])] 30 (List.length (s1.1 : List Tr)) 8)) ?_
 refine zbk 8 (zc0 [(30, (Enc.cells (x1 : Tr)))] 30 (List.length (s1.1 : List Tr)) 8) ?_
 refine zw [.v (.ptr 0 0), .v (.u ((x1.k : Nat) : Int))] ?_
 refine zr ?_
 refine zw [.m _, .v (.b (((x1.k : Nat) : Int) == k)), .m _] ?_
 refine zbu h (fun hc2 h => ?_) (fun hc2 h => ?_)
 refine zc (k0 := 0) (id := 8) ?_
 refine w_r [.m _, .v (.ptr 0 7), .v (.L (x1.l : List Tr))] ?_
 obtain ⟨g2, h⟩ := zh h
 refine zii (a := (.O ((s1.1 ++ x1.l) : List Tr))) (σ'' := (zc0 [(30, (Enc.cells (x1 : Tr)))] 30 (List.length ((s1.1 ++ x1.l) : List Tr)) 8)) rfl rfl rfl (zck rfl rfl rfl rfl (zd2 (α := Tr) (bs := [(30, (Enc.cells (x1 : Tr)))]) (a := s1.1) (b := x1.l) g2 rfl rfl rfl rfl rfl ⟨rfl, by decide⟩)) (by dsimp only [zn, List.set]) rfl ?_
 refine zab ?_
 refine zg (o := or2) ((s1.1 ++ x1.l)) h ?_
 exact zb3 (bl 34 12884909567) 0 (by kernel_rfl) (Nat.le_of_ble_eq_true rfl) (zba rfl) (by dsimp only [zz, zad, List.foldl, List.set, bz, bzc, Nat.reduceMod, Nat.reduceDiv, Nat.reduceBEq, Nat.reduceAdd]; exact (zb rfl (zb rfl (zb rfl (zb rfl (zb rfl (zb rfl (zb rfl (zb (zbp (Enc.cloL _)) (zb rfl (zb rfl (zb (zah (Enc.cloL _)) (by kernel_rfl))))))))))))) (by kernel_rfl)
 refine zw [.m _, .v (.b (((x1.k : Nat) : Int) == w)), .m _] ?_
 refine zbu h (fun hc3 h => ?_) (fun hc3 h => ?_)
 refine zg (o := or2) (s1.1) h ?_
 exact zb3 (bl 34 12884909567) 0 (by kernel_rfl) (Nat.le_of_ble_eq_true rfl) (zba rfl) (by dsimp only [zz, zad, List.foldl, List.set, bz, bzc, Nat.reduceMod, Nat.reduceDiv, Nat.reduceBEq, Nat.reduceAdd]; exact (zb rfl (zb rfl (zb rfl (zb rfl (zb rfl (zb rfl (zb rfl (zb (zbp (Enc.cloL _)) (zb rfl (zb rfl (zb (zah (Enc.cloL _)) (by kernel_rfl))))))))))))) (by kernel_rfl)
 refine zc (k0 := 0) (id := 6) ?_
 refine w_r [.m _, .v (.A (x1 : Tr))] ?_
 refine w_o (a := .F ([x1] : List Tr)) (h := za2 (zcj (α := Tr) (l := [x1]) (cs := Enc.cells (x1 : Tr) ++ []) rfl (by rw [Enc.cons, Enc.nil]))) ?_
 obtain ⟨g3, h⟩ := zh h
 refine zii (a := (.O ((s1.1 ++ [x1]) : List Tr))) (σ'' := (zc0 [(30, (Enc.cells (x1 : Tr)))] 30 (List.length ((s1.1 ++ [x1]) : List Tr)) 8)) rfl rfl rfl (zck rfl rfl rfl rfl (zd2 (α := Tr) (bs := [(30, (Enc.cells (x1 : Tr)))]) (a := s1.1) (b := [x1]) g3 rfl rfl rfl rfl rfl ⟨rfl, by decide⟩)) (by dsimp only [zn, List.set]) rfl ?_
 refine zab ?_
 refine zg (o := or2) ((s1.1 ++ [x1])) h ?_
 exact zb3 (bl 34 12884909567) 0 (by kernel_rfl) (Nat.le_of_ble_eq_true rfl) (zba rfl) (by dsimp only [zz, zad, List.foldl, List.set, bz, bzc, Nat.reduceMod, Nat.reduceDiv, Nat.reduceBEq, Nat.reduceAdd]; exact (zb rfl (zb rfl (zb rfl (zb rfl (zb rfl (zb rfl (zb rfl (zb (zbp (Enc.cloL _)) (zb rfl (zb rfl (zb (zah (Enc.cloL _)) (by kernel_rfl))))))))))))) (by kernel_rfl)
 intro j2 h
 refine zf8 ?_
 refine zc (k0 := 0) (id := 10) ?_
 obtain ⟨g4, h⟩ := zh h
 refine zwt g4 ?_
 refine zab ?_
 refine zbb (p := p1) (j2, (s1.2 + 1)) h ?_
 exact zc7 (bl 34 7299)
 refine zae h (fun h => ?_)
 refine zg (o := or1) (s1.1) h ?_
 exact zc7 (bl 34 128)
 intro j1 h
 refine zf8 ?_
 refine zw [.m _, .m _] ?_
 exact zal (fun (r : (List Tr)) => .L (r : List Tr)) h (.O (j1 : List Tr))
def zgx (k : Int) (l : (List Tr)) (z : Tr) : Option Tr :=
 (bif ((List.length l : Int) == 0) then (some z) else (bif ((List.length l : Int) == 1) then (chk (0 ≤ (0 : Int) ∧ (0 : Int) < (List.length l : Int)) (zan (ix l (0 : Int)) (fun x1 => (za3 (zdn x1) (fun x2 => (some x2)))))) else (chk (0 ≤ k) (za3 (zdn (Tr.mk (Int.toNat k) (0#256) 0 0 l)) (fun x3 => (some x3))))))
theorem ent30 : Ent Try.prog 30 := enters_of Try.func30 (by kernel_rfl) rfl
theorem zt3 (k : Int) (l : (List Tr)) (z : Tr) (r : Tr) (h : zgx k l z = some r) : Pure (ITP Try.prog) Try.prog 30 [.raw (.int .u8 k), .L (l : List Tr), .A (z : Tr)] (.A (r : Tr)) := by
 unfold zgx at h
 refine zaw 19 mix Try.func30 ent30 ?_
 refine ze (zc ?_)
 refine zbc (a := .ptr 0 0) (σ'' := (.B [(30, (Enc.cells (z : Tr)))])) ?_
 refine zbc (a := .ptr 1 0) (σ'' := (.B [(30, (Enc.cells (z : Tr))), (30, [.u 0, .raw (.int .u64 0), .raw (.int .u64 0), .raw (.int .u64 0), .raw (.int .u64 0), .i 0, .i 0, .list 0 [] .full])])) ?_
 refine ze ?_
 refine zw [.m _, .v (.i (List.length l : Int))] ?_
 refine zr ?_
 refine zw [.v (.b ((List.length l : Int) == 0)), .m _] ?_
 refine zbu h (fun hc1 h => ?_) (fun hc1 h => ?_)
 refine zw [.v (.A (z : Tr))] ?_
 refine zbk 8 (.B [(30, (Enc.cells (z : Tr))), (30, (Enc.cells (z : Tr)))]) ?_
 exact zal (fun (r : Tr) => .A (r : Tr)) h (.A (z : Tr))
 refine zw [.v (.b ((List.length l : Int) == 1)), .m _] ?_
 refine zbu h (fun hc2 h => ?_) (fun hc2 h => ?_)
 refine zw [.m _] ?_
 obtain ⟨g1, h⟩ := zh h
 obtain ⟨x1, hx1, h⟩ := zj h
 refine zzn hx1 g1 ?_
 refine w_o (a := .A (x1 : Tr)) ?_
 obtain ⟨x2, hx2, h⟩ := zaa h
 refine zbs (zfj x1 x2 hx2) ?_
 refine zbk 8 (.B [(30, (Enc.cells (z : Tr))), (30, (Enc.cells (x2 : Tr)))]) ?_
 exact zal (fun (r : Tr) => .A (r : Tr)) h (.A (x2 : Tr))
 refine zw [.m _, .m _] ?_
 obtain ⟨g2, h⟩ := zh h
 refine zcd (.A ((Tr.mk (Int.toNat k) (0#256) 0 0 l) : Tr)) (a0 := (z6b k (0#256) 0 0 l .none)) rfl rfl rfl (by kernel_rfl) (zpq g2 _ _ _ _ _) (by dsimp only [zn, List.set]) ?_
 obtain ⟨x3, hx3, h⟩ := zaa h
 refine zbs (zfj (Tr.mk (Int.toNat k) (0#256) 0 0 l) x3 hx3) ?_
 refine zbk 8 (.B [(30, (Enc.cells (z : Tr))), (30, (Enc.cells (x3 : Tr)))]) ?_
 exact zal (fun (r : Tr) => .A (r : Tr)) h (.A (x3 : Tr))
def z6y (fuel : Nat) (l : (List Tr)) : Option Tr :=
 (zdo (τ := Unit) (zch (β := Int) (fun s1 => (bif (decide (s1 < (List.length l : Int))) then (chk (0 ≤ s1 ∧ s1 < (List.length l : Int)) (zan (ix l s1) (fun x1 => (bif (((x1.k : Nat) : Int) == 0) then (some (Sum.inr (Sum.inr noneT))) else (chk ((pre x1).length < 2 ^ 61) (zan (zbj x1) (fun x2 => (bif (!x2) then (some (Sum.inr (Sum.inr noneT))) else (chk (-9223372036854775808 ≤ (s1 + 1) ∧ (s1 + 1) < 9223372036854775808) (some (Sum.inl ((s1 + 1))))))))))))) else (some (Sum.inr (Sum.inl ()))))) fuel (0)) (fun j1 => (za3 (zmy fuel 3 1 l) (fun x3 => (za3 (zgx 3 x3 (Tr.mk 1 (0#256) 0 0 [])) (fun x4 => (some x4)))))))
theorem ent15 : Ent Try.prog 15 := enters_of Try.func15 (by kernel_rfl) rfl
theorem seq_sh (fuel : Nat) (l : (List Tr)) (r : Tr) (h : z6y fuel l = some r) : Pure (ITP Try.prog) Try.prog 15 [.L (l : List Tr)] (.A (r : Tr)) := by
 unfold z6y at h
 refine zaw 24 mix Try.func15 ent15 ?_
 refine ze (zc ?_)
 refine zbc (a := .ptr 0 0) (σ'' := (.B [(30, [.u 0, .raw (.int .u64 0), .raw (.int .u64 0), .raw (.int .u64 0), .raw (.int .u64 0), .i 0, .i 0, .list 0 [] .full])])) ?_
 refine za0 h (bz 0 25 33554426) (fun j1 => []) (fun j1 => (.B [(30, [.u 0, .raw (.int .u64 0), .raw (.int .u64 0), .raw (.int .u64 0), .raw (.int .u64 0), .i 0, .i 0, .list 0 [] .full])])) ?_ ?_
 intro or1 h hr1
 refine zw [.m _, .v (.i (List.length l : Int)), .v (.i 0)] ?_
 refine zr ?_
 refine zcf h (bz 0 25 33554330) (fun s1 => [(7, .i s1)]) (fun s1 => (.B [(30, [.u 0, .raw (.int .u64 0), .raw (.int .u64 0), .raw (.int .u64 0), .raw (.int .u64 0), .i 0, .i 0, .list 0 [] .full])])) ?_ ?_
 exact zc7 (bl 25 229)
 intro s1 p1 h
 refine zf8 ?_
 refine zw [.v (.b (decide (s1 < (List.length l : Int))))] ?_
 refine ze ?_
 refine zbu h (fun hc1 h => ?_) (fun hc1 h => ?_)
 refine ze ?_
 refine zr ?_
 refine ze (zc ?_)
 obtain ⟨g1, h⟩ := zh h
 obtain ⟨x1, hx1, h⟩ := zj h
 refine zzn hx1 g1 ?_
 refine w_o (a := .A (x1 : Tr)) ?_
 refine zbc (a := .ptr 1 0) (σ'' := (.B [(30, [.u 0, .raw (.int .u64 0), .raw (.int .u64 0), .raw (.int .u64 0), .raw (.int .u64 0), .i 0, .i 0, .list 0 [] .full]), (30, [.u 0, .raw (.int .u64 0), .raw (.int .u64 0), .raw (.int .u64 0), .raw (.int .u64 0), .i 0, .i 0, .list 0 [] .full])])) ?_
 refine zbk 8 (.B [(30, [.u 0, .raw (.int .u64 0), .raw (.int .u64 0), .raw (.int .u64 0), .raw (.int .u64 0), .i 0, .i 0, .list 0 [] .full]), (30, (Enc.cells (x1 : Tr)))]) ?_
 refine zw [.v (.ptr 1 0), .v (.u ((x1.k : Nat) : Int)), .v (.b (((x1.k : Nat) : Int) == 0))] ?_
 refine zu h (fun hc2 h => ?_) (fun hc2 h => ?_)
 refine zau hc2 ?_
 refine w_r [.p, .p, .p, .v (.b true)] ?_
 refine zbo rfl ?_
 refine ze (zc ?_)
 refine zcd (.A (noneT : Tr)) (a0 := (zbf noneT .full)) rfl rfl rfl (by kernel_rfl) (zi _ _) (by dsimp only [zn, List.set]) ?_
 refine zbk 8 (.B [(30, (Enc.cells (noneT : Tr))), (30, (Enc.cells (x1 : Tr)))]) ?_
 refine zae h (fun h => ?_)
 replace h := zp h hr1
 exact zal (fun (r : Tr) => .A (r : Tr)) h (.A (noneT : Tr))
 refine zau hc2 ?_
 refine zac rfl rfl ?_
 refine w_o (a := .A (x1 : Tr)) ?_
 refine zac rfl rfl ?_
 obtain ⟨g2, h⟩ := zh h
 obtain ⟨x2, hx2, h⟩ := zj h
 refine zbs (args' := [.A (x1 : Tr)]) (r := .b x2) (by rw [← hx2]; exact (zl7 x1 g2)) ?_
 refine w_r [.v (.b (!x2)), .v (.b (!x2))] ?_
 refine zbu h (fun hc3 h => ?_) (fun hc3 h => ?_)
 refine ze (zc ?_)
 refine zcd (.A (noneT : Tr)) (a0 := (zbf noneT .full)) rfl rfl rfl (by kernel_rfl) (zi _ _) (by dsimp only [zn, List.set]) ?_
 refine zbk 8 (.B [(30, (Enc.cells (noneT : Tr))), (30, (Enc.cells (x1 : Tr)))]) ?_
 refine zae h (fun h => ?_)
 replace h := zp h hr1
 exact zal (fun (r : Tr) => .A (r : Tr)) h (.A (noneT : Tr))
 refine zc (k0 := 0) (id := 6) ?_
 obtain ⟨g3, h⟩ := zh h
 refine zwt g3 ?_
 refine zab ?_
 refine zbb (p := p1) ((s1 + 1)) h ?_
 exact zb3 (bl 25 229) 1 (by kernel_rfl) (Nat.le_of_ble_eq_true rfl) (zba (zv rfl rfl)) (by dsimp only [zz, zad, List.foldl, List.set, bz, bzc, Nat.reduceMod, Nat.reduceDiv, Nat.reduceBEq, Nat.reduceAdd]; exact (zb (zah (Enc.cloL _)) (zb rfl (zb (by decide) (zb rfl (zb rfl (zb (zah (Enc.cloL _)) (by kernel_rfl)))))))) (by kernel_rfl)
 refine zae h (fun h => ?_)
 refine zg (o := or1) () h ?_
 exact zc7 (bl 25 5)
 intro j1 h
 refine zf8 ?_
 refine zw [.m _] ?_
 obtain ⟨x3, hx3, h⟩ := zaa h
 refine zbs (z1x fuel 3 1 l x3 hx3) ?_
 refine zcd (.A ((Tr.mk 1 (0#256) 0 0 []) : Tr)) (a0 := (zbf (Tr.mk 1 (0#256) 0 0 []) .full)) rfl rfl rfl (by kernel_rfl) (zi _ _) (by dsimp only [zn, List.set]) ?_
 obtain ⟨x4, hx4, h⟩ := zaa h
 refine zbs (zt3 3 x3 (Tr.mk 1 (0#256) 0 0 []) x4 hx4) ?_
 refine zbk 8 (.B [(30, (Enc.cells (x4 : Tr)))]) ?_
 exact zal (fun (r : Tr) => .A (r : Tr)) h (.A (x4 : Tr))
def F_or (fuel : Nat) (l : (List Tr)) : Option Tr :=
 (zdo (τ := Unit) (zch (β := Int) (fun s1 => (bif (decide (s1 < (List.length l : Int))) then (chk (0 ≤ s1 ∧ s1 < (List.length l : Int)) (zan (ix l s1) (fun x1 => (za3 (zkt x1) (fun x2 => (bif (!x2) then (some (Sum.inr (Sum.inr noneT))) else (chk (-9223372036854775808 ≤ (s1 + 1) ∧ (s1 + 1) < 9223372036854775808) (some (Sum.inl ((s1 + 1))))))))))) else (some (Sum.inr (Sum.inl ()))))) fuel (0)) (fun j1 => (za3 (zmy fuel 4 0 l) (fun x3 => (za3 (zgx 4 x3 noneT) (fun x4 => (some x4)))))))
theorem ent10 : Ent Try.prog 10 := enters_of Try.func10 (by kernel_rfl) rfl
theorem or_sh (fuel : Nat) (l : (List Tr)) (r : Tr) (h : F_or fuel l = some r) : Pure (ITP Try.prog) Try.prog 10 [.L (l : List Tr)] (.A (r : Tr)) := by
 unfold F_or at h
 refine zaw 19 mix Try.func10 ent10 ?_
 refine ze (zc ?_)
 refine zbc (a := .ptr 0 0) (σ'' := (.B [(30, [.u 0, .raw (.int .u64 0), .raw (.int .u64 0), .raw (.int .u64 0), .raw (.int .u64 0), .i 0, .i 0, .list 0 [] .full])])) ?_
 refine za0 h (bz 0 20 1048570) (fun j1 => []) (fun j1 => (.B [(30, [.u 0, .raw (.int .u64 0), .raw (.int .u64 0), .raw (.int .u64 0), .raw (.int .u64 0), .i 0, .i 0, .list 0 [] .full])])) ?_ ?_
 intro or1 h hr1
 refine zw [.m _, .v (.i (List.length l : Int)), .v (.i 0)] ?_
 refine zr ?_
 refine zcf h (bz 0 20 1048474) (fun s1 => [(7, .i s1)]) (fun s1 => (.B [(30, [.u 0, .raw (.int .u64 0), .raw (.int .u64 0), .raw (.int .u64 0), .raw (.int .u64 0), .i 0, .i 0, .list 0 [] .full])])) ?_ ?_
 exact zc7 (bl 20 229)
 intro s1 p1 h
 refine zf8 ?_
 refine zw [.v (.b (decide (s1 < (List.length l : Int))))] ?_
 refine ze ?_
 refine zbu h (fun hc1 h => ?_) (fun hc1 h => ?_)
 refine ze ?_
 refine zr ?_
 refine ze (zc ?_)
 obtain ⟨g1, h⟩ := zh h
 obtain ⟨x1, hx1, h⟩ := zj h
 refine zzn hx1 g1 ?_
 refine w_o (a := .A (x1 : Tr)) ?_
 refine zbc (a := .ptr 1 0) (σ'' := (.B [(30, [.u 0, .raw (.int .u64 0), .raw (.int .u64 0), .raw (.int .u64 0), .raw (.int .u64 0), .i 0, .i 0, .list 0 [] .full]), (30, [.u 0, .raw (.int .u64 0), .raw (.int .u64 0), .raw (.int .u64 0), .raw (.int .u64 0), .i 0, .i 0, .list 0 [] .full])])) ?_
 refine zbk 8 (.B [(30, [.u 0, .raw (.int .u64 0), .raw (.int .u64 0), .raw (.int .u64 0), .raw (.int .u64 0), .i 0, .i 0, .list 0 [] .full]), (30, (Enc.cells (x1 : Tr)))]) ?_
 refine zw [.v (.A (x1 : Tr))] ?_
 obtain ⟨x2, hx2, h⟩ := zaa h
 refine zbs (zo1 x1 x2 hx2) ?_
 refine w_o (a := .b (!x2)) ?_
 refine zbu h (fun hc2 h => ?_) (fun hc2 h => ?_)
 refine ze (zc ?_)
 refine zcd (.A (noneT : Tr)) (a0 := (zbf noneT .full)) rfl rfl rfl (by kernel_rfl) (zi _ _) (by dsimp only [zn, List.set]) ?_
 refine zbk 8 (.B [(30, (Enc.cells (noneT : Tr))), (30, (Enc.cells (x1 : Tr)))]) ?_
 refine zae h (fun h => ?_)
 replace h := zp h hr1
 exact zal (fun (r : Tr) => .A (r : Tr)) h (.A (noneT : Tr))
 refine zc (k0 := 0) (id := 6) ?_
 obtain ⟨g2, h⟩ := zh h
 refine zwt g2 ?_
 refine zab ?_
 refine zbb (p := p1) ((s1 + 1)) h ?_
 exact zb3 (bl 20 229) 1 (by kernel_rfl) (Nat.le_of_ble_eq_true rfl) (zba (zv rfl rfl)) (by dsimp only [zz, zad, List.foldl, List.set, bz, bzc, Nat.reduceMod, Nat.reduceDiv, Nat.reduceBEq, Nat.reduceAdd]; exact (zb (zah (Enc.cloL _)) (zb rfl (zb (by decide) (zb rfl (zb rfl (zb (zah (Enc.cloL _)) (by kernel_rfl)))))))) (by kernel_rfl)
 refine zae h (fun h => ?_)
 refine zg (o := or1) () h ?_
 exact zc7 (bl 20 5)
 intro j1 h
 refine zf8 ?_
 refine zw [.m _] ?_
 obtain ⟨x3, hx3, h⟩ := zaa h
 refine zbs (z1x fuel 4 0 l x3 hx3) ?_
 refine zcd (.A (noneT : Tr)) (a0 := (zbf noneT .full)) rfl rfl rfl (by kernel_rfl) (zi _ _) (by dsimp only [zn, List.set]) ?_
 obtain ⟨x4, hx4, h⟩ := zaa h
 refine zbs (zt3 4 x3 noneT x4 hx4) ?_
 refine zbk 8 (.B [(30, (Enc.cells (x4 : Tr)))]) ?_
 exact zal (fun (r : Tr) => .A (r : Tr)) h (.A (x4 : Tr))
def zrt (t : Tr) (lo : Int) (hi : Int) : Option Tr :=
 (bif (lo == 0) then (bif (lo == 1) then (zdo (τ := Unit) (za3 (zkt t) (fun x1 => (bif (!x1) then (some (Sum.inr noneT)) else (bif (!(hi == 0)) then (bif (!(hi == 1)) then (za3 (ze6 lo hi) (fun x2 => (bif (!x2) then (some (Sum.inr noneT)) else (bif (((t.k : Nat) : Int) == 0) then (bif (decide (lo > 0)) then (some (Sum.inr noneT)) else (bif (hi == 0) then (some (Sum.inr (Tr.mk 1 (0#256) 0 0 []))) else (some (Sum.inr (Tr.mk 1 (0#256) 0 0 []))))) else (bif (hi == 0) then (some (Sum.inr (Tr.mk 1 (0#256) 0 0 []))) else (bif (((t.k : Nat) : Int) == 1) then (some (Sum.inr (Tr.mk 1 (0#256) 0 0 []))) else (bif (hi == 1) then (chk ((pre t).length < 2 ^ 40) (zan t (fun x3 => (some (Sum.inr x3))))) else (some (Sum.inl ()))))))))) else (bif (((t.k : Nat) : Int) == 0) then (bif (decide (lo > 0)) then (some (Sum.inr noneT)) else (bif (hi == 0) then (some (Sum.inr (Tr.mk 1 (0#256) 0 0 []))) else (some (Sum.inr (Tr.mk 1 (0#256) 0 0 []))))) else (bif (hi == 0) then (some (Sum.inr (Tr.mk 1 (0#256) 0 0 []))) else (bif (((t.k : Nat) : Int) == 1) then (some (Sum.inr (Tr.mk 1 (0#256) 0 0 []))) else (bif (hi == 1) then (chk ((pre t).length < 2 ^ 40) (zan t (fun x4 => (some (Sum.inr x4))))) else (some (Sum.inl ()))))))) else (bif (((t.k : Nat) : Int) == 0) then (bif (decide (lo > 0)) then (some (Sum.inr noneT)) else (bif (hi == 0) then (some (Sum.inr (Tr.mk 1 (0#256) 0 0 []))) else (some (Sum.inr (Tr.mk 1 (0#256) 0 0 []))))) else (bif (hi == 0) then (some (Sum.inr (Tr.mk 1 (0#256) 0 0 []))) else (bif (((t.k : Nat) : Int) == 1) then (some (Sum.inr (Tr.mk 1 (0#256) 0 0 []))) else (bif (hi == 1) then (chk ((pre t).length < 2 ^ 40) (zan t (fun x5 => (some (Sum.inr x5))))) else (some (Sum.inl ())))))))))) (fun j1 => (za3 (zdn (Tr.mk 5 (0#256) lo hi [t])) (fun x6 => (some x6))))) else (zdo (τ := Unit) (za3 (zkt t) (fun x7 => (bif (!x7) then (some (Sum.inr noneT)) else (bif (!(hi == 0)) then (za3 (ze6 lo hi) (fun x8 => (bif (!x8) then (some (Sum.inr noneT)) else (bif (((t.k : Nat) : Int) == 0) then (bif (decide (lo > 0)) then (some (Sum.inr noneT)) else (bif (hi == 0) then (some (Sum.inr (Tr.mk 1 (0#256) 0 0 []))) else (some (Sum.inr (Tr.mk 1 (0#256) 0 0 []))))) else (bif (hi == 0) then (some (Sum.inr (Tr.mk 1 (0#256) 0 0 []))) else (bif (((t.k : Nat) : Int) == 1) then (some (Sum.inr (Tr.mk 1 (0#256) 0 0 []))) else (some (Sum.inl ())))))))) else (bif (((t.k : Nat) : Int) == 0) then (bif (decide (lo > 0)) then (some (Sum.inr noneT)) else (bif (hi == 0) then (some (Sum.inr (Tr.mk 1 (0#256) 0 0 []))) else (some (Sum.inr (Tr.mk 1 (0#256) 0 0 []))))) else (bif (hi == 0) then (some (Sum.inr (Tr.mk 1 (0#256) 0 0 []))) else (bif (((t.k : Nat) : Int) == 1) then (some (Sum.inr (Tr.mk 1 (0#256) 0 0 []))) else (some (Sum.inl ()))))))))) (fun j2 => (za3 (zdn (Tr.mk 5 (0#256) lo hi [t])) (fun x9 => (some x9)))))) else (bif (lo == 1) then (zdo (τ := Unit) (za3 (zkt t) (fun x10 => (bif (!x10) then (some (Sum.inr noneT)) else (bif (!(hi == 1)) then (za3 (ze6 lo hi) (fun x11 => (bif (!x11) then (some (Sum.inr noneT)) else (bif (((t.k : Nat) : Int) == 0) then (bif (decide (lo > 0)) then (some (Sum.inr noneT)) else (some (Sum.inr (Tr.mk 1 (0#256) 0 0 [])))) else (bif (((t.k : Nat) : Int) == 1) then (some (Sum.inr (Tr.mk 1 (0#256) 0 0 []))) else (bif (hi == 1) then (chk ((pre t).length < 2 ^ 40) (zan t (fun x12 => (some (Sum.inr x12))))) else (some (Sum.inl ())))))))) else (bif (((t.k : Nat) : Int) == 0) then (bif (decide (lo > 0)) then (some (Sum.inr noneT)) else (some (Sum.inr (Tr.mk 1 (0#256) 0 0 [])))) else (bif (((t.k : Nat) : Int) == 1) then (some (Sum.inr (Tr.mk 1 (0#256) 0 0 []))) else (bif (hi == 1) then (chk ((pre t).length < 2 ^ 40) (zan t (fun x13 => (some (Sum.inr x13))))) else (some (Sum.inl ()))))))))) (fun j3 => (za3 (zdn (Tr.mk 5 (0#256) lo hi [t])) (fun x14 => (some x14))))) else (za3 (zkt t) (fun x15 => (bif (!x15) then (some noneT) else (za3 (ze6 lo hi) (fun x16 => (bif (!x16) then (some noneT) else (bif (((t.k : Nat) : Int) == 0) then (bif (decide (lo > 0)) then (some noneT) else (some (Tr.mk 1 (0#256) 0 0 []))) else (bif (((t.k : Nat) : Int) == 1) then (some (Tr.mk 1 (0#256) 0 0 [])) else (za3 (zdn (Tr.mk 5 (0#256) lo hi [t])) (fun x17 => (some x17)))))))))))))
theorem ent17 : Ent Try.prog 17 := enters_of Try.func17 (by kernel_rfl) rfl
theorem z6x (t : Tr) (lo : Int) (hi : Int) (r : Tr) (h : zrt t lo hi = some r) : Pure (ITP Try.prog) Try.prog 17 [.A (t : Tr), .raw (.int .i64 lo), .raw (.int .i64 hi)] (.A (r : Tr)) := by
 unfold zrt at h
 refine zaw 69 mix Try.func17 ent17 ?_
 refine ze (zc ?_)
 refine zbc (a := .ptr 0 0) (σ'' := (.B [(30, (Enc.cells (t : Tr)))])) ?_
 refine zbc (a := .ptr 1 0) (σ'' := (.B [(30, (Enc.cells (t : Tr))), (30, [.u 0, .raw (.int .u64 0), .raw (.int .u64 0), .raw (.int .u64 0), .raw (.int .u64 0), .i 0, .i 0, .list 0 [] .full])])) ?_
 refine zw [.m _, .v (.b (lo == 0))] ?_
 refine zu h (fun hc1 h => ?_) (fun hc1 h => ?_)
 refine zau hc1 ?_
 refine w_r [.m _, .v (.b (hi == 0)), .v (.b (hi == 0)), .m _, .v (.b (lo == 1))] ?_
 refine zu h (fun hc2 h => ?_) (fun hc2 h => ?_)
 refine zau hc2 ?_
 refine w_r [.m _, .v (.b (hi == 1)), .v (.b (hi == 1)), .m _, .m _] ?_
 refine za0 h (bz 0 72 4722366482869645213617) (fun j1 => []) (fun j1 => (.B [(30, (Enc.cells (t : Tr))), (30, [.u 0, .raw (.int .u64 0), .raw (.int .u64 0), .raw (.int .u64 0), .raw (.int .u64 0), .i 0, .i 0, .list 0 [] .full])])) ?_ ?_
 intro or1 h hr1
 refine zr ?_
 refine zw [.v (.A (t : Tr))] ?_
 obtain ⟨x1, hx1, h⟩ := zaa h
 refine zbs (zo1 t x1 hx1) ?_
 refine w_o (a := .b (!x1)) ?_
 refine zu h (fun hc3 h => ?_) (fun hc3 h => ?_)
 refine zau hc3 ?_
 refine w_r [.p, .p, .p, .p, .p] ?_
 refine w_r [.p, .p, .p, .p, .p] ?_
 refine w_r [.p, .p, .v (.b true), .m _] ?_
 refine zbo rfl ?_
 refine ze (zc ?_)
 refine zcd (.A (noneT : Tr)) (a0 := (zbf noneT .full)) rfl rfl rfl (by kernel_rfl) (zi _ _) (by dsimp only [zn, List.set]) ?_
 refine zbk 8 (.B [(30, (Enc.cells (t : Tr))), (30, (Enc.cells (noneT : Tr)))]) ?_
 replace h := zp h hr1
 exact zal (fun (r : Tr) => .A (r : Tr)) h (.A (noneT : Tr))
 refine zau hc3 ?_
 refine w_r [.m _, .v (.b (!(hi == 0)))] ?_
 refine zac rfl rfl ?_
 refine zu h (fun hc4 h => ?_) (fun hc4 h => ?_)
 refine zau hc4 ?_
 refine w_r [.m _, .v (.b (!(hi == 1))), .v (.b (!(hi == 1)))] ?_
 refine zac rfl rfl ?_
 refine zu h (fun hc5 h => ?_) (fun hc5 h => ?_)
 refine zau hc5 ?_
 refine w_r [.m _, .m _] ?_
 refine zac rfl rfl ?_
 obtain ⟨x2, hx2, h⟩ := zaa h
 refine zbs (zhj lo hi x2 hx2) ?_
 refine w_r [.v (.b (!x2)), .v (.b (!x2)), .v (.b (!x2)), .m _] ?_
 refine zbu h (fun hc6 h => ?_) (fun hc6 h => ?_)
 refine ze (zc ?_)
 refine zcd (.A (noneT : Tr)) (a0 := (zbf noneT .full)) rfl rfl rfl (by kernel_rfl) (zi _ _) (by dsimp only [zn, List.set]) ?_
 refine zbk 8 (.B [(30, (Enc.cells (t : Tr))), (30, (Enc.cells (noneT : Tr)))]) ?_
 replace h := zp h hr1
 exact zal (fun (r : Tr) => .A (r : Tr)) h (.A (noneT : Tr))
 refine zw [.v (.ptr 0 0), .v (.u ((t.k : Nat) : Int)), .v (.b (((t.k : Nat) : Int) == 0))] ?_
 refine zu h (fun hc7 h => ?_) (fun hc7 h => ?_)
 refine zau hc7 ?_
 refine w_r [.m _, .v (.b (decide (lo > 0))), .v (.b (decide (lo > 0))), .m _] ?_
 refine zbu h (fun hc8 h => ?_) (fun hc8 h => ?_)
 refine ze (zc ?_)
 refine zcd (.A (noneT : Tr)) (a0 := (zbf noneT .full)) rfl rfl rfl (by kernel_rfl) (zi _ _) (by dsimp only [zn, List.set]) ?_
 refine zbk 8 (.B [(30, (Enc.cells (t : Tr))), (30, (Enc.cells (noneT : Tr)))]) ?_
 replace h := zp h hr1
 exact zal (fun (r : Tr) => .A (r : Tr)) h (.A (noneT : Tr))
 refine zw [.m _] ?_
 refine zu h (fun hc9 h => ?_) (fun hc9 h => ?_)
 refine zau hc9 ?_
 refine w_r [.p, .p, .p, .v (.b true), .m _] ?_
 refine w_r [.p, .p, .p, .v (.b true), .m _] ?_
 refine zbo rfl ?_
 refine ze (zc ?_)
 refine zcd (.A ((Tr.mk 1 (0#256) 0 0 []) : Tr)) (a0 := (zbf (Tr.mk 1 (0#256) 0 0 []) .full)) rfl rfl rfl (by kernel_rfl) (zi _ _) (by dsimp only [zn, List.set]) ?_
 refine zbk 8 (.B [(30, (Enc.cells (t : Tr))), (30, (Enc.cells ((Tr.mk 1 (0#256) 0 0 []) : Tr)))]) ?_
 replace h := zp h hr1
 exact zal (fun (r : Tr) => .A (r : Tr)) h (.A ((Tr.mk 1 (0#256) 0 0 []) : Tr))
 refine zau hc9 ?_
 refine w_r [.v (.ptr 0 0), .v (.u ((t.k : Nat) : Int)), .v (.b (((t.k : Nat) : Int) == 0)), .v (.b (((t.k : Nat) : Int) == 0))] ?_
 refine zau hc7 ?_
 refine w_r [.p, .p, .p, .v (.b true), .m _] ?_
 refine zbo rfl ?_
 refine ze (zc ?_)
 refine zcd (.A ((Tr.mk 1 (0#256) 0 0 []) : Tr)) (a0 := (zbf (Tr.mk 1 (0#256) 0 0 []) .full)) rfl rfl rfl (by kernel_rfl) (zi _ _) (by dsimp only [zn, List.set]) ?_
 refine zbk 8 (.B [(30, (Enc.cells (t : Tr))), (30, (Enc.cells ((Tr.mk 1 (0#256) 0 0 []) : Tr)))]) ?_
 replace h := zp h hr1
 exact zal (fun (r : Tr) => .A (r : Tr)) h (.A ((Tr.mk 1 (0#256) 0 0 []) : Tr))
 refine zau hc7 ?_
 refine w_r [.p, .p, .v (.b false), .m _] ?_
 refine zav rfl ?_
 refine zw [.m _] ?_
 refine zu h (fun hc10 h => ?_) (fun hc10 h => ?_)
 refine zau hc10 ?_
 refine w_r [.p, .p, .p, .v (.b true), .m _] ?_
 refine w_r [.p, .p, .p, .v (.b true), .m _] ?_
 refine zbo rfl ?_
 refine ze (zc ?_)
 refine zcd (.A ((Tr.mk 1 (0#256) 0 0 []) : Tr)) (a0 := (zbf (Tr.mk 1 (0#256) 0 0 []) .full)) rfl rfl rfl (by kernel_rfl) (zi _ _) (by dsimp only [zn, List.set]) ?_
 refine zbk 8 (.B [(30, (Enc.cells (t : Tr))), (30, (Enc.cells ((Tr.mk 1 (0#256) 0 0 []) : Tr)))]) ?_
 replace h := zp h hr1
 exact zal (fun (r : Tr) => .A (r : Tr)) h (.A ((Tr.mk 1 (0#256) 0 0 []) : Tr))
 refine zau hc10 ?_
 refine w_r [.v (.ptr 0 0), .v (.u ((t.k : Nat) : Int)), .v (.b (((t.k : Nat) : Int) == 0)), .v (.b (((t.k : Nat) : Int) == 0))] ?_
 refine zau hc7 ?_
 refine w_r [.v (.ptr 0 0), .v (.u ((t.k : Nat) : Int)), .v (.b (((t.k : Nat) : Int) == 1)), .v (.b (((t.k : Nat) : Int) == 1)), .m _] ?_
 refine zbu h (fun hc11 h => ?_) (fun hc11 h => ?_)
 refine ze (zc ?_)
 refine zcd (.A ((Tr.mk 1 (0#256) 0 0 []) : Tr)) (a0 := (zbf (Tr.mk 1 (0#256) 0 0 []) .full)) rfl rfl rfl (by kernel_rfl) (zi _ _) (by dsimp only [zn, List.set]) ?_
 refine zbk 8 (.B [(30, (Enc.cells (t : Tr))), (30, (Enc.cells ((Tr.mk 1 (0#256) 0 0 []) : Tr)))]) ?_
 replace h := zp h hr1
 exact zal (fun (r : Tr) => .A (r : Tr)) h (.A ((Tr.mk 1 (0#256) 0 0 []) : Tr))
 refine zw [.m _, .m _] ?_
 refine zbu h (fun hc12 h => ?_) (fun hc12 h => ?_)
 refine zw [.v (.A (t : Tr))] ?_
 obtain ⟨g1, h⟩ := zh h
 obtain ⟨x3, hx3, h⟩ := zj h
 refine zbs (args' := [.A (t : Tr)]) (r := .A (x3 : Tr)) (by rw [← hx3]; exact (zh2 t g1)) ?_
 refine zbk 8 (.B [(30, (Enc.cells (t : Tr))), (30, (Enc.cells (x3 : Tr)))]) ?_
 replace h := zp h hr1
 exact zal (fun (r : Tr) => .A (r : Tr)) h (.A (x3 : Tr))
 refine zg (o := or1) () h ?_
 exact zc7 (bl 72 78)
 refine zau hc5 ?_
 refine w_r [.p, .p, .p, .p, .v (.b false)] ?_
 refine w_r [.v (.b false), .m _] ?_
 refine zav rfl ?_
 refine zw [.v (.ptr 0 0), .v (.u ((t.k : Nat) : Int)), .v (.b (((t.k : Nat) : Int) == 0))] ?_
 refine zu h (fun hc13 h => ?_) (fun hc13 h => ?_)
 refine zau hc13 ?_
 refine w_r [.m _, .v (.b (decide (lo > 0))), .v (.b (decide (lo > 0))), .m _] ?_
 refine zbu h (fun hc14 h => ?_) (fun hc14 h => ?_)
 refine ze (zc ?_)
 refine zcd (.A (noneT : Tr)) (a0 := (zbf noneT .full)) rfl rfl rfl (by kernel_rfl) (zi _ _) (by dsimp only [zn, List.set]) ?_
 refine zbk 8 (.B [(30, (Enc.cells (t : Tr))), (30, (Enc.cells (noneT : Tr)))]) ?_
 replace h := zp h hr1
 exact zal (fun (r : Tr) => .A (r : Tr)) h (.A (noneT : Tr))
 refine zw [.m _] ?_
 refine zu h (fun hc15 h => ?_) (fun hc15 h => ?_)
 refine zau hc15 ?_
 refine w_r [.p, .p, .p, .v (.b true), .m _] ?_
 refine w_r [.p, .p, .p, .v (.b true), .m _] ?_
 refine zbo rfl ?_
 refine ze (zc ?_)
 refine zcd (.A ((Tr.mk 1 (0#256) 0 0 []) : Tr)) (a0 := (zbf (Tr.mk 1 (0#256) 0 0 []) .full)) rfl rfl rfl (by kernel_rfl) (zi _ _) (by dsimp only [zn, List.set]) ?_
 refine zbk 8 (.B [(30, (Enc.cells (t : Tr))), (30, (Enc.cells ((Tr.mk 1 (0#256) 0 0 []) : Tr)))]) ?_
 replace h := zp h hr1
 exact zal (fun (r : Tr) => .A (r : Tr)) h (.A ((Tr.mk 1 (0#256) 0 0 []) : Tr))
 refine zau hc15 ?_
 refine w_r [.v (.ptr 0 0), .v (.u ((t.k : Nat) : Int)), .v (.b (((t.k : Nat) : Int) == 0)), .v (.b (((t.k : Nat) : Int) == 0))] ?_
 refine zau hc13 ?_
 refine w_r [.p, .p, .p, .v (.b true), .m _] ?_
 refine zbo rfl ?_
 refine ze (zc ?_)
 refine zcd (.A ((Tr.mk 1 (0#256) 0 0 []) : Tr)) (a0 := (zbf (Tr.mk 1 (0#256) 0 0 []) .full)) rfl rfl rfl (by kernel_rfl) (zi _ _) (by dsimp only [zn, List.set]) ?_
 refine zbk 8 (.B [(30, (Enc.cells (t : Tr))), (30, (Enc.cells ((Tr.mk 1 (0#256) 0 0 []) : Tr)))]) ?_
 replace h := zp h hr1
 exact zal (fun (r : Tr) => .A (r : Tr)) h (.A ((Tr.mk 1 (0#256) 0 0 []) : Tr))
 refine zau hc13 ?_
 refine w_r [.p, .p, .v (.b false), .m _] ?_
 refine zav rfl ?_
 refine zw [.m _] ?_
 refine zu h (fun hc16 h => ?_) (fun hc16 h => ?_)
 refine zau hc16 ?_
 refine w_r [.p, .p, .p, .v (.b true), .m _] ?_
 refine w_r [.p, .p, .p, .v (.b true), .m _] ?_
 refine zbo rfl ?_
 refine ze (zc ?_)
 refine zcd (.A ((Tr.mk 1 (0#256) 0 0 []) : Tr)) (a0 := (zbf (Tr.mk 1 (0#256) 0 0 []) .full)) rfl rfl rfl (by kernel_rfl) (zi _ _) (by dsimp only [zn, List.set]) ?_
 refine zbk 8 (.B [(30, (Enc.cells (t : Tr))), (30, (Enc.cells ((Tr.mk 1 (0#256) 0 0 []) : Tr)))]) ?_
 replace h := zp h hr1
 exact zal (fun (r : Tr) => .A (r : Tr)) h (.A ((Tr.mk 1 (0#256) 0 0 []) : Tr))
 refine zau hc16 ?_
 refine w_r [.v (.ptr 0 0), .v (.u ((t.k : Nat) : Int)), .v (.b (((t.k : Nat) : Int) == 0)), .v (.b (((t.k : Nat) : Int) == 0))] ?_
 refine zau hc13 ?_
 refine w_r [.v (.ptr 0 0), .v (.u ((t.k : Nat) : Int)), .v (.b (((t.k : Nat) : Int) == 1)), .v (.b (((t.k : Nat) : Int) == 1)), .m _] ?_
 refine zbu h (fun hc17 h => ?_) (fun hc17 h => ?_)
 refine ze (zc ?_)
 refine zcd (.A ((Tr.mk 1 (0#256) 0 0 []) : Tr)) (a0 := (zbf (Tr.mk 1 (0#256) 0 0 []) .full)) rfl rfl rfl (by kernel_rfl) (zi _ _) (by dsimp only [zn, List.set]) ?_
 refine zbk 8 (.B [(30, (Enc.cells (t : Tr))), (30, (Enc.cells ((Tr.mk 1 (0#256) 0 0 []) : Tr)))]) ?_
 replace h := zp h hr1
 exact zal (fun (r : Tr) => .A (r : Tr)) h (.A ((Tr.mk 1 (0#256) 0 0 []) : Tr))
 refine zw [.m _, .m _] ?_
 refine zbu h (fun hc18 h => ?_) (fun hc18 h => ?_)
 refine zw [.v (.A (t : Tr))] ?_
 obtain ⟨g2, h⟩ := zh h
 obtain ⟨x4, hx4, h⟩ := zj h
 refine zbs (args' := [.A (t : Tr)]) (r := .A (x4 : Tr)) (by rw [← hx4]; exact (zh2 t g2)) ?_
 refine zbk 8 (.B [(30, (Enc.cells (t : Tr))), (30, (Enc.cells (x4 : Tr)))]) ?_
 replace h := zp h hr1
 exact zal (fun (r : Tr) => .A (r : Tr)) h (.A (x4 : Tr))
 refine zg (o := or1) () h ?_
 exact zc7 (bl 72 78)
 refine zau hc4 ?_
 refine w_r [.p, .p, .v (.b false), .m _, .p] ?_
 refine w_r [.p, .p, .p, .v (.b false), .v (.b false)] ?_
 refine w_r [.m _] ?_
 refine zav rfl ?_
 refine zw [.v (.ptr 0 0), .v (.u ((t.k : Nat) : Int)), .v (.b (((t.k : Nat) : Int) == 0))] ?_
 refine zu h (fun hc19 h => ?_) (fun hc19 h => ?_)
 refine zau hc19 ?_
 refine w_r [.m _, .v (.b (decide (lo > 0))), .v (.b (decide (lo > 0))), .m _] ?_
 refine zbu h (fun hc20 h => ?_) (fun hc20 h => ?_)
 refine ze (zc ?_)
 refine zcd (.A (noneT : Tr)) (a0 := (zbf noneT .full)) rfl rfl rfl (by kernel_rfl) (zi _ _) (by dsimp only [zn, List.set]) ?_
 refine zbk 8 (.B [(30, (Enc.cells (t : Tr))), (30, (Enc.cells (noneT : Tr)))]) ?_
 replace h := zp h hr1
 exact zal (fun (r : Tr) => .A (r : Tr)) h (.A (noneT : Tr))
 refine zw [.m _] ?_
 refine zu h (fun hc21 h => ?_) (fun hc21 h => ?_)
 refine zau hc21 ?_
 refine w_r [.p, .p, .p, .v (.b true), .m _] ?_
 refine w_r [.p, .p, .p, .v (.b true), .m _] ?_
 refine zbo rfl ?_
 refine ze (zc ?_)
 refine zcd (.A ((Tr.mk 1 (0#256) 0 0 []) : Tr)) (a0 := (zbf (Tr.mk 1 (0#256) 0 0 []) .full)) rfl rfl rfl (by kernel_rfl) (zi _ _) (by dsimp only [zn, List.set]) ?_
 refine zbk 8 (.B [(30, (Enc.cells (t : Tr))), (30, (Enc.cells ((Tr.mk 1 (0#256) 0 0 []) : Tr)))]) ?_
 replace h := zp h hr1
 exact zal (fun (r : Tr) => .A (r : Tr)) h (.A ((Tr.mk 1 (0#256) 0 0 []) : Tr))
 refine zau hc21 ?_
 refine w_r [.v (.ptr 0 0), .v (.u ((t.k : Nat) : Int)), .v (.b (((t.k : Nat) : Int) == 0)), .v (.b (((t.k : Nat) : Int) == 0))] ?_
 refine zau hc19 ?_
 refine w_r [.p, .p, .p, .v (.b true), .m _] ?_
 refine zbo rfl ?_
 refine ze (zc ?_)
 refine zcd (.A ((Tr.mk 1 (0#256) 0 0 []) : Tr)) (a0 := (zbf (Tr.mk 1 (0#256) 0 0 []) .full)) rfl rfl rfl (by kernel_rfl) (zi _ _) (by dsimp only [zn, List.set]) ?_
 refine zbk 8 (.B [(30, (Enc.cells (t : Tr))), (30, (Enc.cells ((Tr.mk 1 (0#256) 0 0 []) : Tr)))]) ?_
 replace h := zp h hr1
 exact zal (fun (r : Tr) => .A (r : Tr)) h (.A ((Tr.mk 1 (0#256) 0 0 []) : Tr))
 refine zau hc19 ?_
 refine w_r [.p, .p, .v (.b false), .m _] ?_
 refine zav rfl ?_
 refine zw [.m _] ?_
 refine zu h (fun hc22 h => ?_) (fun hc22 h => ?_)
 refine zau hc22 ?_
 refine w_r [.p, .p, .p, .v (.b true), .m _] ?_
 refine w_r [.p, .p, .p, .v (.b true), .m _] ?_
 refine zbo rfl ?_
 refine ze (zc ?_)
 refine zcd (.A ((Tr.mk 1 (0#256) 0 0 []) : Tr)) (a0 := (zbf (Tr.mk 1 (0#256) 0 0 []) .full)) rfl rfl rfl (by kernel_rfl) (zi _ _) (by dsimp only [zn, List.set]) ?_
 refine zbk 8 (.B [(30, (Enc.cells (t : Tr))), (30, (Enc.cells ((Tr.mk 1 (0#256) 0 0 []) : Tr)))]) ?_
 replace h := zp h hr1
 exact zal (fun (r : Tr) => .A (r : Tr)) h (.A ((Tr.mk 1 (0#256) 0 0 []) : Tr))
 refine zau hc22 ?_
 refine w_r [.v (.ptr 0 0), .v (.u ((t.k : Nat) : Int)), .v (.b (((t.k : Nat) : Int) == 0)), .v (.b (((t.k : Nat) : Int) == 0))] ?_
 refine zau hc19 ?_
 refine w_r [.v (.ptr 0 0), .v (.u ((t.k : Nat) : Int)), .v (.b (((t.k : Nat) : Int) == 1)), .v (.b (((t.k : Nat) : Int) == 1)), .m _] ?_
 refine zbu h (fun hc23 h => ?_) (fun hc23 h => ?_)
 refine ze (zc ?_)
 refine zcd (.A ((Tr.mk 1 (0#256) 0 0 []) : Tr)) (a0 := (zbf (Tr.mk 1 (0#256) 0 0 []) .full)) rfl rfl rfl (by kernel_rfl) (zi _ _) (by dsimp only [zn, List.set]) ?_
 refine zbk 8 (.B [(30, (Enc.cells (t : Tr))), (30, (Enc.cells ((Tr.mk 1 (0#256) 0 0 []) : Tr)))]) ?_
 replace h := zp h hr1
 exact zal (fun (r : Tr) => .A (r : Tr)) h (.A ((Tr.mk 1 (0#256) 0 0 []) : Tr))
 refine zw [.m _, .m _] ?_
 refine zbu h (fun hc24 h => ?_) (fun hc24 h => ?_)
 refine zw [.v (.A (t : Tr))] ?_
 obtain ⟨g3, h⟩ := zh h
 obtain ⟨x5, hx5, h⟩ := zj h
 refine zbs (args' := [.A (t : Tr)]) (r := .A (x5 : Tr)) (by rw [← hx5]; exact (zh2 t g3)) ?_
 refine zbk 8 (.B [(30, (Enc.cells (t : Tr))), (30, (Enc.cells (x5 : Tr)))]) ?_
 replace h := zp h hr1
 exact zal (fun (r : Tr) => .A (r : Tr)) h (.A (x5 : Tr))
 refine zg (o := or1) () h ?_
 exact zc7 (bl 72 78)
 intro j1 h
 refine zf8 ?_
 refine zw [.m _, .m _, .v (.A (t : Tr))] ?_
 refine w_o (a := .F ([t] : List Tr)) (h := za2 (zcj (α := Tr) (l := [t]) (cs := Enc.cells (t : Tr) ++ []) rfl (by rw [Enc.cons, Enc.nil]))) ?_
 refine zcd (.A ((Tr.mk 5 (0#256) lo hi [t]) : Tr)) (a0 := (zbf (Tr.mk 5 (0#256) lo hi [t]) .full)) rfl rfl rfl (by kernel_rfl) (zi _ _) (by dsimp only [zn, List.set]) ?_
 obtain ⟨x6, hx6, h⟩ := zaa h
 refine zbs (zfj (Tr.mk 5 (0#256) lo hi [t]) x6 hx6) ?_
 refine zbk 8 (.B [(30, (Enc.cells (t : Tr))), (30, (Enc.cells (x6 : Tr)))]) ?_
 exact zal (fun (r : Tr) => .A (r : Tr)) h (.A (x6 : Tr))
 refine zau hc2 ?_
 refine w_r [.p, .p, .v (.b false), .m _, .m _] ?_
 refine za0 h (bz 0 72 4722366482869645213617) (fun j2 => []) (fun j2 => (.B [(30, (Enc.cells (t : Tr))), (30, [.u 0, .raw (.int .u64 0), .raw (.int .u64 0), .raw (.int .u64 0), .raw (.int .u64 0), .i 0, .i 0, .list 0 [] .full])])) ?_ ?_
 intro or2 h hr2
 refine zr ?_
 refine zw [.v (.A (t : Tr))] ?_
 obtain ⟨x7, hx7, h⟩ := zaa h
 refine zbs (zo1 t x7 hx7) ?_
 refine w_o (a := .b (!x7)) ?_
 refine zu h (fun hc25 h => ?_) (fun hc25 h => ?_)
 refine zau hc25 ?_
 refine w_r [.p, .p, .p, .p, .p] ?_
 refine w_r [.p, .p, .p, .p, .p] ?_
 refine w_r [.p, .p, .v (.b true), .m _] ?_
 refine zbo rfl ?_
 refine ze (zc ?_)
 refine zcd (.A (noneT : Tr)) (a0 := (zbf noneT .full)) rfl rfl rfl (by kernel_rfl) (zi _ _) (by dsimp only [zn, List.set]) ?_
 refine zbk 8 (.B [(30, (Enc.cells (t : Tr))), (30, (Enc.cells (noneT : Tr)))]) ?_
 replace h := zp h hr2
 exact zal (fun (r : Tr) => .A (r : Tr)) h (.A (noneT : Tr))
 refine zau hc25 ?_
 refine w_r [.m _, .v (.b (!(hi == 0)))] ?_
 refine zac rfl rfl ?_
 refine zu h (fun hc26 h => ?_) (fun hc26 h => ?_)
 refine zau hc26 ?_
 refine w_r [.m _, .v (.b true), .v (.b true), .m _, .m _] ?_
 refine w_r [.m _] ?_
 refine zac rfl rfl ?_
 obtain ⟨x8, hx8, h⟩ := zaa h
 refine zbs (zhj lo hi x8 hx8) ?_
 refine w_r [.v (.b (!x8)), .v (.b (!x8)), .v (.b (!x8)), .m _] ?_
 refine zbu h (fun hc27 h => ?_) (fun hc27 h => ?_)
 refine ze (zc ?_)
 refine zcd (.A (noneT : Tr)) (a0 := (zbf noneT .full)) rfl rfl rfl (by kernel_rfl) (zi _ _) (by dsimp only [zn, List.set]) ?_
 refine zbk 8 (.B [(30, (Enc.cells (t : Tr))), (30, (Enc.cells (noneT : Tr)))]) ?_
 replace h := zp h hr2
 exact zal (fun (r : Tr) => .A (r : Tr)) h (.A (noneT : Tr))
 refine zw [.v (.ptr 0 0), .v (.u ((t.k : Nat) : Int)), .v (.b (((t.k : Nat) : Int) == 0))] ?_
 refine zu h (fun hc28 h => ?_) (fun hc28 h => ?_)
 refine zau hc28 ?_
 refine w_r [.m _, .v (.b (decide (lo > 0))), .v (.b (decide (lo > 0))), .m _] ?_
 refine zbu h (fun hc29 h => ?_) (fun hc29 h => ?_)
 refine ze (zc ?_)
 refine zcd (.A (noneT : Tr)) (a0 := (zbf noneT .full)) rfl rfl rfl (by kernel_rfl) (zi _ _) (by dsimp only [zn, List.set]) ?_
 refine zbk 8 (.B [(30, (Enc.cells (t : Tr))), (30, (Enc.cells (noneT : Tr)))]) ?_
 replace h := zp h hr2
 exact zal (fun (r : Tr) => .A (r : Tr)) h (.A (noneT : Tr))
 refine zw [.m _] ?_
 refine zu h (fun hc30 h => ?_) (fun hc30 h => ?_)
 refine zau hc30 ?_
 refine w_r [.p, .p, .p, .v (.b true), .m _] ?_
 refine w_r [.p, .p, .p, .v (.b true), .m _] ?_
 refine zbo rfl ?_
 refine ze (zc ?_)
 refine zcd (.A ((Tr.mk 1 (0#256) 0 0 []) : Tr)) (a0 := (zbf (Tr.mk 1 (0#256) 0 0 []) .full)) rfl rfl rfl (by kernel_rfl) (zi _ _) (by dsimp only [zn, List.set]) ?_
 refine zbk 8 (.B [(30, (Enc.cells (t : Tr))), (30, (Enc.cells ((Tr.mk 1 (0#256) 0 0 []) : Tr)))]) ?_
 replace h := zp h hr2
 exact zal (fun (r : Tr) => .A (r : Tr)) h (.A ((Tr.mk 1 (0#256) 0 0 []) : Tr))
 refine zau hc30 ?_
 refine w_r [.v (.ptr 0 0), .v (.u ((t.k : Nat) : Int)), .v (.b (((t.k : Nat) : Int) == 0)), .v (.b (((t.k : Nat) : Int) == 0))] ?_
 refine zau hc28 ?_
 refine w_r [.p, .p, .p, .v (.b true), .m _] ?_
 refine zbo rfl ?_
 refine ze (zc ?_)
 refine zcd (.A ((Tr.mk 1 (0#256) 0 0 []) : Tr)) (a0 := (zbf (Tr.mk 1 (0#256) 0 0 []) .full)) rfl rfl rfl (by kernel_rfl) (zi _ _) (by dsimp only [zn, List.set]) ?_
 refine zbk 8 (.B [(30, (Enc.cells (t : Tr))), (30, (Enc.cells ((Tr.mk 1 (0#256) 0 0 []) : Tr)))]) ?_
 replace h := zp h hr2
 exact zal (fun (r : Tr) => .A (r : Tr)) h (.A ((Tr.mk 1 (0#256) 0 0 []) : Tr))
 refine zau hc28 ?_
 refine w_r [.p, .p, .v (.b false), .m _] ?_
 refine zav rfl ?_
 refine zw [.m _] ?_
 refine zu h (fun hc31 h => ?_) (fun hc31 h => ?_)
 refine zau hc31 ?_
 refine w_r [.p, .p, .p, .v (.b true), .m _] ?_
 refine w_r [.p, .p, .p, .v (.b true), .m _] ?_
 refine zbo rfl ?_
 refine ze (zc ?_)
 refine zcd (.A ((Tr.mk 1 (0#256) 0 0 []) : Tr)) (a0 := (zbf (Tr.mk 1 (0#256) 0 0 []) .full)) rfl rfl rfl (by kernel_rfl) (zi _ _) (by dsimp only [zn, List.set]) ?_
 refine zbk 8 (.B [(30, (Enc.cells (t : Tr))), (30, (Enc.cells ((Tr.mk 1 (0#256) 0 0 []) : Tr)))]) ?_
 replace h := zp h hr2
 exact zal (fun (r : Tr) => .A (r : Tr)) h (.A ((Tr.mk 1 (0#256) 0 0 []) : Tr))
 refine zau hc31 ?_
 refine w_r [.v (.ptr 0 0), .v (.u ((t.k : Nat) : Int)), .v (.b (((t.k : Nat) : Int) == 0)), .v (.b (((t.k : Nat) : Int) == 0))] ?_
 refine zau hc28 ?_
 refine w_r [.v (.ptr 0 0), .v (.u ((t.k : Nat) : Int)), .v (.b (((t.k : Nat) : Int) == 1)), .v (.b (((t.k : Nat) : Int) == 1)), .m _] ?_
 refine zbu h (fun hc32 h => ?_) (fun hc32 h => ?_)
 refine ze (zc ?_)
 refine zcd (.A ((Tr.mk 1 (0#256) 0 0 []) : Tr)) (a0 := (zbf (Tr.mk 1 (0#256) 0 0 []) .full)) rfl rfl rfl (by kernel_rfl) (zi _ _) (by dsimp only [zn, List.set]) ?_
 refine zbk 8 (.B [(30, (Enc.cells (t : Tr))), (30, (Enc.cells ((Tr.mk 1 (0#256) 0 0 []) : Tr)))]) ?_
 replace h := zp h hr2
 exact zal (fun (r : Tr) => .A (r : Tr)) h (.A ((Tr.mk 1 (0#256) 0 0 []) : Tr))
 refine zw [.m _, .m _] ?_
 refine zav rfl ?_
 refine zg (o := or2) () h ?_
 exact zc7 (bl 72 78)
 refine zau hc26 ?_
 refine w_r [.p, .p, .v (.b false), .m _, .p] ?_
 refine w_r [.p, .p, .p, .v (.b false), .v (.b false)] ?_
 refine w_r [.m _] ?_
 refine zav rfl ?_
 refine zw [.v (.ptr 0 0), .v (.u ((t.k : Nat) : Int)), .v (.b (((t.k : Nat) : Int) == 0))] ?_
 refine zu h (fun hc33 h => ?_) (fun hc33 h => ?_)
 refine zau hc33 ?_
 refine w_r [.m _, .v (.b (decide (lo > 0))), .v (.b (decide (lo > 0))), .m _] ?_
 refine zbu h (fun hc34 h => ?_) (fun hc34 h => ?_)
 refine ze (zc ?_)
 refine zcd (.A (noneT : Tr)) (a0 := (zbf noneT .full)) rfl rfl rfl (by kernel_rfl) (zi _ _) (by dsimp only [zn, List.set]) ?_
 refine zbk 8 (.B [(30, (Enc.cells (t : Tr))), (30, (Enc.cells (noneT : Tr)))]) ?_
 replace h := zp h hr2
 exact zal (fun (r : Tr) => .A (r : Tr)) h (.A (noneT : Tr))
 refine zw [.m _] ?_
 refine zu h (fun hc35 h => ?_) (fun hc35 h => ?_)
 refine zau hc35 ?_
 refine w_r [.p, .p, .p, .v (.b true), .m _] ?_
 refine w_r [.p, .p, .p, .v (.b true), .m _] ?_
 refine zbo rfl ?_
 refine ze (zc ?_)
 refine zcd (.A ((Tr.mk 1 (0#256) 0 0 []) : Tr)) (a0 := (zbf (Tr.mk 1 (0#256) 0 0 []) .full)) rfl rfl rfl (by kernel_rfl) (zi _ _) (by dsimp only [zn, List.set]) ?_
 refine zbk 8 (.B [(30, (Enc.cells (t : Tr))), (30, (Enc.cells ((Tr.mk 1 (0#256) 0 0 []) : Tr)))]) ?_
 replace h := zp h hr2
 exact zal (fun (r : Tr) => .A (r : Tr)) h (.A ((Tr.mk 1 (0#256) 0 0 []) : Tr))
 refine zau hc35 ?_
 refine w_r [.v (.ptr 0 0), .v (.u ((t.k : Nat) : Int)), .v (.b (((t.k : Nat) : Int) == 0)), .v (.b (((t.k : Nat) : Int) == 0))] ?_
 refine zau hc33 ?_
 refine w_r [.p, .p, .p, .v (.b true), .m _] ?_
 refine zbo rfl ?_
 refine ze (zc ?_)
 refine zcd (.A ((Tr.mk 1 (0#256) 0 0 []) : Tr)) (a0 := (zbf (Tr.mk 1 (0#256) 0 0 []) .full)) rfl rfl rfl (by kernel_rfl) (zi _ _) (by dsimp only [zn, List.set]) ?_
 refine zbk 8 (.B [(30, (Enc.cells (t : Tr))), (30, (Enc.cells ((Tr.mk 1 (0#256) 0 0 []) : Tr)))]) ?_
 replace h := zp h hr2
 exact zal (fun (r : Tr) => .A (r : Tr)) h (.A ((Tr.mk 1 (0#256) 0 0 []) : Tr))
 refine zau hc33 ?_
 refine w_r [.p, .p, .v (.b false), .m _] ?_
 refine zav rfl ?_
 refine zw [.m _] ?_
 refine zu h (fun hc36 h => ?_) (fun hc36 h => ?_)
 refine zau hc36 ?_
 refine w_r [.p, .p, .p, .v (.b true), .m _] ?_
 refine w_r [.p, .p, .p, .v (.b true), .m _] ?_
 refine zbo rfl ?_
 refine ze (zc ?_)
 refine zcd (.A ((Tr.mk 1 (0#256) 0 0 []) : Tr)) (a0 := (zbf (Tr.mk 1 (0#256) 0 0 []) .full)) rfl rfl rfl (by kernel_rfl) (zi _ _) (by dsimp only [zn, List.set]) ?_
 refine zbk 8 (.B [(30, (Enc.cells (t : Tr))), (30, (Enc.cells ((Tr.mk 1 (0#256) 0 0 []) : Tr)))]) ?_
 replace h := zp h hr2
 exact zal (fun (r : Tr) => .A (r : Tr)) h (.A ((Tr.mk 1 (0#256) 0 0 []) : Tr))
 refine zau hc36 ?_
 refine w_r [.v (.ptr 0 0), .v (.u ((t.k : Nat) : Int)), .v (.b (((t.k : Nat) : Int) == 0)), .v (.b (((t.k : Nat) : Int) == 0))] ?_
 refine zau hc33 ?_
 refine w_r [.v (.ptr 0 0), .v (.u ((t.k : Nat) : Int)), .v (.b (((t.k : Nat) : Int) == 1)), .v (.b (((t.k : Nat) : Int) == 1)), .m _] ?_
 refine zbu h (fun hc37 h => ?_) (fun hc37 h => ?_)
 refine ze (zc ?_)
 refine zcd (.A ((Tr.mk 1 (0#256) 0 0 []) : Tr)) (a0 := (zbf (Tr.mk 1 (0#256) 0 0 []) .full)) rfl rfl rfl (by kernel_rfl) (zi _ _) (by dsimp only [zn, List.set]) ?_
 refine zbk 8 (.B [(30, (Enc.cells (t : Tr))), (30, (Enc.cells ((Tr.mk 1 (0#256) 0 0 []) : Tr)))]) ?_
 replace h := zp h hr2
 exact zal (fun (r : Tr) => .A (r : Tr)) h (.A ((Tr.mk 1 (0#256) 0 0 []) : Tr))
 refine zw [.m _, .m _] ?_
 refine zav rfl ?_
 refine zg (o := or2) () h ?_
 exact zc7 (bl 72 78)
 intro j2 h
 refine zf8 ?_
 refine zw [.m _, .m _, .v (.A (t : Tr))] ?_
 refine w_o (a := .F ([t] : List Tr)) (h := za2 (zcj (α := Tr) (l := [t]) (cs := Enc.cells (t : Tr) ++ []) rfl (by rw [Enc.cons, Enc.nil]))) ?_
 refine zcd (.A ((Tr.mk 5 (0#256) lo hi [t]) : Tr)) (a0 := (zbf (Tr.mk 5 (0#256) lo hi [t]) .full)) rfl rfl rfl (by kernel_rfl) (zi _ _) (by dsimp only [zn, List.set]) ?_
 obtain ⟨x9, hx9, h⟩ := zaa h
 refine zbs (zfj (Tr.mk 5 (0#256) lo hi [t]) x9 hx9) ?_
 refine zbk 8 (.B [(30, (Enc.cells (t : Tr))), (30, (Enc.cells (x9 : Tr)))]) ?_
 exact zal (fun (r : Tr) => .A (r : Tr)) h (.A (x9 : Tr))
 refine zau hc1 ?_
 refine w_r [.p, .p, .v (.b false), .m _, .v (.b (lo == 1))] ?_
 refine zu h (fun hc38 h => ?_) (fun hc38 h => ?_)
 refine zau hc38 ?_
 refine w_r [.m _, .v (.b (hi == 1)), .v (.b (hi == 1)), .m _, .m _] ?_
 refine za0 h (bz 0 72 4722366482869645213617) (fun j3 => []) (fun j3 => (.B [(30, (Enc.cells (t : Tr))), (30, [.u 0, .raw (.int .u64 0), .raw (.int .u64 0), .raw (.int .u64 0), .raw (.int .u64 0), .i 0, .i 0, .list 0 [] .full])])) ?_ ?_
 intro or3 h hr3
 refine zr ?_
 refine zw [.v (.A (t : Tr))] ?_
 obtain ⟨x10, hx10, h⟩ := zaa h
 refine zbs (zo1 t x10 hx10) ?_
 refine w_o (a := .b (!x10)) ?_
 refine zu h (fun hc39 h => ?_) (fun hc39 h => ?_)
 refine zau hc39 ?_
 refine w_r [.p, .p, .p, .p, .p] ?_
 refine w_r [.p, .p, .p, .p, .p] ?_
 refine w_r [.p, .p, .v (.b true), .m _] ?_
 refine zbo rfl ?_
 refine ze (zc ?_)
 refine zcd (.A (noneT : Tr)) (a0 := (zbf noneT .full)) rfl rfl rfl (by kernel_rfl) (zi _ _) (by dsimp only [zn, List.set]) ?_
 refine zbk 8 (.B [(30, (Enc.cells (t : Tr))), (30, (Enc.cells (noneT : Tr)))]) ?_
 replace h := zp h hr3
 exact zal (fun (r : Tr) => .A (r : Tr)) h (.A (noneT : Tr))
 refine zau hc39 ?_
 refine w_r [.m _, .v (.b true), .m _, .m _, .v (.b (!(hi == 1)))] ?_
 refine w_r [.v (.b (!(hi == 1)))] ?_
 refine zac rfl rfl ?_
 refine zu h (fun hc40 h => ?_) (fun hc40 h => ?_)
 refine zau hc40 ?_
 refine w_r [.m _, .m _] ?_
 refine zac rfl rfl ?_
 obtain ⟨x11, hx11, h⟩ := zaa h
 refine zbs (zhj lo hi x11 hx11) ?_
 refine w_r [.v (.b (!x11)), .v (.b (!x11)), .v (.b (!x11)), .m _] ?_
 refine zbu h (fun hc41 h => ?_) (fun hc41 h => ?_)
 refine ze (zc ?_)
 refine zcd (.A (noneT : Tr)) (a0 := (zbf noneT .full)) rfl rfl rfl (by kernel_rfl) (zi _ _) (by dsimp only [zn, List.set]) ?_
 refine zbk 8 (.B [(30, (Enc.cells (t : Tr))), (30, (Enc.cells (noneT : Tr)))]) ?_
 replace h := zp h hr3
 exact zal (fun (r : Tr) => .A (r : Tr)) h (.A (noneT : Tr))
 refine zw [.v (.ptr 0 0), .v (.u ((t.k : Nat) : Int)), .v (.b (((t.k : Nat) : Int) == 0))] ?_
 refine zu h (fun hc42 h => ?_) (fun hc42 h => ?_)
 refine zau hc42 ?_
 refine w_r [.m _, .v (.b (decide (lo > 0))), .v (.b (decide (lo > 0))), .m _] ?_
 refine zbu h (fun hc43 h => ?_) (fun hc43 h => ?_)
 refine ze (zc ?_)
 refine zcd (.A (noneT : Tr)) (a0 := (zbf noneT .full)) rfl rfl rfl (by kernel_rfl) (zi _ _) (by dsimp only [zn, List.set]) ?_
 refine zbk 8 (.B [(30, (Enc.cells (t : Tr))), (30, (Enc.cells (noneT : Tr)))]) ?_
 replace h := zp h hr3
 exact zal (fun (r : Tr) => .A (r : Tr)) h (.A (noneT : Tr))
 refine zw [.m _, .m _, .v (.ptr 0 0), .v (.u ((t.k : Nat) : Int)), .v (.b (((t.k : Nat) : Int) == 0))] ?_
 refine w_r [.v (.b (((t.k : Nat) : Int) == 0))] ?_
 refine zau hc42 ?_
 refine w_r [.p, .p, .p, .v (.b true), .m _] ?_
 refine zbo rfl ?_
 refine ze (zc ?_)
 refine zcd (.A ((Tr.mk 1 (0#256) 0 0 []) : Tr)) (a0 := (zbf (Tr.mk 1 (0#256) 0 0 []) .full)) rfl rfl rfl (by kernel_rfl) (zi _ _) (by dsimp only [zn, List.set]) ?_
 refine zbk 8 (.B [(30, (Enc.cells (t : Tr))), (30, (Enc.cells ((Tr.mk 1 (0#256) 0 0 []) : Tr)))]) ?_
 replace h := zp h hr3
 exact zal (fun (r : Tr) => .A (r : Tr)) h (.A ((Tr.mk 1 (0#256) 0 0 []) : Tr))
 refine zau hc42 ?_
 refine w_r [.p, .p, .v (.b false), .m _] ?_
 refine zav rfl ?_
 refine zw [.m _, .m _, .v (.ptr 0 0), .v (.u ((t.k : Nat) : Int)), .v (.b (((t.k : Nat) : Int) == 0))] ?_
 refine w_r [.v (.b (((t.k : Nat) : Int) == 0))] ?_
 refine zau hc42 ?_
 refine w_r [.v (.ptr 0 0), .v (.u ((t.k : Nat) : Int)), .v (.b (((t.k : Nat) : Int) == 1)), .v (.b (((t.k : Nat) : Int) == 1)), .m _] ?_
 refine zbu h (fun hc44 h => ?_) (fun hc44 h => ?_)
 refine ze (zc ?_)
 refine zcd (.A ((Tr.mk 1 (0#256) 0 0 []) : Tr)) (a0 := (zbf (Tr.mk 1 (0#256) 0 0 []) .full)) rfl rfl rfl (by kernel_rfl) (zi _ _) (by dsimp only [zn, List.set]) ?_
 refine zbk 8 (.B [(30, (Enc.cells (t : Tr))), (30, (Enc.cells ((Tr.mk 1 (0#256) 0 0 []) : Tr)))]) ?_
 replace h := zp h hr3
 exact zal (fun (r : Tr) => .A (r : Tr)) h (.A ((Tr.mk 1 (0#256) 0 0 []) : Tr))
 refine zw [.m _, .m _] ?_
 refine zbu h (fun hc45 h => ?_) (fun hc45 h => ?_)
 refine zw [.v (.A (t : Tr))] ?_
 obtain ⟨g4, h⟩ := zh h
 obtain ⟨x12, hx12, h⟩ := zj h
 refine zbs (args' := [.A (t : Tr)]) (r := .A (x12 : Tr)) (by rw [← hx12]; exact (zh2 t g4)) ?_
 refine zbk 8 (.B [(30, (Enc.cells (t : Tr))), (30, (Enc.cells (x12 : Tr)))]) ?_
 replace h := zp h hr3
 exact zal (fun (r : Tr) => .A (r : Tr)) h (.A (x12 : Tr))
 refine zg (o := or3) () h ?_
 exact zc7 (bl 72 78)
 refine zau hc40 ?_
 refine w_r [.p, .p, .p, .p, .v (.b false)] ?_
 refine w_r [.v (.b false), .m _] ?_
 refine zav rfl ?_
 refine zw [.v (.ptr 0 0), .v (.u ((t.k : Nat) : Int)), .v (.b (((t.k : Nat) : Int) == 0))] ?_
 refine zu h (fun hc46 h => ?_) (fun hc46 h => ?_)
 refine zau hc46 ?_
 refine w_r [.m _, .v (.b (decide (lo > 0))), .v (.b (decide (lo > 0))), .m _] ?_
 refine zbu h (fun hc47 h => ?_) (fun hc47 h => ?_)
 refine ze (zc ?_)
 refine zcd (.A (noneT : Tr)) (a0 := (zbf noneT .full)) rfl rfl rfl (by kernel_rfl) (zi _ _) (by dsimp only [zn, List.set]) ?_
 refine zbk 8 (.B [(30, (Enc.cells (t : Tr))), (30, (Enc.cells (noneT : Tr)))]) ?_
 replace h := zp h hr3
 exact zal (fun (r : Tr) => .A (r : Tr)) h (.A (noneT : Tr))
 refine zw [.m _, .m _, .v (.ptr 0 0), .v (.u ((t.k : Nat) : Int)), .v (.b (((t.k : Nat) : Int) == 0))] ?_
 refine w_r [.v (.b (((t.k : Nat) : Int) == 0))] ?_
 refine zau hc46 ?_
 refine w_r [.p, .p, .p, .v (.b true), .m _] ?_
 refine zbo rfl ?_
 refine ze (zc ?_)
 refine zcd (.A ((Tr.mk 1 (0#256) 0 0 []) : Tr)) (a0 := (zbf (Tr.mk 1 (0#256) 0 0 []) .full)) rfl rfl rfl (by kernel_rfl) (zi _ _) (by dsimp only [zn, List.set]) ?_
 refine zbk 8 (.B [(30, (Enc.cells (t : Tr))), (30, (Enc.cells ((Tr.mk 1 (0#256) 0 0 []) : Tr)))]) ?_
 replace h := zp h hr3
 exact zal (fun (r : Tr) => .A (r : Tr)) h (.A ((Tr.mk 1 (0#256) 0 0 []) : Tr))
 refine zau hc46 ?_
 refine w_r [.p, .p, .v (.b false), .m _] ?_
 refine zav rfl ?_
 refine zw [.m _, .m _, .v (.ptr 0 0), .v (.u ((t.k : Nat) : Int)), .v (.b (((t.k : Nat) : Int) == 0))] ?_
 refine w_r [.v (.b (((t.k : Nat) : Int) == 0))] ?_
 refine zau hc46 ?_
 refine w_r [.v (.ptr 0 0), .v (.u ((t.k : Nat) : Int)), .v (.b (((t.k : Nat) : Int) == 1)), .v (.b (((t.k : Nat) : Int) == 1)), .m _] ?_
 refine zbu h (fun hc48 h => ?_) (fun hc48 h => ?_)
 refine ze (zc ?_)
 refine zcd (.A ((Tr.mk 1 (0#256) 0 0 []) : Tr)) (a0 := (zbf (Tr.mk 1 (0#256) 0 0 []) .full)) rfl rfl rfl (by kernel_rfl) (zi _ _) (by dsimp only [zn, List.set]) ?_
 refine zbk 8 (.B [(30, (Enc.cells (t : Tr))), (30, (Enc.cells ((Tr.mk 1 (0#256) 0 0 []) : Tr)))]) ?_
 replace h := zp h hr3
 exact zal (fun (r : Tr) => .A (r : Tr)) h (.A ((Tr.mk 1 (0#256) 0 0 []) : Tr))
 refine zw [.m _, .m _] ?_
 refine zbu h (fun hc49 h => ?_) (fun hc49 h => ?_)
 refine zw [.v (.A (t : Tr))] ?_
 obtain ⟨g5, h⟩ := zh h
 obtain ⟨x13, hx13, h⟩ := zj h
 refine zbs (args' := [.A (t : Tr)]) (r := .A (x13 : Tr)) (by rw [← hx13]; exact (zh2 t g5)) ?_
 refine zbk 8 (.B [(30, (Enc.cells (t : Tr))), (30, (Enc.cells (x13 : Tr)))]) ?_
 replace h := zp h hr3
 exact zal (fun (r : Tr) => .A (r : Tr)) h (.A (x13 : Tr))
 refine zg (o := or3) () h ?_
 exact zc7 (bl 72 78)
 intro j3 h
 refine zf8 ?_
 refine zw [.m _, .m _, .v (.A (t : Tr))] ?_
 refine w_o (a := .F ([t] : List Tr)) (h := za2 (zcj (α := Tr) (l := [t]) (cs := Enc.cells (t : Tr) ++ []) rfl (by rw [Enc.cons, Enc.nil]))) ?_
 refine zcd (.A ((Tr.mk 5 (0#256) lo hi [t]) : Tr)) (a0 := (zbf (Tr.mk 5 (0#256) lo hi [t]) .full)) rfl rfl rfl (by kernel_rfl) (zi _ _) (by dsimp only [zn, List.set]) ?_
 obtain ⟨x14, hx14, h⟩ := zaa h
 refine zbs (zfj (Tr.mk 5 (0#256) lo hi [t]) x14 hx14) ?_
 refine zbk 8 (.B [(30, (Enc.cells (t : Tr))), (30, (Enc.cells (x14 : Tr)))]) ?_
 exact zal (fun (r : Tr) => .A (r : Tr)) h (.A (x14 : Tr))
 refine zau hc38 ?_
 refine w_r [.p, .p, .v (.b false), .m _, .m _] ?_
 refine ze ?_
 refine zr ?_
 refine zw [.v (.A (t : Tr))] ?_
 obtain ⟨x15, hx15, h⟩ := zaa h
 refine zbs (zo1 t x15 hx15) ?_
 refine w_o (a := .b (!x15)) ?_
 refine zu h (fun hc50 h => ?_) (fun hc50 h => ?_)
 refine zau hc50 ?_
 refine w_r [.p, .p, .p, .p, .p] ?_
 refine w_r [.p, .p, .p, .p, .p] ?_
 refine w_r [.p, .p, .v (.b true), .m _] ?_
 refine zbo rfl ?_
 refine ze (zc ?_)
 refine zcd (.A (noneT : Tr)) (a0 := (zbf noneT .full)) rfl rfl rfl (by kernel_rfl) (zi _ _) (by dsimp only [zn, List.set]) ?_
 refine zbk 8 (.B [(30, (Enc.cells (t : Tr))), (30, (Enc.cells (noneT : Tr)))]) ?_
 exact zal (fun (r : Tr) => .A (r : Tr)) h (.A (noneT : Tr))
 refine zau hc50 ?_
 refine w_r [.m _, .v (.b true), .m _, .m _, .v (.b true)] ?_
 refine w_r [.v (.b true), .m _, .m _, .m _] ?_
 refine zac rfl rfl ?_
 obtain ⟨x16, hx16, h⟩ := zaa h
 refine zbs (zhj lo hi x16 hx16) ?_
 refine w_r [.v (.b (!x16)), .v (.b (!x16)), .v (.b (!x16)), .m _] ?_
 refine zbu h (fun hc51 h => ?_) (fun hc51 h => ?_)
 refine ze (zc ?_)
 refine zcd (.A (noneT : Tr)) (a0 := (zbf noneT .full)) rfl rfl rfl (by kernel_rfl) (zi _ _) (by dsimp only [zn, List.set]) ?_
 refine zbk 8 (.B [(30, (Enc.cells (t : Tr))), (30, (Enc.cells (noneT : Tr)))]) ?_
 exact zal (fun (r : Tr) => .A (r : Tr)) h (.A (noneT : Tr))
 refine zw [.v (.ptr 0 0), .v (.u ((t.k : Nat) : Int)), .v (.b (((t.k : Nat) : Int) == 0))] ?_
 refine zu h (fun hc52 h => ?_) (fun hc52 h => ?_)
 refine zau hc52 ?_
 refine w_r [.m _, .v (.b (decide (lo > 0))), .v (.b (decide (lo > 0))), .m _] ?_
 refine zbu h (fun hc53 h => ?_) (fun hc53 h => ?_)
 refine ze (zc ?_)
 refine zcd (.A (noneT : Tr)) (a0 := (zbf noneT .full)) rfl rfl rfl (by kernel_rfl) (zi _ _) (by dsimp only [zn, List.set]) ?_
 refine zbk 8 (.B [(30, (Enc.cells (t : Tr))), (30, (Enc.cells (noneT : Tr)))]) ?_
 exact zal (fun (r : Tr) => .A (r : Tr)) h (.A (noneT : Tr))
 refine zw [.m _, .m _, .v (.ptr 0 0), .v (.u ((t.k : Nat) : Int)), .v (.b (((t.k : Nat) : Int) == 0))] ?_
 refine w_r [.v (.b (((t.k : Nat) : Int) == 0))] ?_
 refine zau hc52 ?_
 refine w_r [.p, .p, .p, .v (.b true), .m _] ?_
 refine zbo rfl ?_
 refine ze (zc ?_)
 refine zcd (.A ((Tr.mk 1 (0#256) 0 0 []) : Tr)) (a0 := (zbf (Tr.mk 1 (0#256) 0 0 []) .full)) rfl rfl rfl (by kernel_rfl) (zi _ _) (by dsimp only [zn, List.set]) ?_
 refine zbk 8 (.B [(30, (Enc.cells (t : Tr))), (30, (Enc.cells ((Tr.mk 1 (0#256) 0 0 []) : Tr)))]) ?_
 exact zal (fun (r : Tr) => .A (r : Tr)) h (.A ((Tr.mk 1 (0#256) 0 0 []) : Tr))
 refine zau hc52 ?_
 refine w_r [.p, .p, .v (.b false), .m _] ?_
 refine zav rfl ?_
 refine zw [.m _, .m _, .v (.ptr 0 0), .v (.u ((t.k : Nat) : Int)), .v (.b (((t.k : Nat) : Int) == 0))] ?_
 refine w_r [.v (.b (((t.k : Nat) : Int) == 0))] ?_
 refine zau hc52 ?_
 refine w_r [.v (.ptr 0 0), .v (.u ((t.k : Nat) : Int)), .v (.b (((t.k : Nat) : Int) == 1)), .v (.b (((t.k : Nat) : Int) == 1)), .m _] ?_
 refine zbu h (fun hc54 h => ?_) (fun hc54 h => ?_)
 refine ze (zc ?_)
 refine zcd (.A ((Tr.mk 1 (0#256) 0 0 []) : Tr)) (a0 := (zbf (Tr.mk 1 (0#256) 0 0 []) .full)) rfl rfl rfl (by kernel_rfl) (zi _ _) (by dsimp only [zn, List.set]) ?_
 refine zbk 8 (.B [(30, (Enc.cells (t : Tr))), (30, (Enc.cells ((Tr.mk 1 (0#256) 0 0 []) : Tr)))]) ?_
 exact zal (fun (r : Tr) => .A (r : Tr)) h (.A ((Tr.mk 1 (0#256) 0 0 []) : Tr))
 refine zw [.m _, .m _] ?_
 refine zav rfl ?_
 refine zw [.m _, .m _, .v (.A (t : Tr))] ?_
 refine w_o (a := .F ([t] : List Tr)) (h := za2 (zcj (α := Tr) (l := [t]) (cs := Enc.cells (t : Tr) ++ []) rfl (by rw [Enc.cons, Enc.nil]))) ?_
 refine zcd (.A ((Tr.mk 5 (0#256) lo hi [t]) : Tr)) (a0 := (zbf (Tr.mk 5 (0#256) lo hi [t]) .full)) rfl rfl rfl (by kernel_rfl) (zi _ _) (by dsimp only [zn, List.set]) ?_
 obtain ⟨x17, hx17, h⟩ := zaa h
 refine zbs (zfj (Tr.mk 5 (0#256) lo hi [t]) x17 hx17) ?_
 refine zbk 8 (.B [(30, (Enc.cells (t : Tr))), (30, (Enc.cells (x17 : Tr)))]) ?_
 exact zal (fun (r : Tr) => .A (r : Tr)) h (.A (x17 : Tr))
def zk7 (t : Tr) : Option Tr :=
 (za3 (zdn (Tr.mk 6 (0#256) 0 0 [t])) (fun x1 => (some x1)))
theorem ent13 : Ent Try.prog 13 := enters_of Try.func13 (by kernel_rfl) rfl
theorem z02 (t : Tr) (r : Tr) (h : zk7 t = some r) : Pure (ITP Try.prog) Try.prog 13 [.A (t : Tr)] (.A (r : Tr)) := by
 unfold zk7 at h
 refine zaw 6 mix Try.func13 ent13 ?_
 refine ze (zc ?_)
 refine zbc (a := .ptr 0 0) (σ'' := (.B [(30, (Enc.cells (t : Tr)))])) ?_
 refine zbc (a := .ptr 1 0) (σ'' := (.B [(30, (Enc.cells (t : Tr))), (30, [.u 0, .raw (.int .u64 0), .raw (.int .u64 0), .raw (.int .u64 0), .raw (.int .u64 0), .i 0, .i 0, .list 0 [] .full])])) ?_
 refine zw [.v (.A (t : Tr))] ?_
 refine w_o (a := .F ([t] : List Tr)) (h := za2 (zcj (α := Tr) (l := [t]) (cs := Enc.cells (t : Tr) ++ []) rfl (by rw [Enc.cons, Enc.nil]))) ?_
 refine zcd (.A ((Tr.mk 6 (0#256) 0 0 [t]) : Tr)) (a0 := (zbf (Tr.mk 6 (0#256) 0 0 [t]) .full)) rfl rfl rfl (by kernel_rfl) (zi _ _) (by dsimp only [zn, List.set]) ?_
 obtain ⟨x1, hx1, h⟩ := zaa h
 refine zbs (zfj (Tr.mk 6 (0#256) 0 0 [t]) x1 hx1) ?_
 refine zbk 8 (.B [(30, (Enc.cells (t : Tr))), (30, (Enc.cells (x1 : Tr)))]) ?_
 exact zal (fun (r : Tr) => .A (r : Tr)) h (.A (x1 : Tr))
end Go.Ab
