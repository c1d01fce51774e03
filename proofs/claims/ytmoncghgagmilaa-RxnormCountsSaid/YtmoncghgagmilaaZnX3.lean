/-
  RxnormCounts: its walk.
-/
import Derived.Test.YtmoncghgagmilaaZnNf
import Derived.Test.YtmoncghgagmilaaZdQq
import Derived.Test.YtmoncghgagmilaaZnV3
import Derived.Test.YtmoncghgagmilaaZnW1
set_option linter.unusedSimpArgs false
set_option linter.unusedVariables false
set_option maxRecDepth 100000
set_option maxHeartbeats 4000000
namespace Go.Ab
open Go Go.RowKit Go.Fwd Go.Proofs
def zf6 (t : Tr) : Option Tr :=
 (chk ((CS 998 t ∨ zbx t = false) ∧ (pre t).length < 2 ^ 61) (zal (ztf t) (fun x1 => (bif (x1.2 != 0) then (some noneT) else (some x1.1)))))
theorem ent16 : Ent Try.prog 16 := enters_of Try.func16 (by kernel_rfl) rfl
theorem zf8 (t : Tr) (r : Tr) (h : zf6 t = some r) : Pure (ITP Try.prog) Try.prog 16 [.A (t : Tr)] (.A (r : Tr)) := by
 unfold zf6 at h
 refine zax 13 mix Try.func16 ent16 ?_
 refine ze (zd ?_)
 refine zbj (a := .ptr 0 0) (σ'' := (.B [(30, (Enc.cells (t : Tr)))])) ?_
 refine zbj (a := .ptr 1 0) (σ'' := (.B [(30, (Enc.cells (t : Tr))), (30, [.u 0, .raw (.int .u64 0), .raw (.int .u64 0), .raw (.int .u64 0), .raw (.int .u64 0), .i 0, .i 0, .list 0 [] .full])])) ?_
 refine zr [.v (.A (t : Tr))] ?_
 obtain ⟨g1, h⟩ := zh h
 obtain ⟨x1, hx1, h⟩ := zj h
 refine zbq (args' := [.A (t : Tr)]) (r := .tup [.A (x1.1 : Tr), .i x1.2]) (by rw [← hx1]; exact (zxs t g1)) ?_
 refine w_r [.m _, .x _, .x _] ?_
 refine zbj (a := .ptr 2 0) (σ'' := (.B [(30, (Enc.cells (t : Tr))), (30, [.u 0, .raw (.int .u64 0), .raw (.int .u64 0), .raw (.int .u64 0), .raw (.int .u64 0), .i 0, .i 0, .list 0 [] .full]), (30, [.u 0, .raw (.int .u64 0), .raw (.int .u64 0), .raw (.int .u64 0), .raw (.int .u64 0), .i 0, .i 0, .list 0 [] .full])])) ?_
 refine zbm 8 (.B [(30, (Enc.cells (t : Tr))), (30, [.u 0, .raw (.int .u64 0), .raw (.int .u64 0), .raw (.int .u64 0), .raw (.int .u64 0), .i 0, .i 0, .list 0 [] .full]), (30, (Enc.cells (x1.1 : Tr)))]) ?_
 refine zad ?_
 refine ze ?_
 refine zr [.m _, .v (.b (x1.2 != 0))] ?_
 refine zbv h (fun hc1 h => ?_) (fun hc1 h => ?_)
 refine ze (zd ?_)
 refine zdz (.A (noneT : Tr)) (a0 := (zbh noneT .full)) rfl rfl rfl (by kernel_rfl) (zi _ _) (by dsimp only [zp, List.set]) ?_
 refine zbm 8 (.B [(30, (Enc.cells (t : Tr))), (30, (Enc.cells (noneT : Tr))), (30, (Enc.cells (x1.1 : Tr)))]) ?_
 exact zap (fun (r : Tr) => .A (r : Tr)) h (.A (noneT : Tr))
 refine zr [.v (.A (x1.1 : Tr))] ?_
 refine zbm 8 (.B [(30, (Enc.cells (t : Tr))), (30, (Enc.cells (x1.1 : Tr))), (30, (Enc.cells (x1.1 : Tr)))]) ?_
 exact zap (fun (r : Tr) => .A (r : Tr)) h (.A (x1.1 : Tr))
def znv (fuel : Nat) (l : (List Sm)) : Option Bool :=
 (chk (List.length l < 2 ^ 63 ∧ ∀ y ∈ l, y.2.1 < 256) (zal (zon l) (fun x1 => (chk ((CS 998 x1 ∨ zbx x1 = false) ∧ (pre x1).length < 2 ^ 61) (zal (ztf x1) (fun x2 => (bif (x2.2 != 0) then (some false) else (chk ((pre x2.1).length < 2 ^ 60) (zal (zqq x2.1) (fun x3 => (bif (!x3) then (some true) else (bif (((x2.1.k : Nat) : Int) == 1) then (some true) else (chk ((pre x2.1).length < 2 ^ 40) (zal (zbd x2.1 (0 : Int) (1 : Int)) (fun x4 => (zau (zf6 x4) (fun x5 => (chk ((pre x2.1).length < 2 ^ 40) (zal (zbd x2.1 (0 : Int) (-1)) (fun x6 => (zau (zf6 x6) (fun x7 => (chk ((pre x2.1).length < 2 ^ 40) (zal (zbd x2.1 (1 : Int) (-1)) (fun x8 => (zau (zf6 x8) (fun x9 => (zds (τ := Unit) (chk ((pre x2.1).length < 2 ^ 60) (zal (zh6 x2.1) (fun x10 => (bif x10 then (chk ((pre x5).length < 2 ^ 61 ∧ (pre x2.1).length < 2 ^ 61) (zal (zd0 x5 x2.1) (fun x11 => (bif (!x11) then (some (Sum.inr false)) else (chk ((pre x9).length < 2 ^ 61 ∧ (pre x7).length < 2 ^ 61) (zal (zd0 x9 x7) (fun x12 => (bif (!x12) then (some (Sum.inr false)) else (chk ((pre x5).length < 2 ^ 60) (zal (zh6 x5) (fun x13 => (bif (!x13) then (some (Sum.inr false)) else (chk ((pre x7).length < 2 ^ 60) (zal (zh6 x7) (fun x14 => (bif (!x14) then (some (Sum.inr false)) else (chk ((pre x9).length < 2 ^ 60) (zal (zh6 x9) (fun x15 => (chk ((pre x2.1).length < 2 ^ 60) (zal (zh6 x2.1) (fun x16 => (bif (!(x15 == x16)) then (some (Sum.inr false)) else (some (Sum.inl ()))))))))))))))))))))))))) else (chk ((pre x5).length < 2 ^ 60) (zal (zh6 x5) (fun x17 => (bif (!x17) then (some (Sum.inr false)) else (chk ((pre x7).length < 2 ^ 60) (zal (zh6 x7) (fun x18 => (bif (!x18) then (some (Sum.inr false)) else (chk ((pre x9).length < 2 ^ 60) (zal (zh6 x9) (fun x19 => (chk ((pre x2.1).length < 2 ^ 60) (zal (zh6 x2.1) (fun x20 => (bif (!(x19 == x20)) then (some (Sum.inr false)) else (some (Sum.inl ()))))))))))))))))))))) (fun j1 => (zds (τ := Unit) (zcl (β := Int) (fun s1 => (bif (decide (s1 < (List.length [x5, x7, x9] : Int))) then (chk (0 ≤ s1 ∧ s1 < (List.length [x5, x7, x9] : Int)) (zal (ix [x5, x7, x9] s1) (fun x21 => (bif (((x21.k : Nat) : Int) == 0) then (some (Sum.inr (Sum.inr false))) else (chk ((pre x21).length < 2 ^ 40) (zal (zbd x21 (0 : Int) (-1)) (fun x22 => (zau (zf6 x22) (fun x23 => (chk ((pre x23).length < 2 ^ 61 ∧ (pre x7).length < 2 ^ 61) (zal (zd0 x23 x7) (fun x24 => (bif (!x24) then (some (Sum.inr (Sum.inr false))) else (chk (-9223372036854775808 ≤ (s1 + 1) ∧ (s1 + 1) < 9223372036854775808) (some (Sum.inl ((s1 + 1)))))))))))))))))) else (some (Sum.inr (Sum.inl ()))))) fuel (0)) (fun j2 => (chk ((pre x7).length < 2 ^ 40) (zal (zbd x7 (1 : Int) (-1)) (fun x25 => (zau (zf6 x25) (fun x26 => (chk ((pre x26).length < 2 ^ 61 ∧ (pre x7).length < 2 ^ 61) (zal (zd0 x26 x7) (fun x27 => (bif (!x27) then (some false) else (chk ((pre x9).length < 2 ^ 40) (zal (zbd x9 (1 : Int) (-1)) (fun x28 => (zau (zf6 x28) (fun x29 => (chk ((pre x29).length < 2 ^ 61 ∧ (pre x9).length < 2 ^ 61) (zal (zd0 x29 x9) (fun x30 => (bif (!x30) then (some false) else (chk ((pre x7).length < 2 ^ 40) (zal (zbd x7 (0 : Int) (1 : Int)) (fun x31 => (zau (zf6 x31) (fun x32 => (chk ((pre x32).length < 2 ^ 61 ∧ (pre x7).length < 2 ^ 61) (zal (zd0 x32 x7) (fun x33 => (bif (!x33) then (some false) else (chk ((pre x5).length < 2 ^ 40) (zal (zbd x5 (0 : Int) (1 : Int)) (fun x34 => (zau (zf6 x34) (fun x35 => (chk ((pre x35).length < 2 ^ 61 ∧ (pre x5).length < 2 ^ 61) (zal (zd0 x35 x5) (fun x36 => (bif (!x36) then (some false) else (chk ((pre x9).length < 2 ^ 40) (zal (zbd x9 (0 : Int) (1 : Int)) (fun x37 => (zau (zf6 x37) (fun x38 => (chk ((pre x38).length < 2 ^ 61 ∧ (pre x7).length < 2 ^ 61) (zal (zd0 x38 x7) (fun x39 => (bif (!x39) then (some false) else (bif (((x2.1.k : Nat) : Int) == 3) then (some true) else (bif (((x2.1.k : Nat) : Int) == 5) then (some true) else (chk ((zam [x2.1, x7]).length ≤ 2 ^ 40) (zal (zhi [x2.1, x7]) (fun x40 => (zau (zf6 x40) (fun x41 => (chk ((pre x41).length < 2 ^ 61 ∧ (pre x9).length < 2 ^ 61) (zal (zd0 x41 x9) (fun x42 => (bif x42 then (chk ((zam [x7, x2.1]).length ≤ 2 ^ 40) (zal (zhi [x7, x2.1]) (fun x43 => (zau (zf6 x43) (fun x44 => (chk ((pre x44).length < 2 ^ 61 ∧ (pre x9).length < 2 ^ 61) (zal (zd0 x44 x9) (fun x45 => (bif x45 then (chk ((zam [x7, x7]).length ≤ 2 ^ 40) (zal (zhi [x7, x7]) (fun x46 => (zau (zf6 x46) (fun x47 => (chk ((pre x47).length < 2 ^ 61 ∧ (pre x7).length < 2 ^ 61) (zal (zd0 x47 x7) (fun x48 => (some x48))))))))) else (some false)))))))))) else (some false))))))))))))))))))))))))))))))))))))))))))))))))))))))))))))))))))))))))))))))))))))))))
theorem ent5 : Ent Try.prog 5 := enters_of Try.func5 (by kernel_rfl) rfl
theorem z4o (fuel : Nat) (l : (List Sm)) (r : Bool) (h : znv fuel l = some r) : Pure (ITP Try.prog) Try.prog 5 [.L (l : List Sm)] (.raw (.bool r)) := by
 unfold znv at h
 refine zax 174 mix Try.func5 ent5 ?_
 refine zr [.v (.b false)] ?_
 refine ze ?_
 refine ze (zd ?_)
 refine zbq (r := .b true) z05 ?_
 refine w_o (a := .b false) ?_
 refine zay rfl ?_
 refine zr [.m _] ?_
 obtain ⟨g1, h⟩ := zh h
 obtain ⟨x1, hx1, h⟩ := zj h
 refine zbq (args' := [.L (l : List Sm)]) (r := .A (x1 : Tr)) (by rw [← hx1]; exact (k_made l g1)) ?_
 obtain ⟨g2, h⟩ := zh h
 obtain ⟨x2, hx2, h⟩ := zj h
 refine zbq (args' := [.A (x1 : Tr)]) (r := .tup [.A (x2.1 : Tr), .i x2.2]) (by rw [← hx2]; exact (zxs x1 g2)) ?_
 refine w_r [.m _, .x _, .x _] ?_
 refine zbj (a := .ptr 0 0) (σ'' := (.B [(30, [.u 0, .raw (.int .u64 0), .raw (.int .u64 0), .raw (.int .u64 0), .raw (.int .u64 0), .i 0, .i 0, .list 0 [] .full])])) ?_
 refine zbm 8 (.B [(30, (Enc.cells (x2.1 : Tr)))]) ?_
 refine zad ?_
 refine ze ?_
 refine zr [.m _, .v (.b (x2.2 != 0))] ?_
 refine zbv h (fun hc1 h => ?_) (fun hc1 h => ?_)
 refine zr [.v (.b false)] ?_
 exact zas h
 refine ze ?_
 refine zr [.v (.A (x2.1 : Tr))] ?_
 obtain ⟨g3, h⟩ := zh h
 obtain ⟨x3, hx3, h⟩ := zj h
 refine zbq (args' := [.A (x2.1 : Tr)]) (r := .b x3) (by rw [← hx3]; exact (zwu x2.1 g3)) ?_
 refine w_o (a := .b (!x3)) ?_
 refine zu h (fun hc2 h => ?_) (fun hc2 h => ?_)
 refine zaw hc2 ?_
 refine w_r [.p, .p, .p, .v (.b true)] ?_
 refine zba rfl ?_
 refine zr [.v (.b true)] ?_
 exact zas h
 refine zaw hc2 ?_
 refine w_r [.v (.ptr 0 0), .v (.u ((x2.1.k : Nat) : Int)), .v (.b (((x2.1.k : Nat) : Int) == 1)), .v (.b (((x2.1.k : Nat) : Int) == 1))] ?_
 refine zbv h (fun hc3 h => ?_) (fun hc3 h => ?_)
 refine zr [.v (.b true)] ?_
 exact zas h
 refine zr [.v (.clos 16 [])] ?_
 refine ze ?_
 refine w_drawB (k0 := 0) (id := 9) 15 (by kernel_rfl) (by kernel_rfl) ?_
 refine zzz (a := .clos 16 []) rfl rfl rfl rfl rfl (by dsimp only [zp, List.set]) ?_
 refine zzz (a := .A (x2.1 : Tr)) rfl rfl rfl rfl rfl (by dsimp only [zp, List.set]) ?_
 obtain ⟨g4, h⟩ := zh h
 obtain ⟨x4, hx4, h⟩ := zj h
 refine zmk (args' := [.A (x2.1 : Tr), .i 0, .i 1]) (r := .A (x4 : Tr)) (by rw [← hx4]; exact (zdu x2.1 (0 : Int) (1 : Int) g4)) rfl rfl rfl rfl (zf (zai (zl (Enc.clo _))) (zf rfl (zf rfl rfl))) (zb (zn _ _ (zl (Enc.clo _))) (by kernel_rfl)) (by dsimp only [zp, List.set]) ?_
 obtain ⟨x5, hx5, h⟩ := zw h
 refine zmk (args' := [.A (x4 : Tr)]) (r := .A (x5 : Tr)) (zf8 x4 x5 hx5) rfl rfl rfl rfl (zf (zai (zl (Enc.clo _))) rfl) (zb (zn _ _ (zl (Enc.clo _))) rfl) (by dsimp only [zp, List.set]) ?_
 refine zzz (a := .clos 16 []) rfl rfl rfl rfl rfl (by dsimp only [zp, List.set]) ?_
 refine zzz (a := .A (x2.1 : Tr)) rfl rfl rfl rfl rfl (by dsimp only [zp, List.set]) ?_
 obtain ⟨g5, h⟩ := zh h
 obtain ⟨x6, hx6, h⟩ := zj h
 refine zmk (args' := [.A (x2.1 : Tr), .i 0, .i (-1)]) (r := .A (x6 : Tr)) (by rw [← hx6]; exact (zdu x2.1 (0 : Int) (-1) g5)) rfl rfl rfl rfl (zf (zai (zl (Enc.clo _))) (zf rfl (zf rfl rfl))) (zb (zn _ _ (zl (Enc.clo _))) (by kernel_rfl)) (by dsimp only [zp, List.set]) ?_
 obtain ⟨x7, hx7, h⟩ := zw h
 refine zmk (args' := [.A (x6 : Tr)]) (r := .A (x7 : Tr)) (zf8 x6 x7 hx7) rfl rfl rfl rfl (zf (zai (zl (Enc.clo _))) rfl) (zb (zn _ _ (zl (Enc.clo _))) rfl) (by dsimp only [zp, List.set]) ?_
 refine zzz (a := .clos 16 []) rfl rfl rfl rfl rfl (by dsimp only [zp, List.set]) ?_
 refine zzz (a := .A (x2.1 : Tr)) rfl rfl rfl rfl rfl (by dsimp only [zp, List.set]) ?_
 obtain ⟨g6, h⟩ := zh h
 obtain ⟨x8, hx8, h⟩ := zj h
 refine zmk (args' := [.A (x2.1 : Tr), .i 1, .i (-1)]) (r := .A (x8 : Tr)) (by rw [← hx8]; exact (zdu x2.1 (1 : Int) (-1) g6)) rfl rfl rfl rfl (zf (zai (zl (Enc.clo _))) (zf rfl (zf rfl rfl))) (zb (zn _ _ (zl (Enc.clo _))) (by kernel_rfl)) (by dsimp only [zp, List.set]) ?_
 obtain ⟨x9, hx9, h⟩ := zw h
 refine zmk (args' := [.A (x8 : Tr)]) (r := .A (x9 : Tr)) (zf8 x8 x9 hx9) rfl rfl rfl rfl (zf (zai (zl (Enc.clo _))) rfl) (zb (zn _ _ (zl (Enc.clo _))) rfl) (by dsimp only [zp, List.set]) ?_
 refine z1n _ rfl rfl rfl rfl rfl rfl (by dsimp only [List.set]) ?_
 refine z1n _ rfl rfl rfl rfl rfl rfl (by dsimp only [List.set]) ?_
 refine z1n _ rfl rfl rfl rfl rfl rfl (by dsimp only [List.set]) ?_
 refine z5v (n := 1) rfl (show _ = ((.B [(30, (Enc.cells (x2.1 : Tr))), (30, [.u 0, .raw (.int .u64 0), .raw (.int .u64 0), .raw (.int .u64 0), .raw (.int .u64 0), .i 0, .i 0, .list 0 [] .full]), (30, [.u 0, .raw (.int .u64 0), .raw (.int .u64 0), .raw (.int .u64 0), .raw (.int .u64 0), .i 0, .i 0, .list 0 [] .full]), (30, [.u 0, .raw (.int .u64 0), .raw (.int .u64 0), .raw (.int .u64 0), .raw (.int .u64 0), .i 0, .i 0, .list 0 [] .full])]) : St) from rfl) (by dsimp only [List.nil_append, List.cons_append, zla, List.set, Nat.reduceAdd]) ?_
 refine zbm 8 (.B [(30, (Enc.cells (x2.1 : Tr))), (30, (Enc.cells (x5 : Tr))), (30, [.u 0, .raw (.int .u64 0), .raw (.int .u64 0), .raw (.int .u64 0), .raw (.int .u64 0), .i 0, .i 0, .list 0 [] .full]), (30, [.u 0, .raw (.int .u64 0), .raw (.int .u64 0), .raw (.int .u64 0), .raw (.int .u64 0), .i 0, .i 0, .list 0 [] .full])]) ?_
 refine zbm 8 (.B [(30, (Enc.cells (x2.1 : Tr))), (30, (Enc.cells (x5 : Tr))), (30, (Enc.cells (x7 : Tr))), (30, [.u 0, .raw (.int .u64 0), .raw (.int .u64 0), .raw (.int .u64 0), .raw (.int .u64 0), .i 0, .i 0, .list 0 [] .full])]) ?_
 refine zbm 8 (.B [(30, (Enc.cells (x2.1 : Tr))), (30, (Enc.cells (x5 : Tr))), (30, (Enc.cells (x7 : Tr))), (30, (Enc.cells (x9 : Tr)))]) ?_
 refine za3 h (bz 0 175 47890485652059026823698344598447161988085597568237079) (fun j1 => []) (fun j1 => (.B [(30, (Enc.cells (x2.1 : Tr))), (30, (Enc.cells (x5 : Tr))), (30, (Enc.cells (x7 : Tr))), (30, (Enc.cells (x9 : Tr)))])) ?_ ?_
 intro or1 h hr1
 refine ze ?_
 refine zck (k0 := 0) (id := 10) 28 (by kernel_rfl) (by kernel_rfl) ?_
 refine h_o (a := .A (x2.1 : Tr)) ?_
 obtain ⟨g7, h⟩ := zh h
 obtain ⟨x10, hx10, h⟩ := zj h
 refine zfd (args' := [.A (x2.1 : Tr)]) (r := .b x10) (by rw [← hx10]; exact (zdc x2.1 g7)) ?_
 refine zu h (fun hc4 h => ?_) (fun hc4 h => ?_)
 refine h_o (a := .b true) (h := zak rfl hc4) ?_
 refine zah rfl rfl ?_
 refine h_o (a := .A (x5 : Tr)) ?_
 refine zah rfl rfl ?_
 refine h_o (a := .A (x2.1 : Tr)) ?_
 refine zah rfl rfl ?_
 obtain ⟨g8, h⟩ := zh h
 obtain ⟨x11, hx11, h⟩ := zj h
 refine zfd (args' := [.A (x5 : Tr), .A (x2.1 : Tr)]) (r := .b x11) (by rw [← hx11]; exact (zf4 x5 x2.1 g8)) ?_
 refine zah rfl rfl ?_
 refine h_o (a := .b (!x11)) ?_
 refine zah rfl rfl ?_
 refine zu h (fun hc5 h => ?_) (fun hc5 h => ?_)
 refine h_o (a := .b true) (h := zak rfl hc5) ?_
 refine zaj ?_
 refine zaj ?_
 refine zaj ?_
 refine zaj ?_
 refine zah rfl rfl ?_
 refine h_o (a := .b true) ?_
 refine h_o (a := .b true) ?_
 refine zd1 ?_
 refine zaj ?_
 refine zaj ?_
 refine zaj ?_
 refine h_o (a := .b true) ?_
 refine zd1 ?_
 refine zaj ?_
 refine zaj ?_
 refine zaj ?_
 refine h_o (a := .b true) ?_
 refine zd1 ?_
 refine zaj ?_
 refine zaj ?_
 refine zaj ?_
 refine zb7 ?_
 refine w_r [.p, .p, .v (.b true)] ?_
 refine zba rfl ?_
 refine zr [.v (.b false)] ?_
 replace h := zo h hr1
 exact zas h
 refine h_o (a := .b false) (h := zak rfl hc5) ?_
 refine zah rfl rfl ?_
 refine h_o (a := .A (x9 : Tr)) ?_
 refine zah rfl rfl ?_
 refine h_o (a := .A (x7 : Tr)) ?_
 refine zah rfl rfl ?_
 obtain ⟨g9, h⟩ := zh h
 obtain ⟨x12, hx12, h⟩ := zj h
 refine zfd (args' := [.A (x9 : Tr), .A (x7 : Tr)]) (r := .b x12) (by rw [← hx12]; exact (zf4 x9 x7 g9)) ?_
 refine zah rfl rfl ?_
 refine h_o (a := .b (!x12)) ?_
 refine zah rfl rfl ?_
 refine h_o (a := .b (!x12)) ?_
 refine h_o (a := .b (!x12)) ?_
 refine zu h (fun hc6 h => ?_) (fun hc6 h => ?_)
 refine h_o (a := .b true) (h := zak rfl hc6) ?_
 refine zaj ?_
 refine zaj ?_
 refine zaj ?_
 refine h_o (a := .b true) ?_
 refine zd1 ?_
 refine zaj ?_
 refine zaj ?_
 refine zaj ?_
 refine h_o (a := .b true) ?_
 refine zd1 ?_
 refine zaj ?_
 refine zaj ?_
 refine zaj ?_
 refine zb7 ?_
 refine w_r [.p, .p, .v (.b true)] ?_
 refine zba rfl ?_
 refine zr [.v (.b false)] ?_
 replace h := zo h hr1
 exact zas h
 refine h_o (a := .b false) (h := zak rfl hc6) ?_
 refine zah rfl rfl ?_
 refine h_o (a := .A (x5 : Tr)) ?_
 refine zah rfl rfl ?_
 obtain ⟨g10, h⟩ := zh h
 obtain ⟨x13, hx13, h⟩ := zj h
 refine zfd (args' := [.A (x5 : Tr)]) (r := .b x13) (by rw [← hx13]; exact (zdc x5 g10)) ?_
 refine zah rfl rfl ?_
 refine h_o (a := .b (!x13)) ?_
 refine h_o (a := .b (!x13)) ?_
 refine zu h (fun hc7 h => ?_) (fun hc7 h => ?_)
 refine h_o (a := .b true) (h := zak rfl hc7) ?_
 refine zaj ?_
 refine zaj ?_
 refine zaj ?_
 refine h_o (a := .b true) ?_
 refine zd1 ?_
 refine zaj ?_
 refine zaj ?_
 refine zaj ?_
 refine zb7 ?_
 refine w_r [.p, .p, .v (.b true)] ?_
 refine zba rfl ?_
 refine zr [.v (.b false)] ?_
 replace h := zo h hr1
 exact zas h
 refine h_o (a := .b false) (h := zak rfl hc7) ?_
 refine zah rfl rfl ?_
 refine h_o (a := .A (x7 : Tr)) ?_
 refine zah rfl rfl ?_
 obtain ⟨g11, h⟩ := zh h
 obtain ⟨x14, hx14, h⟩ := zj h
 refine zfd (args' := [.A (x7 : Tr)]) (r := .b x14) (by rw [← hx14]; exact (zdc x7 g11)) ?_
 refine zah rfl rfl ?_
 refine h_o (a := .b (!x14)) ?_
 refine h_o (a := .b (!x14)) ?_
 refine zu h (fun hc8 h => ?_) (fun hc8 h => ?_)
 refine h_o (a := .b true) (h := zak rfl hc8) ?_
 refine zaj ?_
 refine zaj ?_
 refine zaj ?_
 refine zb7 ?_
 refine w_r [.p, .p, .v (.b true)] ?_
 refine zba rfl ?_
 refine zr [.v (.b false)] ?_
 replace h := zo h hr1
 exact zas h
 refine h_o (a := .b false) (h := zak rfl hc8) ?_
 refine zah rfl rfl ?_
 refine h_o (a := .A (x9 : Tr)) ?_
 refine zah rfl rfl ?_
 obtain ⟨g12, h⟩ := zh h
 obtain ⟨x15, hx15, h⟩ := zj h
 refine zfd (args' := [.A (x9 : Tr)]) (r := .b x15) (by rw [← hx15]; exact (zdc x9 g12)) ?_
 refine zah rfl rfl ?_
 refine h_o (a := .A (x2.1 : Tr)) ?_
 refine zb7 ?_
 refine zab rfl rfl ?_
 obtain ⟨g13, h⟩ := zh h
 obtain ⟨x16, hx16, h⟩ := zj h
 refine zbq (args' := [.A (x2.1 : Tr)]) (r := .b x16) (by rw [← hx16]; exact (zdc x2.1 g13)) ?_
 refine zab rfl rfl ?_
 refine w_o (a := .b (!(x15 == x16))) (h := zbs (by kernel_rfl)) ?_
 refine w_o (a := .b (!(x15 == x16))) ?_
 refine zbv h (fun hc9 h => ?_) (fun hc9 h => ?_)
 refine zr [.v (.b false)] ?_
 replace h := zo h hr1
 exact zas h
 refine zg (o := or1) () h ?_
 exact zc1 (bl 175 488)
 refine h_o (a := .b false) (h := zak rfl hc4) ?_
 refine zaj ?_
 refine zaj ?_
 refine zaj ?_
 refine zaj ?_
 refine zaj ?_
 refine zaj ?_
 refine zaj ?_
 refine zaj ?_
 refine zaj ?_
 refine zaj ?_
 refine h_o (a := .b false) ?_
 refine zd1 ?_
 refine zah rfl rfl ?_
 refine h_o (a := .A (x5 : Tr)) ?_
 refine zah rfl rfl ?_
 obtain ⟨g14, h⟩ := zh h
 obtain ⟨x17, hx17, h⟩ := zj h
 refine zfd (args' := [.A (x5 : Tr)]) (r := .b x17) (by rw [← hx17]; exact (zdc x5 g14)) ?_
 refine zah rfl rfl ?_
 refine h_o (a := .b (!x17)) ?_
 refine h_o (a := .b (!x17)) ?_
 refine zu h (fun hc10 h => ?_) (fun hc10 h => ?_)
 refine h_o (a := .b true) (h := zak rfl hc10) ?_
 refine zaj ?_
 refine zaj ?_
 refine zaj ?_
 refine h_o (a := .b true) ?_
 refine zd1 ?_
 refine zaj ?_
 refine zaj ?_
 refine zaj ?_
 refine zb7 ?_
 refine w_r [.p, .p, .v (.b true)] ?_
 refine zba rfl ?_
 refine zr [.v (.b false)] ?_
 replace h := zo h hr1
 exact zas h
 refine h_o (a := .b false) (h := zak rfl hc10) ?_
 refine zah rfl rfl ?_
 refine h_o (a := .A (x7 : Tr)) ?_
 refine zah rfl rfl ?_
 obtain ⟨g15, h⟩ := zh h
 obtain ⟨x18, hx18, h⟩ := zj h
 refine zfd (args' := [.A (x7 : Tr)]) (r := .b x18) (by rw [← hx18]; exact (zdc x7 g15)) ?_
 refine zah rfl rfl ?_
 refine h_o (a := .b (!x18)) ?_
 refine h_o (a := .b (!x18)) ?_
 refine zu h (fun hc11 h => ?_) (fun hc11 h => ?_)
 refine h_o (a := .b true) (h := zak rfl hc11) ?_
 refine zaj ?_
 refine zaj ?_
 refine zaj ?_
 refine zb7 ?_
 refine w_r [.p, .p, .v (.b true)] ?_
 refine zba rfl ?_
 refine zr [.v (.b false)] ?_
 replace h := zo h hr1
 exact zas h
 refine h_o (a := .b false) (h := zak rfl hc11) ?_
 refine zah rfl rfl ?_
 refine h_o (a := .A (x9 : Tr)) ?_
 refine zah rfl rfl ?_
 obtain ⟨g16, h⟩ := zh h
 obtain ⟨x19, hx19, h⟩ := zj h
 refine zfd (args' := [.A (x9 : Tr)]) (r := .b x19) (by rw [← hx19]; exact (zdc x9 g16)) ?_
 refine zah rfl rfl ?_
 refine h_o (a := .A (x2.1 : Tr)) ?_
 refine zb7 ?_
 refine zab rfl rfl ?_
 obtain ⟨g17, h⟩ := zh h
 obtain ⟨x20, hx20, h⟩ := zj h
 refine zbq (args' := [.A (x2.1 : Tr)]) (r := .b x20) (by rw [← hx20]; exact (zdc x2.1 g17)) ?_
 refine zab rfl rfl ?_
 refine w_o (a := .b (!(x19 == x20))) (h := zbs (by kernel_rfl)) ?_
 refine w_o (a := .b (!(x19 == x20))) ?_
 refine zbv h (fun hc12 h => ?_) (fun hc12 h => ?_)
 refine zr [.v (.b false)] ?_
 replace h := zo h hr1
 exact zas h
 refine zg (o := or1) () h ?_
 exact zc1 (bl 175 488)
 intro j1 h
 refine zf9 ?_
 refine za3 h (bz 0 94 19807035906199601528740774916) (fun j2 => []) (fun j2 => (.B [(30, (Enc.cells (x2.1 : Tr))), (30, (Enc.cells (x5 : Tr))), (30, (Enc.cells (x7 : Tr))), (30, (Enc.cells (x9 : Tr)))])) ?_ ?_
 intro or2 h hr2
 refine zr [.v (.A (x5 : Tr)), .v (.A (x7 : Tr)), .v (.A (x9 : Tr))] ?_
 refine w_o (a := .F ([x5, x7, x9] : List Tr)) (h := zbs (zfs (α := Tr) (l := [x5, x7, x9]) (cs := Enc.cells (x5 : Tr) ++ (Enc.cells (x7 : Tr) ++ (Enc.cells (x9 : Tr) ++ []))) (by kernel_rfl) (by rw [Enc.cons, Enc.cons, Enc.cons, Enc.nil]))) ?_
 refine w_r [.v (.i (List.length [x5, x7, x9] : Int)), .v (.i 0)] ?_
 refine zt ?_
 refine zcp h (bz 0 94 19806922569404012657255646212) (fun s1 => [(77, .i s1)]) (fun s1 => (.B [(30, (Enc.cells (x2.1 : Tr))), (30, (Enc.cells (x5 : Tr))), (30, (Enc.cells (x7 : Tr))), (30, (Enc.cells (x9 : Tr)))])) ?_ ?_
 exact zc1 (bl 175 47890485652059026823698324791675708311524768959429627)
 intro s1 p1 h
 refine zf9 ?_
 refine zr [.v (.b (decide (s1 < (List.length [x5, x7, x9] : Int))))] ?_
 refine ze ?_
 refine zbv h (fun hc13 h => ?_) (fun hc13 h => ?_)
 refine ze ?_
 refine zt ?_
 refine ze (zd ?_)
 obtain ⟨g18, h⟩ := zh h
 obtain ⟨x21, hx21, h⟩ := zj h
 refine zwf hx21 g18 ?_
 refine w_o (a := .A (x21 : Tr)) ?_
 refine zbj (a := .ptr 4 0) (σ'' := (.B [(30, (Enc.cells (x2.1 : Tr))), (30, (Enc.cells (x5 : Tr))), (30, (Enc.cells (x7 : Tr))), (30, (Enc.cells (x9 : Tr))), (30, [.u 0, .raw (.int .u64 0), .raw (.int .u64 0), .raw (.int .u64 0), .raw (.int .u64 0), .i 0, .i 0, .list 0 [] .full])])) ?_
 refine zbm 8 (.B [(30, (Enc.cells (x2.1 : Tr))), (30, (Enc.cells (x5 : Tr))), (30, (Enc.cells (x7 : Tr))), (30, (Enc.cells (x9 : Tr))), (30, (Enc.cells (x21 : Tr)))]) ?_
 refine ze ?_
 refine zck (k0 := 0) (id := 15) 9 (by kernel_rfl) (by kernel_rfl) ?_
 refine h_o (a := .ptr 4 0) ?_
 refine h_o (a := .u ((x21.k : Nat) : Int)) ?_
 refine h_o (a := .b (((x21.k : Nat) : Int) == 0)) ?_
 refine zu h (fun hc14 h => ?_) (fun hc14 h => ?_)
 refine h_o (a := .b true) (h := zak rfl hc14) ?_
 refine zaj ?_
 refine zaj ?_
 refine zaj ?_
 refine zaj ?_
 refine zaj ?_
 refine zb7 ?_
 refine w_r [.p, .p, .v (.b true)] ?_
 refine zba rfl ?_
 refine zr [.v (.b false)] ?_
 refine zac h (fun h => ?_)
 replace h := zo h hr2
 exact zas h
 refine h_o (a := .b false) (h := zak rfl hc14) ?_
 refine zah rfl rfl ?_
 refine zd1 ?_
 refine zah rfl rfl ?_
 refine h_o (a := .A (x21 : Tr)) ?_
 refine zah rfl rfl ?_
 obtain ⟨g19, h⟩ := zh h
 obtain ⟨x22, hx22, h⟩ := zj h
 refine zfd (args' := [.A (x21 : Tr), .i 0, .i (-1)]) (r := .A (x22 : Tr)) (by rw [← hx22]; exact (zdu x21 (0 : Int) (-1) g19)) ?_
 refine zah rfl rfl ?_
 obtain ⟨x23, hx23, h⟩ := zw h
 refine zfd (zf8 x22 x23 hx23) ?_
 refine zah rfl rfl ?_
 refine h_o (a := .A (x7 : Tr)) ?_
 refine zb7 ?_
 refine zab rfl rfl ?_
 obtain ⟨g20, h⟩ := zh h
 obtain ⟨x24, hx24, h⟩ := zj h
 refine zbq (args' := [.A (x23 : Tr), .A (x7 : Tr)]) (r := .b x24) (by rw [← hx24]; exact (zf4 x23 x7 g20)) ?_
 refine w_r [.v (.b (!x24)), .v (.b (!x24))] ?_
 refine zbv h (fun hc15 h => ?_) (fun hc15 h => ?_)
 refine zr [.v (.b false)] ?_
 refine zac h (fun h => ?_)
 replace h := zo h hr2
 exact zas h
 refine zd (k0 := 0) (id := 17) ?_
 obtain ⟨g21, h⟩ := zh h
 refine zv1 g21 ?_
 refine zad ?_
 refine zbn (p := p1) ((s1 + 1)) h ?_
 exact zcn (bl 175 47890485652059026823698324791675708311524768959429627) 4 (by kernel_rfl) (Nat.le_of_ble_eq_true rfl) (zbi (zv (zm _ _ (Enc.clo _)) (zv (zm _ _ (Enc.clo _)) (zv (zm _ _ (Enc.clo _)) (zv (zm _ _ (Enc.clo _)) rfl))))) (by dsimp only [zaf, zae, List.foldl, List.set, bz, bzc, Nat.reduceMod, Nat.reduceDiv, Nat.reduceBEq, Nat.reduceAdd]; exact (zb rfl (zb rfl (zb rfl (zb (by decide) (zb rfl (zb (show z7 _ _ = true from rfl) (zb (by decide) (zb (by decide) (zb (by decide) (zb rfl (zb rfl (zb rfl (zb rfl (zb rfl (zb rfl (zb rfl (zb rfl (zb rfl (zb rfl (zb rfl (zb rfl (zb rfl (zb rfl (zb rfl (zb rfl (zb rfl (zb rfl (zb rfl (zb rfl (zb rfl (zb rfl (zb rfl (zb rfl (zb rfl (zb rfl (zb rfl (zb rfl (zb rfl (zb rfl (zb rfl (zb rfl (zb rfl (zb rfl (zb rfl (zb rfl (zb rfl (zb rfl (zb rfl (zb rfl (zb rfl (zb rfl (zb rfl (zb rfl (zb rfl (zb rfl (zb rfl (zb rfl (zb rfl (zb rfl (zb rfl (zb rfl (zb rfl (zb rfl (zb rfl (zb rfl (zb rfl (zb rfl (zb rfl (zb rfl (zb rfl (zb rfl (zb rfl (zb rfl (zb rfl (zb rfl (zb (zar (Enc.cloL _)) (by kernel_rfl)))))))))))))))))))))))))))))))))))))))))))))))))))))))))))))))))))))))))))))) (by kernel_rfl)
 refine zac h (fun h => ?_)
 refine zg (o := or2) () h ?_
 exact zc1 (bl 175 47890485652059026823698324791411255788484068827462651)
 intro j2 h
 refine zf9 ?_
 refine ze ?_
 refine ze ?_
 refine zck (k0 := 0) (id := 18) 40 (by kernel_rfl) (by kernel_rfl) ?_
 refine zd1 ?_
 refine h_o (a := .A (x7 : Tr)) ?_
 obtain ⟨g22, h⟩ := zh h
 obtain ⟨x25, hx25, h⟩ := zj h
 refine zfd (args' := [.A (x7 : Tr), .i 1, .i (-1)]) (r := .A (x25 : Tr)) (by rw [← hx25]; exact (zdu x7 (1 : Int) (-1) g22)) ?_
 obtain ⟨x26, hx26, h⟩ := zw h
 refine zfd (zf8 x25 x26 hx26) ?_
 refine h_o (a := .A (x7 : Tr)) ?_
 obtain ⟨g23, h⟩ := zh h
 obtain ⟨x27, hx27, h⟩ := zj h
 refine zfd (args' := [.A (x26 : Tr), .A (x7 : Tr)]) (r := .b x27) (by rw [← hx27]; exact (zf4 x26 x7 g23)) ?_
 refine h_o (a := .b (!x27)) ?_
 refine zu h (fun hc16 h => ?_) (fun hc16 h => ?_)
 refine h_o (a := .b true) (h := zak rfl hc16) ?_
 refine zaj ?_
 refine zaj ?_
 refine zaj ?_
 refine zaj ?_
 refine zaj ?_
 refine zaj ?_
 refine zaj ?_
 refine h_o (a := .b true) ?_
 refine zd1 ?_
 refine zaj ?_
 refine zaj ?_
 refine zaj ?_
 refine zaj ?_
 refine zaj ?_
 refine zaj ?_
 refine zaj ?_
 refine h_o (a := .b true) ?_
 refine zd1 ?_
 refine zaj ?_
 refine zaj ?_
 refine zaj ?_
 refine zaj ?_
 refine zaj ?_
 refine zaj ?_
 refine zaj ?_
 refine h_o (a := .b true) ?_
 refine zd1 ?_
 refine zaj ?_
 refine zaj ?_
 refine zaj ?_
 refine zaj ?_
 refine zaj ?_
 refine zb7 ?_
 refine w_r [.p, .p, .v (.b true)] ?_
 refine zba rfl ?_
 refine zr [.v (.b false)] ?_
 exact zas h
 refine h_o (a := .b false) (h := zak rfl hc16) ?_
 refine zah rfl rfl ?_
 refine zd1 ?_
 refine zah rfl rfl ?_
 refine h_o (a := .A (x9 : Tr)) ?_
 refine zah rfl rfl ?_
 obtain ⟨g24, h⟩ := zh h
 obtain ⟨x28, hx28, h⟩ := zj h
 refine zfd (args' := [.A (x9 : Tr), .i 1, .i (-1)]) (r := .A (x28 : Tr)) (by rw [← hx28]; exact (zdu x9 (1 : Int) (-1) g24)) ?_
 refine zah rfl rfl ?_
 obtain ⟨x29, hx29, h⟩ := zw h
 refine zfd (zf8 x28 x29 hx29) ?_
 refine zah rfl rfl ?_
 refine h_o (a := .A (x9 : Tr)) ?_
 refine zah rfl rfl ?_
 obtain ⟨g25, h⟩ := zh h
 obtain ⟨x30, hx30, h⟩ := zj h
 refine zfd (args' := [.A (x29 : Tr), .A (x9 : Tr)]) (r := .b x30) (by rw [← hx30]; exact (zf4 x29 x9 g25)) ?_
 refine zah rfl rfl ?_
 refine h_o (a := .b (!x30)) ?_
 refine h_o (a := .b (!x30)) ?_
 refine zu h (fun hc17 h => ?_) (fun hc17 h => ?_)
 refine h_o (a := .b true) (h := zak rfl hc17) ?_
 refine zaj ?_
 refine zaj ?_
 refine zaj ?_
 refine zaj ?_
 refine zaj ?_
 refine zaj ?_
 refine zaj ?_
 refine h_o (a := .b true) ?_
 refine zd1 ?_
 refine zaj ?_
 refine zaj ?_
 refine zaj ?_
 refine zaj ?_
 refine zaj ?_
 refine zaj ?_
 refine zaj ?_
 refine h_o (a := .b true) ?_
 refine zd1 ?_
 refine zaj ?_
 refine zaj ?_
 refine zaj ?_
 refine zaj ?_
 refine zaj ?_
 refine zb7 ?_
 refine w_r [.p, .p, .v (.b true)] ?_
 refine zba rfl ?_
 refine zr [.v (.b false)] ?_
 exact zas h
 refine h_o (a := .b false) (h := zak rfl hc17) ?_
 refine zah rfl rfl ?_
 refine zd1 ?_
 refine zah rfl rfl ?_
 refine h_o (a := .A (x7 : Tr)) ?_
 refine zah rfl rfl ?_
 obtain ⟨g26, h⟩ := zh h
 obtain ⟨x31, hx31, h⟩ := zj h
 refine zfd (args' := [.A (x7 : Tr), .i 0, .i 1]) (r := .A (x31 : Tr)) (by rw [← hx31]; exact (zdu x7 (0 : Int) (1 : Int) g26)) ?_
 refine zah rfl rfl ?_
 obtain ⟨x32, hx32, h⟩ := zw h
 refine zfd (zf8 x31 x32 hx32) ?_
 refine zah rfl rfl ?_
 refine h_o (a := .A (x7 : Tr)) ?_
 refine zah rfl rfl ?_
 obtain ⟨g27, h⟩ := zh h
 obtain ⟨x33, hx33, h⟩ := zj h
 refine zfd (args' := [.A (x32 : Tr), .A (x7 : Tr)]) (r := .b x33) (by rw [← hx33]; exact (zf4 x32 x7 g27)) ?_
 refine zah rfl rfl ?_
 refine h_o (a := .b (!x33)) ?_
 refine h_o (a := .b (!x33)) ?_
 refine zu h (fun hc18 h => ?_) (fun hc18 h => ?_)
 refine h_o (a := .b true) (h := zak rfl hc18) ?_
 refine zaj ?_
 refine zaj ?_
 refine zaj ?_
 refine zaj ?_
 refine zaj ?_
 refine zaj ?_
 refine zaj ?_
 refine h_o (a := .b true) ?_
 refine zd1 ?_
 refine zaj ?_
 refine zaj ?_
 refine zaj ?_
 refine zaj ?_
 refine zaj ?_
 refine zb7 ?_
 refine w_r [.p, .p, .v (.b true)] ?_
 refine zba rfl ?_
 refine zr [.v (.b false)] ?_
 exact zas h
 refine h_o (a := .b false) (h := zak rfl hc18) ?_
 refine zah rfl rfl ?_
 refine zd1 ?_
 refine zah rfl rfl ?_
 refine h_o (a := .A (x5 : Tr)) ?_
 refine zah rfl rfl ?_
 obtain ⟨g28, h⟩ := zh h
 obtain ⟨x34, hx34, h⟩ := zj h
 refine zfd (args' := [.A (x5 : Tr), .i 0, .i 1]) (r := .A (x34 : Tr)) (by rw [← hx34]; exact (zdu x5 (0 : Int) (1 : Int) g28)) ?_
 refine zah rfl rfl ?_
 obtain ⟨x35, hx35, h⟩ := zw h
 refine zfd (zf8 x34 x35 hx35) ?_
 refine zah rfl rfl ?_
 refine h_o (a := .A (x5 : Tr)) ?_
 refine zah rfl rfl ?_
 obtain ⟨g29, h⟩ := zh h
 obtain ⟨x36, hx36, h⟩ := zj h
 refine zfd (args' := [.A (x35 : Tr), .A (x5 : Tr)]) (r := .b x36) (by rw [← hx36]; exact (zf4 x35 x5 g29)) ?_
 refine zah rfl rfl ?_
 refine h_o (a := .b (!x36)) ?_
 refine h_o (a := .b (!x36)) ?_
 refine zu h (fun hc19 h => ?_) (fun hc19 h => ?_)
 refine h_o (a := .b true) (h := zak rfl hc19) ?_
 refine zaj ?_
 refine zaj ?_
 refine zaj ?_
 refine zaj ?_
 refine zaj ?_
 refine zb7 ?_
 refine w_r [.p, .p, .v (.b true)] ?_
 refine zba rfl ?_
 refine zr [.v (.b false)] ?_
 exact zas h
 refine h_o (a := .b false) (h := zak rfl hc19) ?_
 refine zah rfl rfl ?_
 refine zd1 ?_
 refine zah rfl rfl ?_
 refine h_o (a := .A (x9 : Tr)) ?_
 refine zah rfl rfl ?_
 obtain ⟨g30, h⟩ := zh h
 obtain ⟨x37, hx37, h⟩ := zj h
 refine zfd (args' := [.A (x9 : Tr), .i 0, .i 1]) (r := .A (x37 : Tr)) (by rw [← hx37]; exact (zdu x9 (0 : Int) (1 : Int) g30)) ?_
 refine zah rfl rfl ?_
 obtain ⟨x38, hx38, h⟩ := zw h
 refine zfd (zf8 x37 x38 hx38) ?_
 refine zah rfl rfl ?_
 refine h_o (a := .A (x7 : Tr)) ?_
 refine zb7 ?_
 refine zab rfl rfl ?_
 obtain ⟨g31, h⟩ := zh h
 obtain ⟨x39, hx39, h⟩ := zj h
 refine zbq (args' := [.A (x38 : Tr), .A (x7 : Tr)]) (r := .b x39) (by rw [← hx39]; exact (zf4 x38 x7 g31)) ?_
 refine w_r [.v (.b (!x39)), .v (.b (!x39))] ?_
 refine zbv h (fun hc20 h => ?_) (fun hc20 h => ?_)
 refine zr [.v (.b false)] ?_
 exact zas h
 refine ze ?_
 refine zck (k0 := 0) (id := 20) 35 (by kernel_rfl) (by kernel_rfl) ?_
 refine h_o (a := .ptr 0 0) ?_
 refine h_o (a := .u ((x2.1.k : Nat) : Int)) ?_
 refine h_o (a := .b (((x2.1.k : Nat) : Int) == 3)) ?_
 refine zu h (fun hc21 h => ?_) (fun hc21 h => ?_)
 refine h_o (a := .b true) (h := zak rfl hc21) ?_
 refine zaj ?_
 refine zaj ?_
 refine zaj ?_
 refine h_o (a := .b true) ?_
 refine zd1 ?_
 refine zaj ?_
 refine zaj ?_
 refine zaj ?_
 refine zaj ?_
 refine zaj ?_
 refine zaj ?_
 refine zaj ?_
 refine zaj ?_
 refine zaj ?_
 refine zaj ?_
 refine zaj ?_
 refine zaj ?_
 refine zaj ?_
 refine zaj ?_
 refine zaj ?_
 refine zaj ?_
 refine zaj ?_
 refine zaj ?_
 refine zaj ?_
 refine zaj ?_
 refine zaj ?_
 refine zaj ?_
 refine zaj ?_
 refine zaj ?_
 refine zaj ?_
 refine zaj ?_
 refine zb7 ?_
 refine w_r [.p, .p, .v (.b true), .m _] ?_
 exact zas h
 refine h_o (a := .b false) (h := zak rfl hc21) ?_
 refine zah rfl rfl ?_
 refine h_o (a := .ptr 0 0) ?_
 refine zah rfl rfl ?_
 refine h_o (a := .u ((x2.1.k : Nat) : Int)) ?_
 refine zah rfl rfl ?_
 refine h_o (a := .b (((x2.1.k : Nat) : Int) == 5)) ?_
 refine h_o (a := .b (((x2.1.k : Nat) : Int) == 5)) ?_
 refine zu h (fun hc22 h => ?_) (fun hc22 h => ?_)
 refine h_o (a := .b true) (h := zak rfl hc22) ?_
 refine zaj ?_
 refine zaj ?_
 refine zaj ?_
 refine zaj ?_
 refine zaj ?_
 refine zaj ?_
 refine zaj ?_
 refine zaj ?_
 refine zaj ?_
 refine zaj ?_
 refine zaj ?_
 refine zaj ?_
 refine zaj ?_
 refine zaj ?_
 refine zaj ?_
 refine zaj ?_
 refine zaj ?_
 refine zaj ?_
 refine zaj ?_
 refine zaj ?_
 refine zaj ?_
 refine zaj ?_
 refine zaj ?_
 refine zaj ?_
 refine zaj ?_
 refine zaj ?_
 refine zb7 ?_
 refine w_r [.p, .p, .v (.b true), .m _] ?_
 exact zas h
 refine h_o (a := .b false) (h := zak rfl hc22) ?_
 refine zah rfl rfl ?_
 refine zd1 ?_
 refine zah rfl rfl ?_
 refine h_o (a := .A (x2.1 : Tr)) ?_
 refine zah rfl rfl ?_
 refine h_o (a := .A (x7 : Tr)) ?_
 refine zah rfl rfl ?_
 refine h_o (a := .F ([x2.1, x7] : List Tr)) (h := zfs (α := Tr) (l := [x2.1, x7]) (cs := Enc.cells (x2.1 : Tr) ++ (Enc.cells (x7 : Tr) ++ [])) rfl (by rw [Enc.cons, Enc.cons, Enc.nil])) ?_
 refine zah rfl rfl ?_
 obtain ⟨g32, h⟩ := zh h
 obtain ⟨x40, hx40, h⟩ := zj h
 refine zfd (args' := [.L ([x2.1, x7] : List Tr)]) (r := .A (x40 : Tr)) (by rw [← hx40]; exact (z2i [x2.1, x7] g32)) ?_
 refine zah rfl rfl ?_
 obtain ⟨x41, hx41, h⟩ := zw h
 refine zfd (zf8 x40 x41 hx41) ?_
 refine zah rfl rfl ?_
 refine h_o (a := .A (x9 : Tr)) ?_
 refine zah rfl rfl ?_
 obtain ⟨g33, h⟩ := zh h
 obtain ⟨x42, hx42, h⟩ := zj h
 refine zfd (args' := [.A (x41 : Tr), .A (x9 : Tr)]) (r := .b x42) (by rw [← hx42]; exact (zf4 x41 x9 g33)) ?_
 refine zah rfl rfl ?_
 refine zu h (fun hc23 h => ?_) (fun hc23 h => ?_)
 refine h_o (a := .b true) (h := zak rfl hc23) ?_
 refine zah rfl rfl ?_
 refine zd1 ?_
 refine zah rfl rfl ?_
 refine h_o (a := .A (x7 : Tr)) ?_
 refine zah rfl rfl ?_
 refine h_o (a := .A (x2.1 : Tr)) ?_
 refine zah rfl rfl ?_
 refine h_o (a := .F ([x7, x2.1] : List Tr)) (h := zfs (α := Tr) (l := [x7, x2.1]) (cs := Enc.cells (x7 : Tr) ++ (Enc.cells (x2.1 : Tr) ++ [])) rfl (by rw [Enc.cons, Enc.cons, Enc.nil])) ?_
 refine zah rfl rfl ?_
 obtain ⟨g34, h⟩ := zh h
 obtain ⟨x43, hx43, h⟩ := zj h
 refine zfd (args' := [.L ([x7, x2.1] : List Tr)]) (r := .A (x43 : Tr)) (by rw [← hx43]; exact (z2i [x7, x2.1] g34)) ?_
 refine zah rfl rfl ?_
 obtain ⟨x44, hx44, h⟩ := zw h
 refine zfd (zf8 x43 x44 hx44) ?_
 refine zah rfl rfl ?_
 refine h_o (a := .A (x9 : Tr)) ?_
 refine zah rfl rfl ?_
 obtain ⟨g35, h⟩ := zh h
 obtain ⟨x45, hx45, h⟩ := zj h
 refine zfd (args' := [.A (x44 : Tr), .A (x9 : Tr)]) (r := .b x45) (by rw [← hx45]; exact (zf4 x44 x9 g35)) ?_
 refine zah rfl rfl ?_
 refine h_o (a := .b x45) ?_
 refine zah rfl rfl ?_
 refine zu h (fun hc24 h => ?_) (fun hc24 h => ?_)
 refine h_o (a := .b true) (h := zak rfl hc24) ?_
 refine zah rfl rfl ?_
 refine zd1 ?_
 refine zah rfl rfl ?_
 refine h_o (a := .A (x7 : Tr)) ?_
 refine zah rfl rfl ?_
 refine h_o (a := .A (x7 : Tr)) ?_
 refine zah rfl rfl ?_
 refine h_o (a := .F ([x7, x7] : List Tr)) (h := zfs (α := Tr) (l := [x7, x7]) (cs := Enc.cells (x7 : Tr) ++ (Enc.cells (x7 : Tr) ++ [])) rfl (by rw [Enc.cons, Enc.cons, Enc.nil])) ?_
 refine zah rfl rfl ?_
 obtain ⟨g36, h⟩ := zh h
 obtain ⟨x46, hx46, h⟩ := zj h
 refine zfd (args' := [.L ([x7, x7] : List Tr)]) (r := .A (x46 : Tr)) (by rw [← hx46]; exact (z2i [x7, x7] g36)) ?_
 refine zah rfl rfl ?_
 obtain ⟨x47, hx47, h⟩ := zw h
 refine zfd (zf8 x46 x47 hx47) ?_
 refine zah rfl rfl ?_
 refine h_o (a := .A (x7 : Tr)) ?_
 refine zb7 ?_
 refine zab rfl rfl ?_
 obtain ⟨g37, h⟩ := zh h
 obtain ⟨x48, hx48, h⟩ := zj h
 refine zbq (args' := [.A (x47 : Tr), .A (x7 : Tr)]) (r := .b x48) (by rw [← hx48]; exact (zf4 x47 x7 g37)) ?_
 refine w_r [.v (.b x48), .v (.b x48), .m _] ?_
 exact zas h
 refine h_o (a := .b false) (h := zak rfl hc24) ?_
 refine zaj ?_
 refine zaj ?_
 refine zaj ?_
 refine zaj ?_
 refine zaj ?_
 refine zaj ?_
 refine zaj ?_
 refine zb7 ?_
 refine w_r [.p, .v (.b false), .v (.b false), .m _] ?_
 exact zas h
 refine h_o (a := .b false) (h := zak rfl hc23) ?_
 refine zaj ?_
 refine zaj ?_
 refine zaj ?_
 refine zaj ?_
 refine zaj ?_
 refine zaj ?_
 refine zaj ?_
 refine zaj ?_
 refine zah rfl rfl ?_
 refine h_o (a := .b false) ?_
 refine zah rfl rfl ?_
 refine zd1 ?_
 refine zaj ?_
 refine zaj ?_
 refine zaj ?_
 refine zaj ?_
 refine zaj ?_
 refine zaj ?_
 refine zaj ?_
 refine zb7 ?_
 refine w_r [.p, .v (.b false), .v (.b false), .m _] ?_
 exact zas h
end Go.Ab
