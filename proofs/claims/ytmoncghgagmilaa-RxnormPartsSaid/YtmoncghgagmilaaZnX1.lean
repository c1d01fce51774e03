/-
  RxnormParts: its walk.
-/
import Derived.Test.YtmoncghgagmilaaZnVf
import Derived.Test.YtmoncghgagmilaaZdQq
import Derived.Test.YtmoncghgagmilaaZnV3
import Derived.Test.YtmoncghgagmilaaZnW1
set_option linter.unusedSimpArgs false
set_option linter.unusedVariables false
set_option maxRecDepth 100000
set_option maxHeartbeats 4000000
namespace Go.Ab
open Go Go.RowKit Go.Fwd Go.Proofs
def zro (k : (List Sm)) (l : (List Sm)) : Option Bool :=
 (chk (List.length k < 2 ^ 63 ∧ ∀ y ∈ k, y.2.1 < 256) (zag (zl5 k) (fun x1 => (chk (List.length l < 2 ^ 63 ∧ ∀ y ∈ l, y.2.1 < 256) (zag (zl5 l) (fun x2 => (chk ((CS 998 x1 ∨ zbg x1 = false) ∧ (pre x1).length < 2 ^ 61) (zag (zmy x1) (fun x3 => (chk ((CS 998 x2 ∨ zbg x2 = false) ∧ (pre x2).length < 2 ^ 61) (zag (zmy x2) (fun x4 => (chk ((pre x1).length < 2 ^ 60) (zag (zcr x1) (fun x5 => (chk ((CS 998 x5 ∨ zbg x5 = false) ∧ (pre x5).length < 2 ^ 61) (zag (zmy x5) (fun x6 => (chk (-9223372036854775808 ≤ (x3.2 + x4.2) ∧ (x3.2 + x4.2) < 9223372036854775808) (chk (-9223372036854775808 ≤ ((x3.2 + x4.2) + x6.2) ∧ ((x3.2 + x4.2) + x6.2) < 9223372036854775808) (bif (((x3.2 + x4.2) + x6.2) != 0) then (some false) else (chk ((pre x3.1).length < 2 ^ 60) (zag (zcr x3.1) (fun x7 => (chk ((pre x6.1).length < 2 ^ 61 ∧ (pre x7).length < 2 ^ 61) (zag (zeo x6.1 x7) (fun x8 => (bif (!x8) then (some false) else (chk ((pre x6.1).length < 2 ^ 60) (zag (znu x6.1) (fun x9 => (bif x9 then (some false) else (chk ((pre x6.1).length < 2 ^ 60) (zag (zfq x6.1) (fun x10 => (chk ((pre x1).length < 2 ^ 60) (zag (zfq x1) (fun x11 => (bif (!(x10 == x11)) then (some false) else (chk ((pre x1).length < 2 ^ 60) (zag (zcr x1) (fun x12 => (chk ((pre x2).length < 2 ^ 60) (zag (zcr x2) (fun x13 => (chk ((zal [x12, x13, x12]).length ≤ 2 ^ 40) (zag (orT [x12, x13, x12]) (fun x14 => (chk ((CS 998 x14 ∨ zbg x14 = false) ∧ (pre x14).length < 2 ^ 61) (zag (zmy x14) (fun x15 => (chk ((zal [x12, x13, x12]).length ≤ 2 ^ 40) (zag (zm8 [x12, x13, x12]) (fun x16 => (chk ((CS 998 x16 ∨ zbg x16 = false) ∧ (pre x16).length < 2 ^ 61) (zag (zmy x16) (fun x17 => (chk ((pre x3.1).length < 2 ^ 60) (zag (zcr x3.1) (fun x18 => (chk ((pre x4.1).length < 2 ^ 60) (zag (zcr x4.1) (fun x19 => (chk (-9223372036854775808 ≤ (x15.2 + x17.2) ∧ (x15.2 + x17.2) < 9223372036854775808) (bif ((x15.2 + x17.2) == 0) then (chk ((zal [x18, x19, x18]).length ≤ 2 ^ 40) (zag (orT [x18, x19, x18]) (fun x20 => (chk ((pre x15.1).length < 2 ^ 61 ∧ (pre x20).length < 2 ^ 61) (zag (zeo x15.1 x20) (fun x21 => (bif x21 then (chk ((zal [x18, x19, x18]).length ≤ 2 ^ 40) (zag (zm8 [x18, x19, x18]) (fun x22 => (chk ((pre x17.1).length < 2 ^ 61 ∧ (pre x22).length < 2 ^ 61) (zag (zeo x17.1 x22) (fun x23 => (bif x23 then (chk ((pre x17.1).length < 2 ^ 60) (zag (zfq x17.1) (fun x24 => (chk ((pre x1).length < 2 ^ 60) (zag (zfq x1) (fun x25 => (bif x25 then (chk ((pre x2).length < 2 ^ 60) (zag (zfq x2) (fun x26 => (bif (x24 == x26) then (chk ((pre x15.1).length < 2 ^ 60) (zag (zfq x15.1) (fun x27 => (chk ((pre x1).length < 2 ^ 60) (zag (zfq x1) (fun x28 => (bif x28 then (some (x27 == true)) else (chk ((pre x2).length < 2 ^ 60) (zag (zfq x2) (fun x29 => (some (x27 == x29)))))))))))) else (some false))))) else (bif (x24 == false) then (chk ((pre x15.1).length < 2 ^ 60) (zag (zfq x15.1) (fun x30 => (chk ((pre x1).length < 2 ^ 60) (zag (zfq x1) (fun x31 => (bif x31 then (some (x30 == true)) else (chk ((pre x2).length < 2 ^ 60) (zag (zfq x2) (fun x32 => (some (x30 == x32)))))))))))) else (some false))))))))) else (some false)))))))) else (some false)))))))) else (some false))))))))))))))))))))))))))))))))))))))))))))))))))))))))))))))))))
theorem ent4 : Ent Try.prog 4 := enters_of Try.func4 (by kernel_rfl) rfl
theorem z6t (k : (List Sm)) (l : (List Sm)) (r : Bool) (h : zro k l = some r) : Pure (ITP Try.prog) Try.prog 4 [.L (k : List Sm), .L (l : List Sm)] (.raw (.bool r)) := by
 unfold zro at h
 refine zaq 135 mix Try.func4 ent4 ?_
 refine zv [.v (.b false)] ?_
 refine ze ?_
 refine ze (zd ?_)
 refine zbc (r := .b true) z0f ?_
 refine w_o (a := .b false) ?_
 refine zao rfl ?_
 refine zv [.m _] ?_
 obtain ⟨g1, h⟩ := zh h
 obtain ⟨x1, hx1, h⟩ := zj h
 refine zbc (args' := [.L (k : List Sm)]) (r := .A (x1 : Tr)) (by rw [← hx1]; exact (z7f k g1)) ?_
 refine z8 ?_
 obtain ⟨g2, h⟩ := zh h
 obtain ⟨x2, hx2, h⟩ := zj h
 refine zbc (args' := [.L (l : List Sm)]) (r := .A (x2 : Tr)) (by rw [← hx2]; exact (z7f l g2)) ?_
 refine za6 (a := .ptr 0 0) (σ'' := (.B [(30, [.u 0, .raw (.int .u64 0), .raw (.int .u64 0), .raw (.int .u64 0), .raw (.int .u64 0), .i 0, .i 0, .list 0 [] .full])])) ?_
 refine za6 (a := .ptr 1 0) (σ'' := (.B [(30, [.u 0, .raw (.int .u64 0), .raw (.int .u64 0), .raw (.int .u64 0), .raw (.int .u64 0), .i 0, .i 0, .list 0 [] .full]), (30, [.u 0, .raw (.int .u64 0), .raw (.int .u64 0), .raw (.int .u64 0), .raw (.int .u64 0), .i 0, .i 0, .list 0 [] .full])])) ?_
 refine za5 8 (.B [(30, (Enc.cells (x1 : Tr))), (30, [.u 0, .raw (.int .u64 0), .raw (.int .u64 0), .raw (.int .u64 0), .raw (.int .u64 0), .i 0, .i 0, .list 0 [] .full])]) ?_
 refine za5 8 (.B [(30, (Enc.cells (x1 : Tr))), (30, (Enc.cells (x2 : Tr)))]) ?_
 refine zv [.v (.A (x1 : Tr))] ?_
 obtain ⟨g3, h⟩ := zh h
 obtain ⟨x3, hx3, h⟩ := zj h
 refine zbc (args' := [.A (x1 : Tr)]) (r := .tup [.A (x3.1 : Tr), .i x3.2]) (by rw [← hx3]; exact (zl1 x1 g3)) ?_
 refine w_r [.m _, .x _, .x _] ?_
 refine za6 (a := .ptr 2 0) (σ'' := (.B [(30, (Enc.cells (x1 : Tr))), (30, (Enc.cells (x2 : Tr))), (30, [.u 0, .raw (.int .u64 0), .raw (.int .u64 0), .raw (.int .u64 0), .raw (.int .u64 0), .i 0, .i 0, .list 0 [] .full])])) ?_
 refine za5 8 (.B [(30, (Enc.cells (x1 : Tr))), (30, (Enc.cells (x2 : Tr))), (30, (Enc.cells (x3.1 : Tr)))]) ?_
 refine z8 ?_
 refine zv [.v (.A (x2 : Tr))] ?_
 obtain ⟨g4, h⟩ := zh h
 obtain ⟨x4, hx4, h⟩ := zj h
 refine zbc (args' := [.A (x2 : Tr)]) (r := .tup [.A (x4.1 : Tr), .i x4.2]) (by rw [← hx4]; exact (zl1 x2 g4)) ?_
 refine w_r [.m _, .x _, .x _] ?_
 refine za6 (a := .ptr 3 0) (σ'' := (.B [(30, (Enc.cells (x1 : Tr))), (30, (Enc.cells (x2 : Tr))), (30, (Enc.cells (x3.1 : Tr))), (30, [.u 0, .raw (.int .u64 0), .raw (.int .u64 0), .raw (.int .u64 0), .raw (.int .u64 0), .i 0, .i 0, .list 0 [] .full])])) ?_
 refine za5 8 (.B [(30, (Enc.cells (x1 : Tr))), (30, (Enc.cells (x2 : Tr))), (30, (Enc.cells (x3.1 : Tr))), (30, (Enc.cells (x4.1 : Tr)))]) ?_
 refine z8 ?_
 refine zv [.v (.A (x1 : Tr))] ?_
 obtain ⟨g5, h⟩ := zh h
 obtain ⟨x5, hx5, h⟩ := zj h
 refine zbc (args' := [.A (x1 : Tr)]) (r := .A (x5 : Tr)) (by rw [← hx5]; exact (zf7 x1 g5)) ?_
 obtain ⟨g6, h⟩ := zh h
 obtain ⟨x6, hx6, h⟩ := zj h
 refine zbc (args' := [.A (x5 : Tr)]) (r := .tup [.A (x6.1 : Tr), .i x6.2]) (by rw [← hx6]; exact (zl1 x5 g6)) ?_
 refine w_r [.m _, .x _, .x _] ?_
 refine za6 (a := .ptr 4 0) (σ'' := (.B [(30, (Enc.cells (x1 : Tr))), (30, (Enc.cells (x2 : Tr))), (30, (Enc.cells (x3.1 : Tr))), (30, (Enc.cells (x4.1 : Tr))), (30, [.u 0, .raw (.int .u64 0), .raw (.int .u64 0), .raw (.int .u64 0), .raw (.int .u64 0), .i 0, .i 0, .list 0 [] .full])])) ?_
 refine za5 8 (.B [(30, (Enc.cells (x1 : Tr))), (30, (Enc.cells (x2 : Tr))), (30, (Enc.cells (x3.1 : Tr))), (30, (Enc.cells (x4.1 : Tr))), (30, (Enc.cells (x6.1 : Tr)))]) ?_
 refine z8 ?_
 refine ze ?_
 refine ze ?_
 refine zcf (k0 := 0) (id := 7) 21 (by kernel_rfl) (by kernel_rfl) ?_
 refine zep ?_
 refine zep ?_
 obtain ⟨g7, h⟩ := zh h
 refine h_o (a := .i (x3.2 + x4.2)) (h := zgd rfl rfl rfl rfl g7.1 g7.2) ?_
 refine zep ?_
 obtain ⟨g8, h⟩ := zh h
 refine h_o (a := .i ((x3.2 + x4.2) + x6.2)) (h := zgd rfl rfl rfl rfl g8.1 g8.2) ?_
 refine h_o (a := .b (((x3.2 + x4.2) + x6.2) != 0)) ?_
 refine zu h (fun hc1 h => ?_) (fun hc1 h => ?_)
 refine h_o (a := .b true) (h := zap rfl hc1) ?_
 refine zbt ?_
 refine zbt ?_
 refine zbt ?_
 refine zbt ?_
 refine zbt ?_
 refine h_o (a := .b true) ?_
 refine zep ?_
 refine zbt ?_
 refine zbt ?_
 refine h_o (a := .b true) ?_
 refine zep ?_
 refine zbt ?_
 refine zbt ?_
 refine zbt ?_
 refine zck ?_
 refine w_r [.p, .p, .v (.b true)] ?_
 refine zbf rfl ?_
 refine zv [.v (.b false)] ?_
 exact zas h
 refine h_o (a := .b false) (h := zap rfl hc1) ?_
 refine zbj rfl rfl ?_
 refine h_o (a := .A (x6.1 : Tr)) ?_
 refine zbj rfl rfl ?_
 refine h_o (a := .A (x3.1 : Tr)) ?_
 refine zbj rfl rfl ?_
 obtain ⟨g9, h⟩ := zh h
 obtain ⟨x7, hx7, h⟩ := zj h
 refine zh1 (args' := [.A (x3.1 : Tr)]) (r := .A (x7 : Tr)) (by rw [← hx7]; exact (zf7 x3.1 g9)) ?_
 refine zbj rfl rfl ?_
 obtain ⟨g10, h⟩ := zh h
 obtain ⟨x8, hx8, h⟩ := zj h
 refine zh1 (args' := [.A (x6.1 : Tr), .A (x7 : Tr)]) (r := .b x8) (by rw [← hx8]; exact (zk2 x6.1 x7 g10)) ?_
 refine zbj rfl rfl ?_
 refine h_o (a := .b (!x8)) ?_
 refine h_o (a := .b (!x8)) ?_
 refine zu h (fun hc2 h => ?_) (fun hc2 h => ?_)
 refine h_o (a := .b true) (h := zap rfl hc2) ?_
 refine zbt ?_
 refine zbt ?_
 refine h_o (a := .b true) ?_
 refine zep ?_
 refine zbt ?_
 refine zbt ?_
 refine zbt ?_
 refine zck ?_
 refine w_r [.p, .p, .v (.b true)] ?_
 refine zbf rfl ?_
 refine zv [.v (.b false)] ?_
 exact zas h
 refine h_o (a := .b false) (h := zap rfl hc2) ?_
 refine zbj rfl rfl ?_
 refine h_o (a := .A (x6.1 : Tr)) ?_
 refine zbj rfl rfl ?_
 obtain ⟨g11, h⟩ := zh h
 obtain ⟨x9, hx9, h⟩ := zj h
 refine zh1 (args' := [.A (x6.1 : Tr)]) (r := .b x9) (by rw [← hx9]; exact (zwa x6.1 g11)) ?_
 refine h_o (a := .b x9) ?_
 refine zu h (fun hc3 h => ?_) (fun hc3 h => ?_)
 refine h_o (a := .b true) (h := zap rfl hc3) ?_
 refine zbt ?_
 refine zbt ?_
 refine zbt ?_
 refine zck ?_
 refine w_r [.p, .p, .v (.b true)] ?_
 refine zbf rfl ?_
 refine zv [.v (.b false)] ?_
 exact zas h
 refine h_o (a := .b false) (h := zap rfl hc3) ?_
 refine zbj rfl rfl ?_
 refine h_o (a := .A (x6.1 : Tr)) ?_
 refine zbj rfl rfl ?_
 obtain ⟨g12, h⟩ := zh h
 obtain ⟨x10, hx10, h⟩ := zj h
 refine zh1 (args' := [.A (x6.1 : Tr)]) (r := .b x10) (by rw [← hx10]; exact (zb9 x6.1 g12)) ?_
 refine zbj rfl rfl ?_
 refine h_o (a := .A (x1 : Tr)) ?_
 refine zck ?_
 refine z1 rfl rfl ?_
 obtain ⟨g13, h⟩ := zh h
 obtain ⟨x11, hx11, h⟩ := zj h
 refine zbc (args' := [.A (x1 : Tr)]) (r := .b x11) (by rw [← hx11]; exact (zb9 x1 g13)) ?_
 refine z1 rfl rfl ?_
 refine w_o (a := .b (!(x10 == x11))) (h := zbd (by kernel_rfl)) ?_
 refine w_o (a := .b (!(x10 == x11))) ?_
 refine zbm h (fun hc4 h => ?_) (fun hc4 h => ?_)
 refine zv [.v (.b false)] ?_
 exact zas h
 refine ze ?_
 refine z1s (k0 := 0) (id := 9) 6 (by kernel_rfl) (by kernel_rfl) ?_
 refine z5m (a := .A (x1 : Tr)) rfl rfl rfl rfl rfl (by dsimp only [zo, List.set]) ?_
 obtain ⟨g14, h⟩ := zh h
 obtain ⟨x12, hx12, h⟩ := zj h
 refine zrc (args' := [.A (x1 : Tr)]) (r := .A (x12 : Tr)) (by rw [← hx12]; exact (zf7 x1 g14)) rfl rfl rfl rfl (zg (zae (zl (Enc.clo _))) rfl) (zb (zn _ _ (zl (Enc.clo _))) rfl) (by dsimp only [zo, List.set]) ?_
 refine z5m (a := .A (x2 : Tr)) rfl rfl rfl rfl rfl (by dsimp only [zo, List.set]) ?_
 obtain ⟨g15, h⟩ := zh h
 obtain ⟨x13, hx13, h⟩ := zj h
 refine zrc (args' := [.A (x2 : Tr)]) (r := .A (x13 : Tr)) (by rw [← hx13]; exact (zf7 x2 g15)) rfl rfl rfl rfl (zg (zae (zl (Enc.clo _))) rfl) (zb (zn _ _ (zl (Enc.clo _))) rfl) (by dsimp only [zo, List.set]) ?_
 refine zxn _ rfl rfl rfl rfl rfl rfl (by dsimp only [List.set]) ?_
 refine zxn _ rfl rfl rfl rfl rfl rfl (by dsimp only [List.set]) ?_
 refine zyv (n := 5) rfl (show _ = ((.B [(30, (Enc.cells (x1 : Tr))), (30, (Enc.cells (x2 : Tr))), (30, (Enc.cells (x3.1 : Tr))), (30, (Enc.cells (x4.1 : Tr))), (30, (Enc.cells (x6.1 : Tr))), (30, [.u 0, .raw (.int .u64 0), .raw (.int .u64 0), .raw (.int .u64 0), .raw (.int .u64 0), .i 0, .i 0, .list 0 [] .full]), (30, [.u 0, .raw (.int .u64 0), .raw (.int .u64 0), .raw (.int .u64 0), .raw (.int .u64 0), .i 0, .i 0, .list 0 [] .full])]) : St) from rfl) (by dsimp only [List.nil_append, List.cons_append, zju, List.set, Nat.reduceAdd]) ?_
 refine za5 8 (.B [(30, (Enc.cells (x1 : Tr))), (30, (Enc.cells (x2 : Tr))), (30, (Enc.cells (x3.1 : Tr))), (30, (Enc.cells (x4.1 : Tr))), (30, (Enc.cells (x6.1 : Tr))), (30, (Enc.cells (x12 : Tr))), (30, [.u 0, .raw (.int .u64 0), .raw (.int .u64 0), .raw (.int .u64 0), .raw (.int .u64 0), .i 0, .i 0, .list 0 [] .full])]) ?_
 refine za5 8 (.B [(30, (Enc.cells (x1 : Tr))), (30, (Enc.cells (x2 : Tr))), (30, (Enc.cells (x3.1 : Tr))), (30, (Enc.cells (x4.1 : Tr))), (30, (Enc.cells (x6.1 : Tr))), (30, (Enc.cells (x12 : Tr))), (30, (Enc.cells (x13 : Tr)))]) ?_
 refine zv [.v (.A (x12 : Tr)), .v (.A (x13 : Tr)), .v (.A (x12 : Tr))] ?_
 refine w_o (a := .F ([x12, x13, x12] : List Tr)) (h := zbd (zfa (α := Tr) (l := [x12, x13, x12]) (cs := Enc.cells (x12 : Tr) ++ (Enc.cells (x13 : Tr) ++ (Enc.cells (x12 : Tr) ++ []))) (by kernel_rfl) (by rw [Enc.cons, Enc.cons, Enc.cons, Enc.nil]))) ?_
 obtain ⟨g16, h⟩ := zh h
 obtain ⟨x14, hx14, h⟩ := zj h
 refine zbc (args' := [.L ([x12, x13, x12] : List Tr)]) (r := .A (x14 : Tr)) (by rw [← hx14]; exact (k_or [x12, x13, x12] g16)) ?_
 obtain ⟨g17, h⟩ := zh h
 obtain ⟨x15, hx15, h⟩ := zj h
 refine zbc (args' := [.A (x14 : Tr)]) (r := .tup [.A (x15.1 : Tr), .i x15.2]) (by rw [← hx15]; exact (zl1 x14 g17)) ?_
 refine w_r [.m _, .x _, .x _] ?_
 refine za6 (a := .ptr 7 0) (σ'' := (.B [(30, (Enc.cells (x1 : Tr))), (30, (Enc.cells (x2 : Tr))), (30, (Enc.cells (x3.1 : Tr))), (30, (Enc.cells (x4.1 : Tr))), (30, (Enc.cells (x6.1 : Tr))), (30, (Enc.cells (x12 : Tr))), (30, (Enc.cells (x13 : Tr))), (30, [.u 0, .raw (.int .u64 0), .raw (.int .u64 0), .raw (.int .u64 0), .raw (.int .u64 0), .i 0, .i 0, .list 0 [] .full])])) ?_
 refine za5 8 (.B [(30, (Enc.cells (x1 : Tr))), (30, (Enc.cells (x2 : Tr))), (30, (Enc.cells (x3.1 : Tr))), (30, (Enc.cells (x4.1 : Tr))), (30, (Enc.cells (x6.1 : Tr))), (30, (Enc.cells (x12 : Tr))), (30, (Enc.cells (x13 : Tr))), (30, (Enc.cells (x15.1 : Tr)))]) ?_
 refine z8 ?_
 refine zv [.v (.A (x12 : Tr)), .v (.A (x13 : Tr)), .v (.A (x12 : Tr))] ?_
 refine w_o (a := .F ([x12, x13, x12] : List Tr)) (h := zbd (zfa (α := Tr) (l := [x12, x13, x12]) (cs := Enc.cells (x12 : Tr) ++ (Enc.cells (x13 : Tr) ++ (Enc.cells (x12 : Tr) ++ []))) (by kernel_rfl) (by rw [Enc.cons, Enc.cons, Enc.cons, Enc.nil]))) ?_
 obtain ⟨g18, h⟩ := zh h
 obtain ⟨x16, hx16, h⟩ := zj h
 refine zbc (args' := [.L ([x12, x13, x12] : List Tr)]) (r := .A (x16 : Tr)) (by rw [← hx16]; exact (z5i [x12, x13, x12] g18)) ?_
 obtain ⟨g19, h⟩ := zh h
 obtain ⟨x17, hx17, h⟩ := zj h
 refine zbc (args' := [.A (x16 : Tr)]) (r := .tup [.A (x17.1 : Tr), .i x17.2]) (by rw [← hx17]; exact (zl1 x16 g19)) ?_
 refine w_r [.m _, .x _, .x _] ?_
 refine za6 (a := .ptr 8 0) (σ'' := (.B [(30, (Enc.cells (x1 : Tr))), (30, (Enc.cells (x2 : Tr))), (30, (Enc.cells (x3.1 : Tr))), (30, (Enc.cells (x4.1 : Tr))), (30, (Enc.cells (x6.1 : Tr))), (30, (Enc.cells (x12 : Tr))), (30, (Enc.cells (x13 : Tr))), (30, (Enc.cells (x15.1 : Tr))), (30, [.u 0, .raw (.int .u64 0), .raw (.int .u64 0), .raw (.int .u64 0), .raw (.int .u64 0), .i 0, .i 0, .list 0 [] .full])])) ?_
 refine za5 8 (.B [(30, (Enc.cells (x1 : Tr))), (30, (Enc.cells (x2 : Tr))), (30, (Enc.cells (x3.1 : Tr))), (30, (Enc.cells (x4.1 : Tr))), (30, (Enc.cells (x6.1 : Tr))), (30, (Enc.cells (x12 : Tr))), (30, (Enc.cells (x13 : Tr))), (30, (Enc.cells (x15.1 : Tr))), (30, (Enc.cells (x17.1 : Tr)))]) ?_
 refine z8 ?_
 refine ze ?_
 refine z1s (k0 := 0) (id := 12) 6 (by kernel_rfl) (by kernel_rfl) ?_
 refine z5m (a := .A (x3.1 : Tr)) rfl rfl rfl rfl rfl (by dsimp only [zo, List.set]) ?_
 obtain ⟨g20, h⟩ := zh h
 obtain ⟨x18, hx18, h⟩ := zj h
 refine zrc (args' := [.A (x3.1 : Tr)]) (r := .A (x18 : Tr)) (by rw [← hx18]; exact (zf7 x3.1 g20)) rfl rfl rfl rfl (zg (zae (zl (Enc.clo _))) rfl) (zb (zn _ _ (zl (Enc.clo _))) rfl) (by dsimp only [zo, List.set]) ?_
 refine z5m (a := .A (x4.1 : Tr)) rfl rfl rfl rfl rfl (by dsimp only [zo, List.set]) ?_
 obtain ⟨g21, h⟩ := zh h
 obtain ⟨x19, hx19, h⟩ := zj h
 refine zrc (args' := [.A (x4.1 : Tr)]) (r := .A (x19 : Tr)) (by rw [← hx19]; exact (zf7 x4.1 g21)) rfl rfl rfl rfl (zg (zae (zl (Enc.clo _))) rfl) (zb (zn _ _ (zl (Enc.clo _))) rfl) (by dsimp only [zo, List.set]) ?_
 refine zxn _ rfl rfl rfl rfl rfl rfl (by dsimp only [List.set]) ?_
 refine zxn _ rfl rfl rfl rfl rfl rfl (by dsimp only [List.set]) ?_
 refine zyv (n := 9) rfl (show _ = ((.B [(30, (Enc.cells (x1 : Tr))), (30, (Enc.cells (x2 : Tr))), (30, (Enc.cells (x3.1 : Tr))), (30, (Enc.cells (x4.1 : Tr))), (30, (Enc.cells (x6.1 : Tr))), (30, (Enc.cells (x12 : Tr))), (30, (Enc.cells (x13 : Tr))), (30, (Enc.cells (x15.1 : Tr))), (30, (Enc.cells (x17.1 : Tr))), (30, [.u 0, .raw (.int .u64 0), .raw (.int .u64 0), .raw (.int .u64 0), .raw (.int .u64 0), .i 0, .i 0, .list 0 [] .full]), (30, [.u 0, .raw (.int .u64 0), .raw (.int .u64 0), .raw (.int .u64 0), .raw (.int .u64 0), .i 0, .i 0, .list 0 [] .full])]) : St) from rfl) (by dsimp only [List.nil_append, List.cons_append, zju, List.set, Nat.reduceAdd]) ?_
 refine za5 8 (.B [(30, (Enc.cells (x1 : Tr))), (30, (Enc.cells (x2 : Tr))), (30, (Enc.cells (x3.1 : Tr))), (30, (Enc.cells (x4.1 : Tr))), (30, (Enc.cells (x6.1 : Tr))), (30, (Enc.cells (x12 : Tr))), (30, (Enc.cells (x13 : Tr))), (30, (Enc.cells (x15.1 : Tr))), (30, (Enc.cells (x17.1 : Tr))), (30, (Enc.cells (x18 : Tr))), (30, [.u 0, .raw (.int .u64 0), .raw (.int .u64 0), .raw (.int .u64 0), .raw (.int .u64 0), .i 0, .i 0, .list 0 [] .full])]) ?_
 refine za5 8 (.B [(30, (Enc.cells (x1 : Tr))), (30, (Enc.cells (x2 : Tr))), (30, (Enc.cells (x3.1 : Tr))), (30, (Enc.cells (x4.1 : Tr))), (30, (Enc.cells (x6.1 : Tr))), (30, (Enc.cells (x12 : Tr))), (30, (Enc.cells (x13 : Tr))), (30, (Enc.cells (x15.1 : Tr))), (30, (Enc.cells (x17.1 : Tr))), (30, (Enc.cells (x18 : Tr))), (30, (Enc.cells (x19 : Tr)))]) ?_
 refine ze ?_
 refine zcf (k0 := 0) (id := 13) 37 (by kernel_rfl) (by kernel_rfl) ?_
 refine zep ?_
 refine zep ?_
 obtain ⟨g22, h⟩ := zh h
 refine h_o (a := .i (x15.2 + x17.2)) (h := zgd rfl rfl rfl rfl g22.1 g22.2) ?_
 refine h_o (a := .b ((x15.2 + x17.2) == 0)) ?_
 refine zu h (fun hc5 h => ?_) (fun hc5 h => ?_)
 refine h_o (a := .b true) (h := zap rfl hc5) ?_
 refine zbj rfl rfl ?_
 refine h_o (a := .A (x15.1 : Tr)) ?_
 refine zbj rfl rfl ?_
 refine h_o (a := .A (x18 : Tr)) ?_
 refine zbj rfl rfl ?_
 refine h_o (a := .A (x19 : Tr)) ?_
 refine zbj rfl rfl ?_
 refine h_o (a := .A (x18 : Tr)) ?_
 refine zbj rfl rfl ?_
 refine h_o (a := .F ([x18, x19, x18] : List Tr)) (h := zfa (α := Tr) (l := [x18, x19, x18]) (cs := Enc.cells (x18 : Tr) ++ (Enc.cells (x19 : Tr) ++ (Enc.cells (x18 : Tr) ++ []))) (by kernel_rfl) (by rw [Enc.cons, Enc.cons, Enc.cons, Enc.nil])) ?_
 refine zbj rfl rfl ?_
 obtain ⟨g23, h⟩ := zh h
 obtain ⟨x20, hx20, h⟩ := zj h
 refine zh1 (args' := [.L ([x18, x19, x18] : List Tr)]) (r := .A (x20 : Tr)) (by rw [← hx20]; exact (k_or [x18, x19, x18] g23)) ?_
 refine zbj rfl rfl ?_
 obtain ⟨g24, h⟩ := zh h
 obtain ⟨x21, hx21, h⟩ := zj h
 refine zh1 (args' := [.A (x15.1 : Tr), .A (x20 : Tr)]) (r := .b x21) (by rw [← hx21]; exact (zk2 x15.1 x20 g24)) ?_
 refine h_o (a := .b x21) ?_
 refine zu h (fun hc6 h => ?_) (fun hc6 h => ?_)
 refine h_o (a := .b true) (h := zap rfl hc6) ?_
 refine zbj rfl rfl ?_
 refine h_o (a := .A (x17.1 : Tr)) ?_
 refine zbj rfl rfl ?_
 refine h_o (a := .A (x18 : Tr)) ?_
 refine zbj rfl rfl ?_
 refine h_o (a := .A (x19 : Tr)) ?_
 refine zbj rfl rfl ?_
 refine h_o (a := .A (x18 : Tr)) ?_
 refine zbj rfl rfl ?_
 refine h_o (a := .F ([x18, x19, x18] : List Tr)) (h := zfa (α := Tr) (l := [x18, x19, x18]) (cs := Enc.cells (x18 : Tr) ++ (Enc.cells (x19 : Tr) ++ (Enc.cells (x18 : Tr) ++ []))) (by kernel_rfl) (by rw [Enc.cons, Enc.cons, Enc.cons, Enc.nil])) ?_
 refine zbj rfl rfl ?_
 obtain ⟨g25, h⟩ := zh h
 obtain ⟨x22, hx22, h⟩ := zj h
 refine zh1 (args' := [.L ([x18, x19, x18] : List Tr)]) (r := .A (x22 : Tr)) (by rw [← hx22]; exact (z5i [x18, x19, x18] g25)) ?_
 refine zbj rfl rfl ?_
 obtain ⟨g26, h⟩ := zh h
 obtain ⟨x23, hx23, h⟩ := zj h
 refine zh1 (args' := [.A (x17.1 : Tr), .A (x22 : Tr)]) (r := .b x23) (by rw [← hx23]; exact (zk2 x17.1 x22 g26)) ?_
 refine h_o (a := .b x23) ?_
 refine zu h (fun hc7 h => ?_) (fun hc7 h => ?_)
 refine h_o (a := .b true) (h := zap rfl hc7) ?_
 refine zbj rfl rfl ?_
 refine h_o (a := .A (x17.1 : Tr)) ?_
 refine zbj rfl rfl ?_
 obtain ⟨g27, h⟩ := zh h
 obtain ⟨x24, hx24, h⟩ := zj h
 refine zh1 (args' := [.A (x17.1 : Tr)]) (r := .b x24) (by rw [← hx24]; exact (zb9 x17.1 g27)) ?_
 refine zbj rfl rfl ?_
 refine h_o (a := .A (x1 : Tr)) ?_
 refine zbj rfl rfl ?_
 obtain ⟨g28, h⟩ := zh h
 obtain ⟨x25, hx25, h⟩ := zj h
 refine zh1 (args' := [.A (x1 : Tr)]) (r := .b x25) (by rw [← hx25]; exact (zb9 x1 g28)) ?_
 refine zbj rfl rfl ?_
 refine zu h (fun hc8 h => ?_) (fun hc8 h => ?_)
 refine h_o (a := .b true) (h := zap rfl hc8) ?_
 refine zbj rfl rfl ?_
 refine h_o (a := .A (x2 : Tr)) ?_
 refine zbj rfl rfl ?_
 obtain ⟨g29, h⟩ := zh h
 obtain ⟨x26, hx26, h⟩ := zj h
 refine zh1 (args' := [.A (x2 : Tr)]) (r := .b x26) (by rw [← hx26]; exact (zb9 x2 g29)) ?_
 refine zbj rfl rfl ?_
 refine h_o (a := .b x26) ?_
 refine zbj rfl rfl ?_
 refine h_o (a := .b (x24 == x26)) (h := by kernel_rfl) ?_
 refine h_o (a := .b (x24 == x26)) ?_
 refine zu h (fun hc9 h => ?_) (fun hc9 h => ?_)
 refine h_o (a := .b true) (h := zap rfl hc9) ?_
 refine zbj rfl rfl ?_
 refine h_o (a := .A (x15.1 : Tr)) ?_
 refine zbj rfl rfl ?_
 obtain ⟨g30, h⟩ := zh h
 obtain ⟨x27, hx27, h⟩ := zj h
 refine zh1 (args' := [.A (x15.1 : Tr)]) (r := .b x27) (by rw [← hx27]; exact (zb9 x15.1 g30)) ?_
 refine zbj rfl rfl ?_
 refine h_o (a := .A (x1 : Tr)) ?_
 refine zck ?_
 refine z1 rfl rfl ?_
 obtain ⟨g31, h⟩ := zh h
 obtain ⟨x28, hx28, h⟩ := zj h
 refine zbc (args' := [.A (x1 : Tr)]) (r := .b x28) (by rw [← hx28]; exact (zb9 x1 g31)) ?_
 refine z1 rfl rfl ?_
 refine zu h (fun hc10 h => ?_) (fun hc10 h => ?_)
 refine zam hc10 ?_
 refine w_r [.p, .p, .v (.b true)] ?_
 refine z1 rfl rfl ?_
 refine w_o (a := .b (x27 == true)) (h := zbd (by kernel_rfl)) ?_
 refine w_r [.v (.b (x27 == true)), .m _] ?_
 exact zas h
 refine zam hc10 ?_
 refine z1 rfl rfl ?_
 refine w_o (a := .A (x2 : Tr)) ?_
 refine z1 rfl rfl ?_
 obtain ⟨g32, h⟩ := zh h
 obtain ⟨x29, hx29, h⟩ := zj h
 refine zbc (args' := [.A (x2 : Tr)]) (r := .b x29) (by rw [← hx29]; exact (zb9 x2 g32)) ?_
 refine z1 rfl rfl ?_
 refine w_o (a := .b x29) ?_
 refine z1 rfl rfl ?_
 refine w_o (a := .b (x27 == x29)) (h := zbd (by kernel_rfl)) ?_
 refine w_r [.v (.b (x27 == x29)), .m _] ?_
 exact zas h
 refine h_o (a := .b false) (h := zap rfl hc9) ?_
 refine zbt ?_
 refine zbt ?_
 refine zbt ?_
 refine zck ?_
 refine w_r [.p, .p, .p, .p, .p] ?_
 refine w_r [.p, .v (.b false), .m _] ?_
 exact zas h
 refine h_o (a := .b false) (h := zap rfl hc8) ?_
 refine zbt ?_
 refine zbt ?_
 refine zbj rfl rfl ?_
 refine h_o (a := .b false) ?_
 refine zbj rfl rfl ?_
 refine h_o (a := .b (x24 == false)) (h := by kernel_rfl) ?_
 refine h_o (a := .b (x24 == false)) ?_
 refine zu h (fun hc11 h => ?_) (fun hc11 h => ?_)
 refine h_o (a := .b true) (h := zap rfl hc11) ?_
 refine zbj rfl rfl ?_
 refine h_o (a := .A (x15.1 : Tr)) ?_
 refine zbj rfl rfl ?_
 obtain ⟨g33, h⟩ := zh h
 obtain ⟨x30, hx30, h⟩ := zj h
 refine zh1 (args' := [.A (x15.1 : Tr)]) (r := .b x30) (by rw [← hx30]; exact (zb9 x15.1 g33)) ?_
 refine zbj rfl rfl ?_
 refine h_o (a := .A (x1 : Tr)) ?_
 refine zck ?_
 refine z1 rfl rfl ?_
 obtain ⟨g34, h⟩ := zh h
 obtain ⟨x31, hx31, h⟩ := zj h
 refine zbc (args' := [.A (x1 : Tr)]) (r := .b x31) (by rw [← hx31]; exact (zb9 x1 g34)) ?_
 refine z1 rfl rfl ?_
 refine zu h (fun hc12 h => ?_) (fun hc12 h => ?_)
 refine zam hc12 ?_
 refine w_r [.p, .p, .v (.b true)] ?_
 refine z1 rfl rfl ?_
 refine w_o (a := .b (x30 == true)) (h := zbd (by kernel_rfl)) ?_
 refine w_r [.v (.b (x30 == true)), .m _] ?_
 exact zas h
 refine zam hc12 ?_
 refine z1 rfl rfl ?_
 refine w_o (a := .A (x2 : Tr)) ?_
 refine z1 rfl rfl ?_
 obtain ⟨g35, h⟩ := zh h
 obtain ⟨x32, hx32, h⟩ := zj h
 refine zbc (args' := [.A (x2 : Tr)]) (r := .b x32) (by rw [← hx32]; exact (zb9 x2 g35)) ?_
 refine z1 rfl rfl ?_
 refine w_o (a := .b x32) ?_
 refine z1 rfl rfl ?_
 refine w_o (a := .b (x30 == x32)) (h := zbd (by kernel_rfl)) ?_
 refine w_r [.v (.b (x30 == x32)), .m _] ?_
 exact zas h
 refine h_o (a := .b false) (h := zap rfl hc11) ?_
 refine zbt ?_
 refine zbt ?_
 refine zbt ?_
 refine zck ?_
 refine w_r [.p, .p, .p, .p, .p] ?_
 refine w_r [.p, .v (.b false), .m _] ?_
 exact zas h
 refine h_o (a := .b false) (h := zap rfl hc7) ?_
 refine zbt ?_
 refine zbt ?_
 refine zbt ?_
 refine zbt ?_
 refine zbt ?_
 refine zbt ?_
 refine zbt ?_
 refine zbt ?_
 refine zbt ?_
 refine h_o (a := .b false) ?_
 refine zep ?_
 refine zbt ?_
 refine zbt ?_
 refine zbt ?_
 refine zck ?_
 refine w_r [.p, .p, .p, .p, .p] ?_
 refine w_r [.p, .v (.b false), .m _] ?_
 exact zas h
 refine h_o (a := .b false) (h := zap rfl hc6) ?_
 refine zbt ?_
 refine zbt ?_
 refine zbt ?_
 refine zbt ?_
 refine zbt ?_
 refine zbt ?_
 refine zbt ?_
 refine h_o (a := .b false) ?_
 refine zep ?_
 refine zbt ?_
 refine zbt ?_
 refine zbt ?_
 refine zbt ?_
 refine zbt ?_
 refine zbt ?_
 refine zbt ?_
 refine zbt ?_
 refine zbt ?_
 refine h_o (a := .b false) ?_
 refine zep ?_
 refine zbt ?_
 refine zbt ?_
 refine zbt ?_
 refine zck ?_
 refine w_r [.p, .p, .p, .p, .p] ?_
 refine w_r [.p, .v (.b false), .m _] ?_
 exact zas h
 refine h_o (a := .b false) (h := zap rfl hc5) ?_
 refine zbt ?_
 refine zbt ?_
 refine zbt ?_
 refine zbt ?_
 refine zbt ?_
 refine zbt ?_
 refine zbt ?_
 refine h_o (a := .b false) ?_
 refine zep ?_
 refine zbt ?_
 refine zbt ?_
 refine zbt ?_
 refine zbt ?_
 refine zbt ?_
 refine zbt ?_
 refine zbt ?_
 refine h_o (a := .b false) ?_
 refine zep ?_
 refine zbt ?_
 refine zbt ?_
 refine zbt ?_
 refine zbt ?_
 refine zbt ?_
 refine zbt ?_
 refine zbt ?_
 refine zbt ?_
 refine zbt ?_
 refine h_o (a := .b false) ?_
 refine zep ?_
 refine zbt ?_
 refine zbt ?_
 refine zbt ?_
 refine zck ?_
 refine w_r [.p, .p, .p, .p, .p] ?_
 refine w_r [.p, .v (.b false), .m _] ?_
 exact zas h
end Go.Ab
