/-
  rxnorm: times, isStar, merged, captured.
-/
import Derived.Test.YtmoncghgagmilaaZnV5
import Derived.Test.YtmoncghgagmilaaZdQq
import Derived.Test.YtmoncghgagmilaaZnW1
set_option linter.unusedSimpArgs false
set_option linter.unusedVariables false
set_option maxRecDepth 100000
set_option maxHeartbeats 4000000
namespace Go.Ab
open Go Go.RowKit Go.Fwd Go.Proofs
theorem zwd {α : Type} [Enc α] (g : FZ) (l : List α) : zdm g (zey l.length (Enc.cellsL l)) = .list l.length (Enc.cellsL l) .none := by
 unfold zey
 split
 ·rename_i h
  have := List.length_eq_zero_iff.1 h
  subst this
  rw [Enc.nil]; rfl
 ·rw [zdm, zb1 _ _ (Enc.cloL _)]
def zfy (x : Tr) (b : Bd) : Option Tr :=
 (chk ((pre x).length < 2 ^ 40) (zag (zb8 x b.lo b.mo) (fun x1 => (bif (((x1.k : Nat) : Int) != 5) then (some x1) else (chk ((pre x).length < 2 ^ 60) (zag (zcz x) (fun x2 => (bif (!x2) then (some x1) else (zdl (τ := Unit) (bif (decide (b = (Bd.mk 0 1))) then (chk (((pre x).length < 2 ^ 60 ∧ crT x = true)) (zag (nullT x) (fun x3 => (bif x3 then (some (Sum.inr x)) else (bif (((x.k : Nat) : Int) == 5) then (zag (zdj b) (fun x4 => (bif x4 then (zag (Bd.mk x.mn x.mx) (fun x5 => (zag (zdj x5) (fun x6 => (bif x6 then (zdl (τ := Bd) (zag (Bd.mk x.mn x.mx) (fun x7 => (bif (decide (b ≠ x7)) then (some (Sum.inl ((Bd.mk 0 (-1))))) else (bif (decide (b = (Bd.mk 0 (-1)))) then (some (Sum.inl ((Bd.mk 0 (-1))))) else (some (Sum.inl (b))))))) (fun j2 => (chk (0 ≤ (0 : Int) ∧ (0 : Int) < (List.length x.l : Int)) (zag (ix x.l (0 : Int)) (fun x8 => (chk ((pre x8).length < 2 ^ 40) (zag (zb8 x8 j2.lo j2.mo) (fun x9 => (some (Sum.inr x9)))))))))) else (bif (decide (b = (Bd.mk 1 (-1)))) then (chk (((pre x).length < 2 ^ 60 ∧ crT x = true)) (zag (nullT x) (fun x10 => (bif x10 then (chk ((pre x).length < 2 ^ 40) (zag (zb8 x (0 : Int) (-1)) (fun x11 => (some (Sum.inr x11))))) else (some (Sum.inl ())))))) else (some (Sum.inl ())))))))) else (bif (decide (b = (Bd.mk 1 (-1)))) then (chk (((pre x).length < 2 ^ 60 ∧ crT x = true)) (zag (nullT x) (fun x12 => (bif x12 then (chk ((pre x).length < 2 ^ 40) (zag (zb8 x (0 : Int) (-1)) (fun x13 => (some (Sum.inr x13))))) else (some (Sum.inl ())))))) else (some (Sum.inl ())))))) else (bif (decide (b = (Bd.mk 1 (-1)))) then (chk (((pre x).length < 2 ^ 60 ∧ crT x = true)) (zag (nullT x) (fun x14 => (bif x14 then (chk ((pre x).length < 2 ^ 40) (zag (zb8 x (0 : Int) (-1)) (fun x15 => (some (Sum.inr x15))))) else (some (Sum.inl ())))))) else (some (Sum.inl ())))))))) else (bif (((x.k : Nat) : Int) == 5) then (zag (zdj b) (fun x16 => (bif x16 then (zag (Bd.mk x.mn x.mx) (fun x17 => (zag (zdj x17) (fun x18 => (bif x18 then (zdl (τ := Bd) (zag (Bd.mk x.mn x.mx) (fun x19 => (bif (decide (b ≠ x19)) then (some (Sum.inl ((Bd.mk 0 (-1))))) else (bif (decide (b = (Bd.mk 0 (-1)))) then (some (Sum.inl ((Bd.mk 0 (-1))))) else (some (Sum.inl (b))))))) (fun j3 => (chk (0 ≤ (0 : Int) ∧ (0 : Int) < (List.length x.l : Int)) (zag (ix x.l (0 : Int)) (fun x20 => (chk ((pre x20).length < 2 ^ 40) (zag (zb8 x20 j3.lo j3.mo) (fun x21 => (some (Sum.inr x21)))))))))) else (bif (decide (b = (Bd.mk 1 (-1)))) then (chk (((pre x).length < 2 ^ 60 ∧ crT x = true)) (zag (nullT x) (fun x22 => (bif x22 then (chk ((pre x).length < 2 ^ 40) (zag (zb8 x (0 : Int) (-1)) (fun x23 => (some (Sum.inr x23))))) else (some (Sum.inl ())))))) else (some (Sum.inl ())))))))) else (bif (decide (b = (Bd.mk 1 (-1)))) then (chk (((pre x).length < 2 ^ 60 ∧ crT x = true)) (zag (nullT x) (fun x24 => (bif x24 then (chk ((pre x).length < 2 ^ 40) (zag (zb8 x (0 : Int) (-1)) (fun x25 => (some (Sum.inr x25))))) else (some (Sum.inl ())))))) else (some (Sum.inl ())))))) else (bif (decide (b = (Bd.mk 1 (-1)))) then (chk (((pre x).length < 2 ^ 60 ∧ crT x = true)) (zag (nullT x) (fun x26 => (bif x26 then (chk ((pre x).length < 2 ^ 40) (zag (zb8 x (0 : Int) (-1)) (fun x27 => (some (Sum.inr x27))))) else (some (Sum.inl ())))))) else (some (Sum.inl ()))))) (fun j1 => (some x1)))))))))))
theorem ent42 : Ent Try.prog 42 := enters_of Try.func42 (by kernel_rfl) rfl
theorem zir (x : Tr) (b : Bd) (r : Tr) (h : zfy x b = some r) : Pure (ITP Try.prog) Try.prog 42 [.A (x : Tr), .A (b : Bd)] (.A (r : Tr)) := by
 unfold zfy at h
 refine zaq 71 mix Try.func42 ent42 ?_
 refine ze (zd ?_)
 refine za6 (a := .ptr 0 0) (σ'' := (.B [(30, (Enc.cells (x : Tr)))])) ?_
 refine za6 (a := .ptr 1 0) (σ'' := (.B [(30, (Enc.cells (x : Tr))), (62, (Enc.cells (b : Bd)))])) ?_
 refine za6 (a := .ptr 2 0) (σ'' := (.B [(30, (Enc.cells (x : Tr))), (62, (Enc.cells (b : Bd))), (30, [.u 0, .raw (.int .u64 0), .raw (.int .u64 0), .raw (.int .u64 0), .raw (.int .u64 0), .i 0, .i 0, .list 0 [] .full])])) ?_
 refine zv [.v (.A (x : Tr)), .v (.ptr 1 0), .v (.i b.lo), .v (.ptr 1 1), .v (.i b.mo)] ?_
 obtain ⟨g1, h⟩ := zh h
 obtain ⟨x1, hx1, h⟩ := zj h
 refine zbc (args' := [.A (x : Tr), .i b.lo, .i b.mo]) (r := .A (x1 : Tr)) (by rw [← hx1]; exact (zhu x b.lo b.mo g1)) ?_
 refine za6 (a := .ptr 3 0) (σ'' := (.B [(30, (Enc.cells (x : Tr))), (62, (Enc.cells (b : Bd))), (30, [.u 0, .raw (.int .u64 0), .raw (.int .u64 0), .raw (.int .u64 0), .raw (.int .u64 0), .i 0, .i 0, .list 0 [] .full]), (30, [.u 0, .raw (.int .u64 0), .raw (.int .u64 0), .raw (.int .u64 0), .raw (.int .u64 0), .i 0, .i 0, .list 0 [] .full])])) ?_
 refine za5 8 (.B [(30, (Enc.cells (x : Tr))), (62, (Enc.cells (b : Bd))), (30, [.u 0, .raw (.int .u64 0), .raw (.int .u64 0), .raw (.int .u64 0), .raw (.int .u64 0), .i 0, .i 0, .list 0 [] .full]), (30, (Enc.cells (x1 : Tr)))]) ?_
 refine ze ?_
 refine zv [.v (.ptr 3 0), .v (.u ((x1.k : Nat) : Int)), .v (.b (((x1.k : Nat) : Int) != 5))] ?_
 refine zu h (fun hc1 h => ?_) (fun hc1 h => ?_)
 refine zam hc1 ?_
 refine w_r [.p, .p, .p, .v (.b true)] ?_
 refine zbf rfl ?_
 refine zv [.v (.A (x1 : Tr))] ?_
 refine za5 8 (.B [(30, (Enc.cells (x : Tr))), (62, (Enc.cells (b : Bd))), (30, (Enc.cells (x1 : Tr))), (30, (Enc.cells (x1 : Tr)))]) ?_
 exact zah (fun (r : Tr) => .A (r : Tr)) h (.A (x1 : Tr))
 refine zam hc1 ?_
 refine z1 rfl rfl ?_
 refine w_o (a := .A (x : Tr)) ?_
 refine z1 rfl rfl ?_
 obtain ⟨g2, h⟩ := zh h
 obtain ⟨x2, hx2, h⟩ := zj h
 refine zbc (args' := [.A (x : Tr)]) (r := .b x2) (by rw [← hx2]; exact (zlv x g2)) ?_
 refine w_r [.v (.b (!x2)), .v (.b (!x2))] ?_
 refine zbm h (fun hc2 h => ?_) (fun hc2 h => ?_)
 refine zv [.v (.A (x1 : Tr))] ?_
 refine za5 8 (.B [(30, (Enc.cells (x : Tr))), (62, (Enc.cells (b : Bd))), (30, (Enc.cells (x1 : Tr))), (30, (Enc.cells (x1 : Tr)))]) ?_
 exact zah (fun (r : Tr) => .A (r : Tr)) h (.A (x1 : Tr))
 refine zaz h (bz 0 73 9444732965739290427343) (fun j1 => []) (fun j1 => (.B [(30, (Enc.cells (x : Tr))), (62, (Enc.cells (b : Bd))), (30, [.u 0, .raw (.int .u64 0), .raw (.int .u64 0), .raw (.int .u64 0), .raw (.int .u64 0), .i 0, .i 0, .list 0 [] .full]), (30, (Enc.cells (x1 : Tr)))])) ?_ ?_
 intro or1 h hr1
 refine zt ?_
 refine ze ?_
 refine zcf (k0 := 0) (id := 4) 2 (by kernel_rfl) (by kernel_rfl) ?_
 refine h_o (a := .A (b : Bd)) ?_
 refine zh1 (zxd _ rfl) ?_
 refine zck ?_
 refine zjv (.b (decide (b = (Bd.mk 0 1)))) rfl rfl rfl (zeu b (Bd.mk 0 1) rfl rfl rfl) (by dsimp only [zo, List.set]) ?_
 refine zu h (fun hc3 h => ?_) (fun hc3 h => ?_)
 refine zam hc3 ?_
 refine z1 rfl rfl ?_
 refine w_o (a := .A (x : Tr)) ?_
 refine z1 rfl rfl ?_
 obtain ⟨g3, h⟩ := zh h
 obtain ⟨x3, hx3, h⟩ := zj h
 refine zbc (args' := [.A (x : Tr)]) (r := .b x3) (by rw [← hx3]; exact (zms x g3)) ?_
 refine w_r [.v (.b x3), .m _] ?_
 refine zbm h (fun hc4 h => ?_) (fun hc4 h => ?_)
 refine zv [.v (.A (x : Tr))] ?_
 refine za5 8 (.B [(30, (Enc.cells (x : Tr))), (62, (Enc.cells (b : Bd))), (30, (Enc.cells (x : Tr))), (30, (Enc.cells (x1 : Tr)))]) ?_
 replace h := zp h hr1
 exact zah (fun (r : Tr) => .A (r : Tr)) h (.A (x : Tr))
 refine zv [.v (.ptr 0 0), .v (.u ((x.k : Nat) : Int)), .v (.b (((x.k : Nat) : Int) == 5))] ?_
 refine zu h (fun hc5 h => ?_) (fun hc5 h => ?_)
 refine zam hc5 ?_
 refine z1 rfl rfl ?_
 refine w_o (a := .A (b : Bd)) ?_
 refine z1 rfl rfl ?_
 obtain ⟨x4, hx4, h⟩ := zj h
 refine zbc (args' := [.A (b : Bd)]) (r := .b x4) (by rw [← hx4]; exact (zni b)) ?_
 refine w_o (a := .b x4) ?_
 refine zu h (fun hc6 h => ?_) (fun hc6 h => ?_)
 refine zam hc6 ?_
 refine z1 rfl rfl ?_
 refine w_o (a := .A (x : Tr)) ?_
 refine z1 rfl rfl ?_
 obtain ⟨x5, hx5, h⟩ := zj h
 refine zbc (args' := [.A (x : Tr)]) (r := .A (x5 : Bd)) (by rw [← hx5]; exact (zp8 x _ rfl)) ?_
 refine z1 rfl rfl ?_
 obtain ⟨x6, hx6, h⟩ := zj h
 refine zbc (args' := [.A (x5 : Bd)]) (r := .b x6) (by rw [← hx6]; exact (zni x5)) ?_
 refine w_r [.v (.b x6), .m _] ?_
 refine zbm h (fun hc7 h => ?_) (fun hc7 h => ?_)
 refine zaz h (bz 0 73 9444732965739290427363) (fun j2 => []) (fun j2 => (.B [(30, (Enc.cells (x : Tr))), (62, (Enc.cells (j2 : Bd))), (30, [.u 0, .raw (.int .u64 0), .raw (.int .u64 0), .raw (.int .u64 0), .raw (.int .u64 0), .i 0, .i 0, .list 0 [] .full]), (30, (Enc.cells (x1 : Tr)))])) ?_ ?_
 intro or2 h hr2
 refine ze ?_
 refine zcf (k0 := 0) (id := 7) 7 (by kernel_rfl) (by kernel_rfl) ?_
 refine h_o (a := .A (b : Bd)) ?_
 refine h_o (a := .A (x : Tr)) ?_
 obtain ⟨x7, hx7, h⟩ := zj h
 refine zh1 (args' := [.A (x : Tr)]) (r := .A (x7 : Bd)) (by rw [← hx7]; exact (zp8 x _ rfl)) ?_
 refine zut (.b (decide (b ≠ x7))) rfl rfl rfl (zy2 b x7 rfl rfl rfl) (by dsimp only [zo, List.set]) ?_
 refine zu h (fun hc8 h => ?_) (fun hc8 h => ?_)
 refine h_o (a := .b true) (h := zap rfl hc8) ?_
 refine zbt ?_
 refine zbt ?_
 refine zck ?_
 refine w_r [.p, .v (.b true)] ?_
 refine zbf rfl ?_
 refine zd (k0 := 0) (id := 8) ?_
 refine zbc (zhl _ rfl) ?_
 refine za5 2 (.B [(30, (Enc.cells (x : Tr))), (62, (Enc.cells ((Bd.mk 0 (-1)) : Bd))), (30, [.u 0, .raw (.int .u64 0), .raw (.int .u64 0), .raw (.int .u64 0), .raw (.int .u64 0), .i 0, .i 0, .list 0 [] .full]), (30, (Enc.cells (x1 : Tr)))]) ?_
 refine zf (o := or2) ((Bd.mk 0 (-1))) h ?_
 exact zcw (bl 73 28)
 refine h_o (a := .b false) (h := zap rfl hc8) ?_
 refine zbj rfl rfl ?_
 refine h_o (a := .A (b : Bd)) ?_
 refine zbj rfl rfl ?_
 refine zh1 (zhl _ rfl) ?_
 refine zck ?_
 refine z1 rfl rfl ?_
 refine zjv (.b (decide (b = (Bd.mk 0 (-1))))) rfl rfl rfl (zeu b (Bd.mk 0 (-1)) rfl rfl rfl) (by dsimp only [zo, List.set]) ?_
 refine w_o (a := .b (decide (b = (Bd.mk 0 (-1))))) ?_
 refine zbm h (fun hc9 h => ?_) (fun hc9 h => ?_)
 refine zd (k0 := 0) (id := 8) ?_
 refine zbc (zhl _ rfl) ?_
 refine za5 2 (.B [(30, (Enc.cells (x : Tr))), (62, (Enc.cells ((Bd.mk 0 (-1)) : Bd))), (30, [.u 0, .raw (.int .u64 0), .raw (.int .u64 0), .raw (.int .u64 0), .raw (.int .u64 0), .i 0, .i 0, .list 0 [] .full]), (30, (Enc.cells (x1 : Tr)))]) ?_
 refine zf (o := or2) ((Bd.mk 0 (-1))) h ?_
 exact zcw (bl 73 28)
 refine zf (o := or2) (b) h ?_
 exact zcw (bl 73 28)
 intro j2 h
 refine zfz ?_
 refine ze ?_
 refine zcf (k0 := 0) (id := 9) 8 (by kernel_rfl) (by kernel_rfl) ?_
 refine h_o (a := .ptr 0 7) ?_
 refine h_o (a := .L (x.l : List Tr)) ?_
 obtain ⟨g4, h⟩ := zh h
 obtain ⟨x8, hx8, h⟩ := zj h
 refine h_ix hx8 g4 ?_
 refine h_o (a := .A (x8 : Tr)) ?_
 refine h_o (a := .ptr 1 0) ?_
 refine h_o (a := .i j2.lo) ?_
 refine h_o (a := .ptr 1 1) ?_
 refine h_o (a := .i j2.mo) ?_
 refine zck ?_
 obtain ⟨g5, h⟩ := zh h
 obtain ⟨x9, hx9, h⟩ := zj h
 refine zbc (args' := [.A (x8 : Tr), .i j2.lo, .i j2.mo]) (r := .A (x9 : Tr)) (by rw [← hx9]; exact (zhu x8 j2.lo j2.mo g5)) ?_
 refine za5 8 (.B [(30, (Enc.cells (x : Tr))), (62, (Enc.cells (j2 : Bd))), (30, (Enc.cells (x9 : Tr))), (30, (Enc.cells (x1 : Tr)))]) ?_
 replace h := zp h hr1
 exact zah (fun (r : Tr) => .A (r : Tr)) h (.A (x9 : Tr))
 refine ze ?_
 refine zcf (k0 := 0) (id := 10) 2 (by kernel_rfl) (by kernel_rfl) ?_
 refine h_o (a := .A (b : Bd)) ?_
 refine zh1 (zhq _ rfl) ?_
 refine zck ?_
 refine zjv (.b (decide (b = (Bd.mk 1 (-1))))) rfl rfl rfl (zeu b (Bd.mk 1 (-1)) rfl rfl rfl) (by dsimp only [zo, List.set]) ?_
 refine zu h (fun hc10 h => ?_) (fun hc10 h => ?_)
 refine zam hc10 ?_
 refine z1 rfl rfl ?_
 refine w_o (a := .A (x : Tr)) ?_
 refine z1 rfl rfl ?_
 obtain ⟨g6, h⟩ := zh h
 obtain ⟨x10, hx10, h⟩ := zj h
 refine zbc (args' := [.A (x : Tr)]) (r := .b x10) (by rw [← hx10]; exact (zms x g6)) ?_
 refine w_r [.v (.b x10), .m _] ?_
 refine zbm h (fun hc11 h => ?_) (fun hc11 h => ?_)
 refine zv [.v (.A (x : Tr))] ?_
 obtain ⟨g7, h⟩ := zh h
 obtain ⟨x11, hx11, h⟩ := zj h
 refine zbc (args' := [.A (x : Tr), .i 0, .i (-1)]) (r := .A (x11 : Tr)) (by rw [← hx11]; exact (zhu x (0 : Int) (-1) g7)) ?_
 refine za5 8 (.B [(30, (Enc.cells (x : Tr))), (62, (Enc.cells (b : Bd))), (30, (Enc.cells (x11 : Tr))), (30, (Enc.cells (x1 : Tr)))]) ?_
 replace h := zp h hr1
 exact zah (fun (r : Tr) => .A (r : Tr)) h (.A (x11 : Tr))
 refine zf (o := or1) () h ?_
 exact zcw (bl 73 48)
 refine zam hc10 ?_
 refine w_r [.p, .p, .v (.b false), .m _] ?_
 refine zao rfl ?_
 refine zf (o := or1) () h ?_
 exact zcw (bl 73 48)
 refine zam hc6 ?_
 refine w_r [.p, .p, .p, .v (.b false), .m _] ?_
 refine zao rfl ?_
 refine ze ?_
 refine zcf (k0 := 0) (id := 10) 2 (by kernel_rfl) (by kernel_rfl) ?_
 refine h_o (a := .A (b : Bd)) ?_
 refine zh1 (zhq _ rfl) ?_
 refine zck ?_
 refine zjv (.b (decide (b = (Bd.mk 1 (-1))))) rfl rfl rfl (zeu b (Bd.mk 1 (-1)) rfl rfl rfl) (by dsimp only [zo, List.set]) ?_
 refine zu h (fun hc12 h => ?_) (fun hc12 h => ?_)
 refine zam hc12 ?_
 refine z1 rfl rfl ?_
 refine w_o (a := .A (x : Tr)) ?_
 refine z1 rfl rfl ?_
 obtain ⟨g8, h⟩ := zh h
 obtain ⟨x12, hx12, h⟩ := zj h
 refine zbc (args' := [.A (x : Tr)]) (r := .b x12) (by rw [← hx12]; exact (zms x g8)) ?_
 refine w_r [.v (.b x12), .m _] ?_
 refine zbm h (fun hc13 h => ?_) (fun hc13 h => ?_)
 refine zv [.v (.A (x : Tr))] ?_
 obtain ⟨g9, h⟩ := zh h
 obtain ⟨x13, hx13, h⟩ := zj h
 refine zbc (args' := [.A (x : Tr), .i 0, .i (-1)]) (r := .A (x13 : Tr)) (by rw [← hx13]; exact (zhu x (0 : Int) (-1) g9)) ?_
 refine za5 8 (.B [(30, (Enc.cells (x : Tr))), (62, (Enc.cells (b : Bd))), (30, (Enc.cells (x13 : Tr))), (30, (Enc.cells (x1 : Tr)))]) ?_
 replace h := zp h hr1
 exact zah (fun (r : Tr) => .A (r : Tr)) h (.A (x13 : Tr))
 refine zf (o := or1) () h ?_
 exact zcw (bl 73 48)
 refine zam hc12 ?_
 refine w_r [.p, .p, .v (.b false), .m _] ?_
 refine zao rfl ?_
 refine zf (o := or1) () h ?_
 exact zcw (bl 73 48)
 refine zam hc5 ?_
 refine w_r [.p, .p, .v (.b false), .m _, .p] ?_
 refine w_r [.p, .p, .v (.b false), .m _] ?_
 refine zao rfl ?_
 refine ze ?_
 refine zcf (k0 := 0) (id := 10) 2 (by kernel_rfl) (by kernel_rfl) ?_
 refine h_o (a := .A (b : Bd)) ?_
 refine zh1 (zhq _ rfl) ?_
 refine zck ?_
 refine zjv (.b (decide (b = (Bd.mk 1 (-1))))) rfl rfl rfl (zeu b (Bd.mk 1 (-1)) rfl rfl rfl) (by dsimp only [zo, List.set]) ?_
 refine zu h (fun hc14 h => ?_) (fun hc14 h => ?_)
 refine zam hc14 ?_
 refine z1 rfl rfl ?_
 refine w_o (a := .A (x : Tr)) ?_
 refine z1 rfl rfl ?_
 obtain ⟨g10, h⟩ := zh h
 obtain ⟨x14, hx14, h⟩ := zj h
 refine zbc (args' := [.A (x : Tr)]) (r := .b x14) (by rw [← hx14]; exact (zms x g10)) ?_
 refine w_r [.v (.b x14), .m _] ?_
 refine zbm h (fun hc15 h => ?_) (fun hc15 h => ?_)
 refine zv [.v (.A (x : Tr))] ?_
 obtain ⟨g11, h⟩ := zh h
 obtain ⟨x15, hx15, h⟩ := zj h
 refine zbc (args' := [.A (x : Tr), .i 0, .i (-1)]) (r := .A (x15 : Tr)) (by rw [← hx15]; exact (zhu x (0 : Int) (-1) g11)) ?_
 refine za5 8 (.B [(30, (Enc.cells (x : Tr))), (62, (Enc.cells (b : Bd))), (30, (Enc.cells (x15 : Tr))), (30, (Enc.cells (x1 : Tr)))]) ?_
 replace h := zp h hr1
 exact zah (fun (r : Tr) => .A (r : Tr)) h (.A (x15 : Tr))
 refine zf (o := or1) () h ?_
 exact zcw (bl 73 48)
 refine zam hc14 ?_
 refine w_r [.p, .p, .v (.b false), .m _] ?_
 refine zao rfl ?_
 refine zf (o := or1) () h ?_
 exact zcw (bl 73 48)
 refine zam hc3 ?_
 refine w_r [.p, .p, .v (.b false), .m _] ?_
 refine zao rfl ?_
 refine zv [.v (.ptr 0 0), .v (.u ((x.k : Nat) : Int)), .v (.b (((x.k : Nat) : Int) == 5))] ?_
 refine zu h (fun hc16 h => ?_) (fun hc16 h => ?_)
 refine zam hc16 ?_
 refine z1 rfl rfl ?_
 refine w_o (a := .A (b : Bd)) ?_
 refine z1 rfl rfl ?_
 obtain ⟨x16, hx16, h⟩ := zj h
 refine zbc (args' := [.A (b : Bd)]) (r := .b x16) (by rw [← hx16]; exact (zni b)) ?_
 refine w_o (a := .b x16) ?_
 refine zu h (fun hc17 h => ?_) (fun hc17 h => ?_)
 refine zam hc17 ?_
 refine z1 rfl rfl ?_
 refine w_o (a := .A (x : Tr)) ?_
 refine z1 rfl rfl ?_
 obtain ⟨x17, hx17, h⟩ := zj h
 refine zbc (args' := [.A (x : Tr)]) (r := .A (x17 : Bd)) (by rw [← hx17]; exact (zp8 x _ rfl)) ?_
 refine z1 rfl rfl ?_
 obtain ⟨x18, hx18, h⟩ := zj h
 refine zbc (args' := [.A (x17 : Bd)]) (r := .b x18) (by rw [← hx18]; exact (zni x17)) ?_
 refine w_r [.v (.b x18), .m _] ?_
 refine zbm h (fun hc18 h => ?_) (fun hc18 h => ?_)
 refine zaz h (bz 0 73 9444732965739290427363) (fun j3 => []) (fun j3 => (.B [(30, (Enc.cells (x : Tr))), (62, (Enc.cells (j3 : Bd))), (30, [.u 0, .raw (.int .u64 0), .raw (.int .u64 0), .raw (.int .u64 0), .raw (.int .u64 0), .i 0, .i 0, .list 0 [] .full]), (30, (Enc.cells (x1 : Tr)))])) ?_ ?_
 intro or3 h hr3
 refine ze ?_
 refine zcf (k0 := 0) (id := 7) 7 (by kernel_rfl) (by kernel_rfl) ?_
 refine h_o (a := .A (b : Bd)) ?_
 refine h_o (a := .A (x : Tr)) ?_
 obtain ⟨x19, hx19, h⟩ := zj h
 refine zh1 (args' := [.A (x : Tr)]) (r := .A (x19 : Bd)) (by rw [← hx19]; exact (zp8 x _ rfl)) ?_
 refine zut (.b (decide (b ≠ x19))) rfl rfl rfl (zy2 b x19 rfl rfl rfl) (by dsimp only [zo, List.set]) ?_
 refine zu h (fun hc19 h => ?_) (fun hc19 h => ?_)
 refine h_o (a := .b true) (h := zap rfl hc19) ?_
 refine zbt ?_
 refine zbt ?_
 refine zck ?_
 refine w_r [.p, .v (.b true)] ?_
 refine zbf rfl ?_
 refine zd (k0 := 0) (id := 8) ?_
 refine zbc (zhl _ rfl) ?_
 refine za5 2 (.B [(30, (Enc.cells (x : Tr))), (62, (Enc.cells ((Bd.mk 0 (-1)) : Bd))), (30, [.u 0, .raw (.int .u64 0), .raw (.int .u64 0), .raw (.int .u64 0), .raw (.int .u64 0), .i 0, .i 0, .list 0 [] .full]), (30, (Enc.cells (x1 : Tr)))]) ?_
 refine zf (o := or3) ((Bd.mk 0 (-1))) h ?_
 exact zcw (bl 73 28)
 refine h_o (a := .b false) (h := zap rfl hc19) ?_
 refine zbj rfl rfl ?_
 refine h_o (a := .A (b : Bd)) ?_
 refine zbj rfl rfl ?_
 refine zh1 (zhl _ rfl) ?_
 refine zck ?_
 refine z1 rfl rfl ?_
 refine zjv (.b (decide (b = (Bd.mk 0 (-1))))) rfl rfl rfl (zeu b (Bd.mk 0 (-1)) rfl rfl rfl) (by dsimp only [zo, List.set]) ?_
 refine w_o (a := .b (decide (b = (Bd.mk 0 (-1))))) ?_
 refine zbm h (fun hc20 h => ?_) (fun hc20 h => ?_)
 refine zd (k0 := 0) (id := 8) ?_
 refine zbc (zhl _ rfl) ?_
 refine za5 2 (.B [(30, (Enc.cells (x : Tr))), (62, (Enc.cells ((Bd.mk 0 (-1)) : Bd))), (30, [.u 0, .raw (.int .u64 0), .raw (.int .u64 0), .raw (.int .u64 0), .raw (.int .u64 0), .i 0, .i 0, .list 0 [] .full]), (30, (Enc.cells (x1 : Tr)))]) ?_
 refine zf (o := or3) ((Bd.mk 0 (-1))) h ?_
 exact zcw (bl 73 28)
 refine zf (o := or3) (b) h ?_
 exact zcw (bl 73 28)
 intro j3 h
 refine zfz ?_
 refine ze ?_
 refine zcf (k0 := 0) (id := 9) 8 (by kernel_rfl) (by kernel_rfl) ?_
 refine h_o (a := .ptr 0 7) ?_
 refine h_o (a := .L (x.l : List Tr)) ?_
 obtain ⟨g12, h⟩ := zh h
 obtain ⟨x20, hx20, h⟩ := zj h
 refine h_ix hx20 g12 ?_
 refine h_o (a := .A (x20 : Tr)) ?_
 refine h_o (a := .ptr 1 0) ?_
 refine h_o (a := .i j3.lo) ?_
 refine h_o (a := .ptr 1 1) ?_
 refine h_o (a := .i j3.mo) ?_
 refine zck ?_
 obtain ⟨g13, h⟩ := zh h
 obtain ⟨x21, hx21, h⟩ := zj h
 refine zbc (args' := [.A (x20 : Tr), .i j3.lo, .i j3.mo]) (r := .A (x21 : Tr)) (by rw [← hx21]; exact (zhu x20 j3.lo j3.mo g13)) ?_
 refine za5 8 (.B [(30, (Enc.cells (x : Tr))), (62, (Enc.cells (j3 : Bd))), (30, (Enc.cells (x21 : Tr))), (30, (Enc.cells (x1 : Tr)))]) ?_
 replace h := zp h hr1
 exact zah (fun (r : Tr) => .A (r : Tr)) h (.A (x21 : Tr))
 refine ze ?_
 refine zcf (k0 := 0) (id := 10) 2 (by kernel_rfl) (by kernel_rfl) ?_
 refine h_o (a := .A (b : Bd)) ?_
 refine zh1 (zhq _ rfl) ?_
 refine zck ?_
 refine zjv (.b (decide (b = (Bd.mk 1 (-1))))) rfl rfl rfl (zeu b (Bd.mk 1 (-1)) rfl rfl rfl) (by dsimp only [zo, List.set]) ?_
 refine zu h (fun hc21 h => ?_) (fun hc21 h => ?_)
 refine zam hc21 ?_
 refine z1 rfl rfl ?_
 refine w_o (a := .A (x : Tr)) ?_
 refine z1 rfl rfl ?_
 obtain ⟨g14, h⟩ := zh h
 obtain ⟨x22, hx22, h⟩ := zj h
 refine zbc (args' := [.A (x : Tr)]) (r := .b x22) (by rw [← hx22]; exact (zms x g14)) ?_
 refine w_r [.v (.b x22), .m _] ?_
 refine zbm h (fun hc22 h => ?_) (fun hc22 h => ?_)
 refine zv [.v (.A (x : Tr))] ?_
 obtain ⟨g15, h⟩ := zh h
 obtain ⟨x23, hx23, h⟩ := zj h
 refine zbc (args' := [.A (x : Tr), .i 0, .i (-1)]) (r := .A (x23 : Tr)) (by rw [← hx23]; exact (zhu x (0 : Int) (-1) g15)) ?_
 refine za5 8 (.B [(30, (Enc.cells (x : Tr))), (62, (Enc.cells (b : Bd))), (30, (Enc.cells (x23 : Tr))), (30, (Enc.cells (x1 : Tr)))]) ?_
 replace h := zp h hr1
 exact zah (fun (r : Tr) => .A (r : Tr)) h (.A (x23 : Tr))
 refine zf (o := or1) () h ?_
 exact zcw (bl 73 48)
 refine zam hc21 ?_
 refine w_r [.p, .p, .v (.b false), .m _] ?_
 refine zao rfl ?_
 refine zf (o := or1) () h ?_
 exact zcw (bl 73 48)
 refine zam hc17 ?_
 refine w_r [.p, .p, .p, .v (.b false), .m _] ?_
 refine zao rfl ?_
 refine ze ?_
 refine zcf (k0 := 0) (id := 10) 2 (by kernel_rfl) (by kernel_rfl) ?_
 refine h_o (a := .A (b : Bd)) ?_
 refine zh1 (zhq _ rfl) ?_
 refine zck ?_
 refine zjv (.b (decide (b = (Bd.mk 1 (-1))))) rfl rfl rfl (zeu b (Bd.mk 1 (-1)) rfl rfl rfl) (by dsimp only [zo, List.set]) ?_
 refine zu h (fun hc23 h => ?_) (fun hc23 h => ?_)
 refine zam hc23 ?_
 refine z1 rfl rfl ?_
 refine w_o (a := .A (x : Tr)) ?_
 refine z1 rfl rfl ?_
 obtain ⟨g16, h⟩ := zh h
 obtain ⟨x24, hx24, h⟩ := zj h
 refine zbc (args' := [.A (x : Tr)]) (r := .b x24) (by rw [← hx24]; exact (zms x g16)) ?_
 refine w_r [.v (.b x24), .m _] ?_
 refine zbm h (fun hc24 h => ?_) (fun hc24 h => ?_)
 refine zv [.v (.A (x : Tr))] ?_
 obtain ⟨g17, h⟩ := zh h
 obtain ⟨x25, hx25, h⟩ := zj h
 refine zbc (args' := [.A (x : Tr), .i 0, .i (-1)]) (r := .A (x25 : Tr)) (by rw [← hx25]; exact (zhu x (0 : Int) (-1) g17)) ?_
 refine za5 8 (.B [(30, (Enc.cells (x : Tr))), (62, (Enc.cells (b : Bd))), (30, (Enc.cells (x25 : Tr))), (30, (Enc.cells (x1 : Tr)))]) ?_
 replace h := zp h hr1
 exact zah (fun (r : Tr) => .A (r : Tr)) h (.A (x25 : Tr))
 refine zf (o := or1) () h ?_
 exact zcw (bl 73 48)
 refine zam hc23 ?_
 refine w_r [.p, .p, .v (.b false), .m _] ?_
 refine zao rfl ?_
 refine zf (o := or1) () h ?_
 exact zcw (bl 73 48)
 refine zam hc16 ?_
 refine w_r [.p, .p, .v (.b false), .m _, .p] ?_
 refine w_r [.p, .p, .v (.b false), .m _] ?_
 refine zao rfl ?_
 refine ze ?_
 refine zcf (k0 := 0) (id := 10) 2 (by kernel_rfl) (by kernel_rfl) ?_
 refine h_o (a := .A (b : Bd)) ?_
 refine zh1 (zhq _ rfl) ?_
 refine zck ?_
 refine zjv (.b (decide (b = (Bd.mk 1 (-1))))) rfl rfl rfl (zeu b (Bd.mk 1 (-1)) rfl rfl rfl) (by dsimp only [zo, List.set]) ?_
 refine zu h (fun hc25 h => ?_) (fun hc25 h => ?_)
 refine zam hc25 ?_
 refine z1 rfl rfl ?_
 refine w_o (a := .A (x : Tr)) ?_
 refine z1 rfl rfl ?_
 obtain ⟨g18, h⟩ := zh h
 obtain ⟨x26, hx26, h⟩ := zj h
 refine zbc (args' := [.A (x : Tr)]) (r := .b x26) (by rw [← hx26]; exact (zms x g18)) ?_
 refine w_r [.v (.b x26), .m _] ?_
 refine zbm h (fun hc26 h => ?_) (fun hc26 h => ?_)
 refine zv [.v (.A (x : Tr))] ?_
 obtain ⟨g19, h⟩ := zh h
 obtain ⟨x27, hx27, h⟩ := zj h
 refine zbc (args' := [.A (x : Tr), .i 0, .i (-1)]) (r := .A (x27 : Tr)) (by rw [← hx27]; exact (zhu x (0 : Int) (-1) g19)) ?_
 refine za5 8 (.B [(30, (Enc.cells (x : Tr))), (62, (Enc.cells (b : Bd))), (30, (Enc.cells (x27 : Tr))), (30, (Enc.cells (x1 : Tr)))]) ?_
 replace h := zp h hr1
 exact zah (fun (r : Tr) => .A (r : Tr)) h (.A (x27 : Tr))
 refine zf (o := or1) () h ?_
 exact zcw (bl 73 48)
 refine zam hc25 ?_
 refine w_r [.p, .p, .v (.b false), .m _] ?_
 refine zao rfl ?_
 refine zf (o := or1) () h ?_
 exact zcw (bl 73 48)
 intro j1 h
 refine zfz ?_
 refine zv [.v (.A (x1 : Tr))] ?_
 refine za5 8 (.B [(30, (Enc.cells (x : Tr))), (62, (Enc.cells (b : Bd))), (30, (Enc.cells (x1 : Tr))), (30, (Enc.cells (x1 : Tr)))]) ?_
 exact zah (fun (r : Tr) => .A (r : Tr)) h (.A (x1 : Tr))
def zi4 (x : Tr) (y : Tr) : Option Bool :=
 (bif (((x.k : Nat) : Int) == 5) then (bif (decide ((Bd.mk x.mn x.mx) = (Bd.mk 0 (-1)))) then (chk (0 ≤ (0 : Int) ∧ (0 : Int) < (List.length x.l : Int)) (zag (ix x.l (0 : Int)) (fun x1 => (chk ((pre x1).length < 2 ^ 61 ∧ (pre y).length < 2 ^ 61) (zag (zeo x1 y) (fun x2 => (some x2))))))) else (some false)) else (some false))
theorem ent65 : Ent Try.prog 65 := enters_of Try.func65 (by kernel_rfl) rfl
theorem zuq (x : Tr) (y : Tr) (r : Bool) (h : zi4 x y = some r) : Pure (ITP Try.prog) Try.prog 65 [.A (x : Tr), .A (y : Tr)] (.raw (.bool r)) := by
 unfold zi4 at h
 refine zaq 23 mix Try.func65 ent65 ?_
 refine ze (zd ?_)
 refine za6 (a := .ptr 0 0) (σ'' := (.B [(30, (Enc.cells (x : Tr)))])) ?_
 refine za6 (a := .ptr 1 0) (σ'' := (.B [(30, (Enc.cells (x : Tr))), (30, (Enc.cells (y : Tr)))])) ?_
 refine w_o (a := .b false) ?_
 refine ze ?_
 refine zcf (k0 := 0) (id := 1) 18 (by kernel_rfl) (by kernel_rfl) ?_
 refine h_o (a := .ptr 0 0) ?_
 refine h_o (a := .u ((x.k : Nat) : Int)) ?_
 refine h_o (a := .b (((x.k : Nat) : Int) == 5)) ?_
 refine zu h (fun hc1 h => ?_) (fun hc1 h => ?_)
 refine h_o (a := .b true) (h := zap rfl hc1) ?_
 refine zbj rfl rfl ?_
 refine h_o (a := .ptr 0 5) ?_
 refine zbj rfl rfl ?_
 refine h_o (a := .i x.mn) ?_
 refine zbj rfl rfl ?_
 refine h_o (a := .ptr 0 6) ?_
 refine zbj rfl rfl ?_
 refine h_o (a := .i x.mx) ?_
 refine zbj rfl rfl ?_
 refine h_o (a := .A ((Bd.mk x.mn x.mx) : Bd)) ?_
 refine zbj rfl rfl ?_
 refine zh1 (zhl _ rfl) ?_
 refine zbj rfl rfl ?_
 refine zut (.b (decide ((Bd.mk x.mn x.mx) = (Bd.mk 0 (-1))))) rfl rfl rfl (zeu (Bd.mk x.mn x.mx) (Bd.mk 0 (-1)) rfl rfl rfl) (by dsimp only [zo, List.set]) ?_
 refine h_o (a := .b (decide ((Bd.mk x.mn x.mx) = (Bd.mk 0 (-1))))) ?_
 refine zu h (fun hc2 h => ?_) (fun hc2 h => ?_)
 refine h_o (a := .b true) (h := zap rfl hc2) ?_
 refine zbj rfl rfl ?_
 refine h_o (a := .ptr 0 7) ?_
 refine zbj rfl rfl ?_
 refine h_o (a := .L (x.l : List Tr)) ?_
 refine zbj rfl rfl ?_
 obtain ⟨g1, h⟩ := zh h
 obtain ⟨x1, hx1, h⟩ := zj h
 refine h_ix hx1 g1 ?_
 refine zbj rfl rfl ?_
 refine h_o (a := .A (x1 : Tr)) ?_
 refine zbj rfl rfl ?_
 refine h_o (a := .A (y : Tr)) ?_
 refine zck ?_
 refine z1 rfl rfl ?_
 obtain ⟨g2, h⟩ := zh h
 obtain ⟨x2, hx2, h⟩ := zj h
 refine zbc (args' := [.A (x1 : Tr), .A (y : Tr)]) (r := .b x2) (by rw [← hx2]; exact (zk2 x1 y g2)) ?_
 refine w_r [.v (.b x2), .m _] ?_
 exact zas h
 refine h_o (a := .b false) (h := zap rfl hc2) ?_
 refine zbt ?_
 refine zbt ?_
 refine zbt ?_
 refine zbt ?_
 refine zbt ?_
 refine zck ?_
 refine w_r [.p, .v (.b false), .m _] ?_
 exact zas h
 refine h_o (a := .b false) (h := zap rfl hc1) ?_
 refine zbt ?_
 refine zbt ?_
 refine zbt ?_
 refine zbt ?_
 refine zbt ?_
 refine zbt ?_
 refine zbt ?_
 refine h_o (a := .b false) ?_
 refine zep ?_
 refine zbt ?_
 refine zbt ?_
 refine zbt ?_
 refine zbt ?_
 refine zbt ?_
 refine zck ?_
 refine w_r [.p, .v (.b false), .m _] ?_
 exact zas h
def zkt (x : Tr) (y : Tr) : Option (Tr × Bool) :=
 (zdl (τ := Unit) (chk ((pre x).length < 2 ^ 60) (zag (zcz x) (fun x1 => (bif (!x1) then (some (Sum.inr (noneT, false))) else (chk ((pre y).length < 2 ^ 60) (zag (zcz y) (fun x2 => (bif (!x2) then (some (Sum.inr (noneT, false))) else (zax (zi4 y x) (fun x3 => (bif x3 then (zax (zfy x (Bd.mk 1 (-1))) (fun x4 => (some (Sum.inr (x4, true))))) else (zax (zi4 x y) (fun x5 => (bif x5 then (zax (zfy y (Bd.mk 1 (-1))) (fun x6 => (some (Sum.inr (x6, true))))) else (chk ((pre x).length < 2 ^ 61 ∧ (pre y).length < 2 ^ 61) (zag (zeo x y) (fun x7 => (bif x7 then (bif (((x.k : Nat) : Int) == 5) then (zag (Bd.mk x.mn x.mx) (fun x8 => (bif (decide (x8 = (Bd.mk 0 (-1)))) then (some (Sum.inr (x, true))) else (some (Sum.inl ()))))) else (some (Sum.inl ()))) else (some (Sum.inl ())))))))))))))))))))) (fun j1 => (some (noneT, false))))
theorem ent56 : Ent Try.prog 56 := enters_of Try.func56 (by kernel_rfl) rfl
theorem z16 (x : Tr) (y : Tr) (r : (Tr × Bool)) (h : zkt x y = some r) : Pure (ITP Try.prog) Try.prog 56 [.A (x : Tr), .A (y : Tr)] (.tup [.A (r.1 : Tr), .raw (.bool r.2)]) := by
 unfold zkt at h
 refine zaq 45 mix Try.func56 ent56 ?_
 refine ze (zd ?_)
 refine za6 (a := .ptr 0 0) (σ'' := (.B [(30, (Enc.cells (x : Tr)))])) ?_
 refine za6 (a := .ptr 1 0) (σ'' := (.B [(30, (Enc.cells (x : Tr))), (30, (Enc.cells (y : Tr)))])) ?_
 refine za6 (a := .ptr 2 0) (σ'' := (.B [(30, (Enc.cells (x : Tr))), (30, (Enc.cells (y : Tr))), (30, [.u 0, .raw (.int .u64 0), .raw (.int .u64 0), .raw (.int .u64 0), .raw (.int .u64 0), .i 0, .i 0, .list 0 [] .full])])) ?_
 refine w_o (a := .b false) ?_
 refine zaz h (bz 0 47 140737488355311) (fun j1 => []) (fun j1 => (.B [(30, (Enc.cells (x : Tr))), (30, (Enc.cells (y : Tr))), (30, [.u 0, .raw (.int .u64 0), .raw (.int .u64 0), .raw (.int .u64 0), .raw (.int .u64 0), .i 0, .i 0, .list 0 [] .full])])) ?_ ?_
 intro or1 h hr1
 refine zt ?_
 refine zv [.v (.A (x : Tr))] ?_
 obtain ⟨g1, h⟩ := zh h
 obtain ⟨x1, hx1, h⟩ := zj h
 refine zbc (args' := [.A (x : Tr)]) (r := .b x1) (by rw [← hx1]; exact (zlv x g1)) ?_
 refine w_o (a := .b (!x1)) ?_
 refine zu h (fun hc1 h => ?_) (fun hc1 h => ?_)
 refine zam hc1 ?_
 refine w_r [.p, .p, .p, .v (.b true), .m _] ?_
 refine zbf rfl ?_
 refine ze (zd ?_)
 refine zdo (.A (noneT : Tr)) (a0 := (za8 noneT .full)) rfl rfl rfl (by kernel_rfl) (zi _ _) (by dsimp only [zo, List.set]) ?_
 refine za5 8 (.B [(30, (Enc.cells (x : Tr))), (30, (Enc.cells (y : Tr))), (30, (Enc.cells (noneT : Tr)))]) ?_
 refine w_o (a := .b false) ?_
 replace h := zp h hr1
 exact zah (fun (r : (Tr × Bool)) => .tup [.A (r.1 : Tr), .b r.2]) h (.tup [.A (noneT : Tr), .b false])
 refine zam hc1 ?_
 refine z1 rfl rfl ?_
 refine w_o (a := .A (y : Tr)) ?_
 refine z1 rfl rfl ?_
 obtain ⟨g2, h⟩ := zh h
 obtain ⟨x2, hx2, h⟩ := zj h
 refine zbc (args' := [.A (y : Tr)]) (r := .b x2) (by rw [← hx2]; exact (zlv y g2)) ?_
 refine w_r [.v (.b (!x2)), .v (.b (!x2)), .m _] ?_
 refine zbm h (fun hc2 h => ?_) (fun hc2 h => ?_)
 refine ze (zd ?_)
 refine zdo (.A (noneT : Tr)) (a0 := (za8 noneT .full)) rfl rfl rfl (by kernel_rfl) (zi _ _) (by dsimp only [zo, List.set]) ?_
 refine za5 8 (.B [(30, (Enc.cells (x : Tr))), (30, (Enc.cells (y : Tr))), (30, (Enc.cells (noneT : Tr)))]) ?_
 refine w_o (a := .b false) ?_
 replace h := zp h hr1
 exact zah (fun (r : (Tr × Bool)) => .tup [.A (r.1 : Tr), .b r.2]) h (.tup [.A (noneT : Tr), .b false])
 refine zv [.v (.A (y : Tr)), .v (.A (x : Tr))] ?_
 obtain ⟨x3, hx3, h⟩ := z6 h
 refine zbc (zuq y x x3 hx3) ?_
 refine z8 ?_
 refine zbm h (fun hc3 h => ?_) (fun hc3 h => ?_)
 refine ze ?_
 refine zcf (k0 := 0) (id := 4) 2 (by kernel_rfl) (by kernel_rfl) ?_
 refine h_o (a := .A (x : Tr)) ?_
 refine zh1 (zhq _ rfl) ?_
 refine zck ?_
 obtain ⟨x4, hx4, h⟩ := z6 h
 refine zbc (zir x (Bd.mk 1 (-1)) x4 hx4) ?_
 refine za5 8 (.B [(30, (Enc.cells (x : Tr))), (30, (Enc.cells (y : Tr))), (30, (Enc.cells (x4 : Tr)))]) ?_
 refine w_o (a := .b true) ?_
 replace h := zp h hr1
 exact zah (fun (r : (Tr × Bool)) => .tup [.A (r.1 : Tr), .b r.2]) h (.tup [.A (x4 : Tr), .b true])
 refine zv [.v (.A (x : Tr)), .v (.A (y : Tr))] ?_
 obtain ⟨x5, hx5, h⟩ := z6 h
 refine zbc (zuq x y x5 hx5) ?_
 refine z8 ?_
 refine zbm h (fun hc4 h => ?_) (fun hc4 h => ?_)
 refine ze ?_
 refine zcf (k0 := 0) (id := 6) 2 (by kernel_rfl) (by kernel_rfl) ?_
 refine h_o (a := .A (y : Tr)) ?_
 refine zh1 (zhq _ rfl) ?_
 refine zck ?_
 obtain ⟨x6, hx6, h⟩ := z6 h
 refine zbc (zir y (Bd.mk 1 (-1)) x6 hx6) ?_
 refine za5 8 (.B [(30, (Enc.cells (x : Tr))), (30, (Enc.cells (y : Tr))), (30, (Enc.cells (x6 : Tr)))]) ?_
 refine w_o (a := .b true) ?_
 replace h := zp h hr1
 exact zah (fun (r : (Tr × Bool)) => .tup [.A (r.1 : Tr), .b r.2]) h (.tup [.A (x6 : Tr), .b true])
 refine zv [.v (.A (x : Tr)), .v (.A (y : Tr))] ?_
 obtain ⟨g3, h⟩ := zh h
 obtain ⟨x7, hx7, h⟩ := zj h
 refine zbc (args' := [.A (x : Tr), .A (y : Tr)]) (r := .b x7) (by rw [← hx7]; exact (zk2 x y g3)) ?_
 refine zu h (fun hc5 h => ?_) (fun hc5 h => ?_)
 refine zam hc5 ?_
 refine w_r [.v (.ptr 0 0), .v (.u ((x.k : Nat) : Int)), .v (.b (((x.k : Nat) : Int) == 5)), .v (.b (((x.k : Nat) : Int) == 5))] ?_
 refine zu h (fun hc6 h => ?_) (fun hc6 h => ?_)
 refine zam hc6 ?_
 refine z1 rfl rfl ?_
 refine w_o (a := .A (x : Tr)) ?_
 refine z1 rfl rfl ?_
 obtain ⟨x8, hx8, h⟩ := zj h
 refine zbc (args' := [.A (x : Tr)]) (r := .A (x8 : Bd)) (by rw [← hx8]; exact (zp8 x _ rfl)) ?_
 refine z1 rfl rfl ?_
 refine zbc (zhl _ rfl) ?_
 refine z1 rfl rfl ?_
 refine zjv (.b (decide (x8 = (Bd.mk 0 (-1))))) rfl rfl rfl (zeu x8 (Bd.mk 0 (-1)) rfl rfl rfl) (by dsimp only [zo, List.set]) ?_
 refine w_r [.v (.b (decide (x8 = (Bd.mk 0 (-1))))), .m _] ?_
 refine zbm h (fun hc7 h => ?_) (fun hc7 h => ?_)
 refine zv [.v (.A (x : Tr))] ?_
 refine za5 8 (.B [(30, (Enc.cells (x : Tr))), (30, (Enc.cells (y : Tr))), (30, (Enc.cells (x : Tr)))]) ?_
 refine w_o (a := .b true) ?_
 replace h := zp h hr1
 exact zah (fun (r : (Tr × Bool)) => .tup [.A (r.1 : Tr), .b r.2]) h (.tup [.A (x : Tr), .b true])
 refine zf (o := or1) () h ?_
 exact zcw (bl 47 16)
 refine zam hc6 ?_
 refine w_r [.p, .p, .p, .p, .v (.b false)] ?_
 refine w_r [.m _] ?_
 refine zao rfl ?_
 refine zf (o := or1) () h ?_
 exact zcw (bl 47 16)
 refine zam hc5 ?_
 refine w_r [.p, .p, .p, .v (.b false), .m _] ?_
 refine w_r [.p, .p, .p, .p, .v (.b false)] ?_
 refine w_r [.m _] ?_
 refine zao rfl ?_
 refine zf (o := or1) () h ?_
 exact zcw (bl 47 16)
 intro j1 h
 refine zfz ?_
 refine ze (zd ?_)
 refine zdo (.A (noneT : Tr)) (a0 := (za8 noneT .full)) rfl rfl rfl (by kernel_rfl) (zi _ _) (by dsimp only [zo, List.set]) ?_
 refine za5 8 (.B [(30, (Enc.cells (x : Tr))), (30, (Enc.cells (y : Tr))), (30, (Enc.cells (noneT : Tr)))]) ?_
 refine w_o (a := .b false) ?_
 exact zah (fun (r : (Tr × Bool)) => .tup [.A (r.1 : Tr), .b r.2]) h (.tup [.A (noneT : Tr), .b false])
def zwz (t : Tr) : Option Bool :=
 (chk ((pre t).length < 2 ^ 61) (zag (zbg t) (fun x1 => (bif x1 then (chk ((pre t).length < 2 ^ 60) (zag (zcz t) (fun x2 => (some x2)))) else (some false)))))
theorem ent8 : Ent Try.prog 8 := enters_of Try.func8 (by kernel_rfl) rfl
theorem z5x (t : Tr) (r : Bool) (h : zwz t = some r) : Pure (ITP Try.prog) Try.prog 8 [.A (t : Tr)] (.raw (.bool r)) := by
 unfold zwz at h
 refine zaq 8 mix Try.func8 ent8 ?_
 refine ze (zd ?_)
 refine za6 (a := .ptr 0 0) (σ'' := (.B [(30, (Enc.cells (t : Tr)))])) ?_
 refine w_o (a := .b false) ?_
 refine zv [.v (.A (t : Tr))] ?_
 obtain ⟨g1, h⟩ := zh h
 obtain ⟨x1, hx1, h⟩ := zj h
 refine zbc (args' := [.A (t : Tr)]) (r := .b x1) (by rw [← hx1]; exact (zlz t g1)) ?_
 refine zu h (fun hc1 h => ?_) (fun hc1 h => ?_)
 refine zam hc1 ?_
 refine z1 rfl rfl ?_
 refine w_o (a := .A (t : Tr)) ?_
 refine z1 rfl rfl ?_
 obtain ⟨g2, h⟩ := zh h
 obtain ⟨x2, hx2, h⟩ := zj h
 refine zbc (args' := [.A (t : Tr)]) (r := .b x2) (by rw [← hx2]; exact (zlv t g2)) ?_
 refine w_r [.v (.b x2), .m _] ?_
 exact zas h
 refine zam hc1 ?_
 refine w_r [.p, .p, .v (.b false), .m _] ?_
 exact zas h
def zlp (t : Tr) : Option Bool :=
 (chk ((pre t).length < 2 ^ 61) (zag (zbg t) (fun x1 => (bif x1 then (chk (((pre t).length < 2 ^ 60 ∧ crT t = true)) (zag (nullT t) (fun x2 => (some x2)))) else (some false)))))
theorem ent14 : Ent Try.prog 14 := enters_of Try.func14 (by kernel_rfl) rfl
theorem zw3 (t : Tr) (r : Bool) (h : zlp t = some r) : Pure (ITP Try.prog) Try.prog 14 [.A (t : Tr)] (.raw (.bool r)) := by
 unfold zlp at h
 refine zaq 8 mix Try.func14 ent14 ?_
 refine ze (zd ?_)
 refine za6 (a := .ptr 0 0) (σ'' := (.B [(30, (Enc.cells (t : Tr)))])) ?_
 refine w_o (a := .b false) ?_
 refine zv [.v (.A (t : Tr))] ?_
 obtain ⟨g1, h⟩ := zh h
 obtain ⟨x1, hx1, h⟩ := zj h
 refine zbc (args' := [.A (t : Tr)]) (r := .b x1) (by rw [← hx1]; exact (zlz t g1)) ?_
 refine zu h (fun hc1 h => ?_) (fun hc1 h => ?_)
 refine zam hc1 ?_
 refine z1 rfl rfl ?_
 refine w_o (a := .A (t : Tr)) ?_
 refine z1 rfl rfl ?_
 obtain ⟨g2, h⟩ := zh h
 obtain ⟨x2, hx2, h⟩ := zj h
 refine zbc (args' := [.A (t : Tr)]) (r := .b x2) (by rw [← hx2]; exact (zms t g2)) ?_
 refine w_r [.v (.b x2), .m _] ?_
 exact zas h
 refine zam hc1 ?_
 refine w_r [.p, .p, .v (.b false), .m _] ?_
 exact zas h
def zql (y : Tr) (x : Tr) : Option Bool :=
 (chk ((pre x).length < 2 ^ 61 ∧ (pre y).length < 2 ^ 61) (zag (zeo x y) (fun x1 => (some x1))))
theorem ent67 : Ent Try.prog 67 := enters_of Try.func67 (by kernel_rfl) rfl
theorem cap1_sh (y : Tr) (x : Tr) (r : Bool) (h : zql y x = some r) : Pure (ITP Try.prog) Try.prog 67 [.A (y : Tr), .iptr (Enc.cells (x : Tr))] (.raw (.bool r)) := by
 unfold zql at h
 refine zaq 5 mix Try.func67 ent67 ?_
 refine ze (zd ?_)
 refine za6 (a := .ptr 0 0) (σ'' := (.B [(30, (Enc.cells (y : Tr)))])) ?_
 refine w_o (a := .b false) ?_
 refine zv [.v (.A (x : Tr)), .v (.A (y : Tr))] ?_
 obtain ⟨g1, h⟩ := zh h
 obtain ⟨x1, hx1, h⟩ := zj h
 refine zbc (args' := [.A (x : Tr), .A (y : Tr)]) (r := .b x1) (by rw [← hx1]; exact (zk2 x y g1)) ?_
 refine z8 ?_
 exact zas h
def zg2 (fuel : Nat) (l : (List Tr)) : Option Tr :=
 (zdl (τ := (List Tr)) (zb6 (β := (List Tr) × Int) (fun s1 => (bif (decide (s1.2 < (List.length l : Int))) then (zdl (τ := (List Tr)) (chk (0 ≤ s1.2 ∧ s1.2 < (List.length l : Int)) (zag (ix l s1.2) (fun x1 => (chk ((pre x1).length < 2 ^ 60) (zag (zcz x1) (fun x2 => (bif (!x2) then (chk ((List.length s1.1 + List.length [x1]) * 80 ≤ 140737488355328) (some (Sum.inl ((s1.1 ++ [x1]))))) else (zax (z11 fuel (fun y => zql y x1) s1.1) (fun x3 => (bif (!x3) then (chk ((List.length s1.1 + List.length [x1]) * 80 ≤ 140737488355328) (some (Sum.inl ((s1.1 ++ [x1]))))) else (some (Sum.inl (s1.1))))))))))))) (fun j2 => (chk (-9223372036854775808 ≤ (s1.2 + 1) ∧ (s1.2 + 1) < 9223372036854775808) (some (Sum.inl (j2, (s1.2 + 1))))))) else (some (Sum.inr (Sum.inl (s1.1)))))) fuel (([] : (List Tr)), 0)) (fun j1 => (chk ((zal j1).length ≤ 2 ^ 40) (zag (orT j1) (fun x4 => (some x4))))))
theorem ent58 : Ent Try.prog 58 := enters_of Try.func58 (by kernel_rfl) rfl
theorem zwl (fuel : Nat) (l : (List Tr)) (r : Tr) (h : zg2 fuel l = some r) : Pure (ITP Try.prog) Try.prog 58 [.L (l : List Tr)] (.A (r : Tr)) := by
 unfold zg2 at h
 refine zaq 27 mix Try.func58 ent58 ?_
 refine ze (zd ?_)
 refine za6 (a := .ptr 0 0) (σ'' := (.B [(30, [.u 0, .raw (.int .u64 0), .raw (.int .u64 0), .raw (.int .u64 0), .raw (.int .u64 0), .i 0, .i 0, .list 0 [] .full])])) ?_
 refine zv [.v (.list 0 [] .full)] ?_
 refine zaz h (bz 0 28 268435451) (fun j1 => [(3, (.O (j1 : List Tr)))]) (fun j1 => (zds [(30, [.u 0, .raw (.int .u64 0), .raw (.int .u64 0), .raw (.int .u64 0), .raw (.int .u64 0), .i 0, .i 0, .list 0 [] .full])] 30 (List.length (j1 : List Tr)) 8)) ?_ ?_
 intro or1 h hr1
 refine zv [.m _, .v (.i (List.length l : Int)), .v (.i 0)] ?_
 refine zt ?_
 refine zch h (bz 0 28 268435259) (fun s1 => [(3, (.O (s1.1 : List Tr))), (8, .i s1.2)]) (fun s1 => (zds [(30, [.u 0, .raw (.int .u64 0), .raw (.int .u64 0), .raw (.int .u64 0), .raw (.int .u64 0), .i 0, .i 0, .list 0 [] .full])] 30 (List.length (s1.1 : List Tr)) 8)) ?_ ?_
 exact zcw (bl 28 460)
 intro s1 p1 h
 refine zfz ?_
 refine zv [.v (.b (decide (s1.2 < (List.length l : Int))))] ?_
 refine ze ?_
 refine zbm h (fun hc1 h => ?_) (fun hc1 h => ?_)
 refine zaz h (bz 0 25 33553960) (fun j2 => [(3, (.O (j2 : List Tr)))]) (fun j2 => (zds [(30, [.u 0, .raw (.int .u64 0), .raw (.int .u64 0), .raw (.int .u64 0), .raw (.int .u64 0), .i 0, .i 0, .list 0 [] .full])] 30 (List.length (j2 : List Tr)) 8)) ?_ ?_
 intro or2 h hr2
 refine zt ?_
 refine ze (zd ?_)
 obtain ⟨g1, h⟩ := zh h
 obtain ⟨x1, hx1, h⟩ := zj h
 refine zyl hx1 g1 ?_
 refine w_o (a := .A (x1 : Tr)) ?_
 refine za6 (a := .ptr 1 0) (σ'' := (zds [(30, [.u 0, .raw (.int .u64 0), .raw (.int .u64 0), .raw (.int .u64 0), .raw (.int .u64 0), .i 0, .i 0, .list 0 [] .full]), (30, [.u 0, .raw (.int .u64 0), .raw (.int .u64 0), .raw (.int .u64 0), .raw (.int .u64 0), .i 0, .i 0, .list 0 [] .full])] 30 (List.length (s1.1 : List Tr)) 8)) ?_
 refine za5 8 (zds [(30, [.u 0, .raw (.int .u64 0), .raw (.int .u64 0), .raw (.int .u64 0), .raw (.int .u64 0), .i 0, .i 0, .list 0 [] .full]), (30, (Enc.cells (x1 : Tr)))] 30 (List.length (s1.1 : List Tr)) 8) ?_
 refine zv [.v (.A (x1 : Tr))] ?_
 obtain ⟨g2, h⟩ := zh h
 obtain ⟨x2, hx2, h⟩ := zj h
 refine zbc (args' := [.A (x1 : Tr)]) (r := .b x2) (by rw [← hx2]; exact (zlv x1 g2)) ?_
 refine w_o (a := .b (!x2)) ?_
 refine zu h (fun hc2 h => ?_) (fun hc2 h => ?_)
 refine zam hc2 ?_
 refine w_r [.p, .p, .p, .p, .v (.b true)] ?_
 refine zbf rfl ?_
 refine zd (k0 := 0) (id := 6) ?_
 refine w_r [.m _, .v (.A (x1 : Tr))] ?_
 refine w_o (a := .F ([x1] : List Tr)) (h := zbd (zfa (α := Tr) (l := [x1]) (cs := Enc.cells (x1 : Tr) ++ []) rfl (by rw [Enc.cons, Enc.nil]))) ?_
 obtain ⟨g3, h⟩ := zh h
 refine zr6 (a := (.O ((s1.1 ++ [x1]) : List Tr))) (σ'' := (zds [(30, [.u 0, .raw (.int .u64 0), .raw (.int .u64 0), .raw (.int .u64 0), .raw (.int .u64 0), .i 0, .i 0, .list 0 [] .full]), (30, (Enc.cells (x1 : Tr)))] 30 (List.length ((s1.1 ++ [x1]) : List Tr)) 8)) rfl rfl rfl (zgl rfl rfl rfl rfl (zef (α := Tr) (bs := [(30, [.u 0, .raw (.int .u64 0), .raw (.int .u64 0), .raw (.int .u64 0), .raw (.int .u64 0), .i 0, .i 0, .list 0 [] .full]), (30, (Enc.cells (x1 : Tr)))]) (a := s1.1) (b := [x1]) g3 rfl rfl rfl rfl rfl ⟨rfl, by decide⟩)) (by dsimp only [zo, List.set]) rfl ?_
 refine z8 ?_
 refine zf (o := or2) ((s1.1 ++ [x1])) h ?_
 exact zce (bl 28 234881503) 1 (by kernel_rfl) (Nat.le_of_ble_eq_true rfl) (zbb (zw rfl rfl)) (by dsimp only [zab, zaa, List.foldl, List.set, bz, bzc, Nat.reduceMod, Nat.reduceDiv, Nat.reduceBEq, Nat.reduceAdd]; exact (zb rfl (zb rfl (zb (by decide) (zb (zbv (Enc.cloL _)) (zb rfl (zb rfl (zb (zaj (Enc.cloL _)) (by kernel_rfl))))))))) (by kernel_rfl)
 refine zam hc2 ?_
 refine w_r [.m _, .v (.clos 67 [.ptr 1 0])] ?_
 refine z1 rfl rfl ?_
 obtain ⟨x3, hx3, h⟩ := z6 h
 refine z3r 1 (args' := [.L (s1.1 : List Tr), .clos 67 [.iptr (Enc.cells (x1 : Tr))]]) (r := .b x3) (z7u fuel (fun y => zql y x1) s1.1 x3 67 (.iptr (Enc.cells (x1 : Tr))) (zxr (Enc.clo _)) (fun y z h => cap1_sh y x1 z h) hx3) rfl rfl (zft (zwd (α := Tr) _ _) (zft (congrArg (fun z => AV.clos 67 [AV.iptr z]) (zb1 _ _ (Enc.clo _))) zme)) rfl (by dsimp only [zo, List.set]) ?_
 refine w_r [.v (.b (!x3)), .v (.b (!x3))] ?_
 refine zbm h (fun hc3 h => ?_) (fun hc3 h => ?_)
 refine zd (k0 := 0) (id := 6) ?_
 refine w_r [.m _, .v (.A (x1 : Tr))] ?_
 refine w_o (a := .F ([x1] : List Tr)) (h := zbd (zfa (α := Tr) (l := [x1]) (cs := Enc.cells (x1 : Tr) ++ []) rfl (by rw [Enc.cons, Enc.nil]))) ?_
 obtain ⟨g4, h⟩ := zh h
 refine zr6 (a := (.O ((s1.1 ++ [x1]) : List Tr))) (σ'' := (zds [(30, [.u 0, .raw (.int .u64 0), .raw (.int .u64 0), .raw (.int .u64 0), .raw (.int .u64 0), .i 0, .i 0, .list 0 [] .full]), (30, (Enc.cells (x1 : Tr)))] 30 (List.length ((s1.1 ++ [x1]) : List Tr)) 8)) rfl rfl rfl (zgl rfl rfl rfl rfl (zef (α := Tr) (bs := [(30, [.u 0, .raw (.int .u64 0), .raw (.int .u64 0), .raw (.int .u64 0), .raw (.int .u64 0), .i 0, .i 0, .list 0 [] .full]), (30, (Enc.cells (x1 : Tr)))]) (a := s1.1) (b := [x1]) g4 rfl rfl rfl rfl rfl ⟨rfl, by decide⟩)) (by dsimp only [zo, List.set]) rfl ?_
 refine z8 ?_
 refine zf (o := or2) ((s1.1 ++ [x1])) h ?_
 exact zce (bl 28 234881503) 1 (by kernel_rfl) (Nat.le_of_ble_eq_true rfl) (zbb (zw rfl rfl)) (by dsimp only [zab, zaa, List.foldl, List.set, bz, bzc, Nat.reduceMod, Nat.reduceDiv, Nat.reduceBEq, Nat.reduceAdd]; exact (zb rfl (zb rfl (zb (by decide) (zb (zbv (Enc.cloL _)) (zb rfl (zb rfl (zb (zaj (Enc.cloL _)) (by kernel_rfl))))))))) (by kernel_rfl)
 refine zf (o := or2) (s1.1) h ?_
 exact zce (bl 28 234881503) 1 (by kernel_rfl) (Nat.le_of_ble_eq_true rfl) (zbb (zw rfl rfl)) (by dsimp only [zab, zaa, List.foldl, List.set, bz, bzc, Nat.reduceMod, Nat.reduceDiv, Nat.reduceBEq, Nat.reduceAdd]; exact (zb rfl (zb rfl (zb (by decide) (zb (zbv (Enc.cloL _)) (zb rfl (zb rfl (zb (zaj (Enc.cloL _)) (by kernel_rfl))))))))) (by kernel_rfl)
 intro j2 h
 refine zfz ?_
 refine zd (k0 := 0) (id := 7) ?_
 obtain ⟨g5, h⟩ := zh h
 refine zw7 g5 ?_
 refine z8 ?_
 refine zbe (p := p1) (j2, (s1.2 + 1)) h ?_
 exact zcw (bl 28 460)
 refine zac h (fun h => ?_)
 refine zf (o := or1) (s1.1) h ?_
 exact zcw (bl 28 12)
 intro j1 h
 refine zfz ?_
 refine zv [.m _] ?_
 obtain ⟨g6, h⟩ := zh h
 obtain ⟨x4, hx4, h⟩ := zj h
 refine zbc (args' := [.L (j1 : List Tr)]) (r := .A (x4 : Tr)) (by rw [← hx4]; exact (k_or j1 g6)) ?_
 refine za5 8 (zds [(30, (Enc.cells (x4 : Tr)))] 30 (List.length (j1 : List Tr)) 8) ?_
 exact zah (fun (r : Tr) => .A (r : Tr)) h (.A (x4 : Tr))
end Go.Ab
