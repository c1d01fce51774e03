/-
  rxnorm: times, isStar, merged, captured.
-/
import Derived.Test.YtmoncghgagmilaaZnV5
import Derived.Test.YtmoncghgagmilaaZdQq
import Derived.Test.YtmoncghgagmilaaZnW1
set_option linter.unusedSimpArgs false
set_option linter.unusedVariables false
set_option maxRecDepth 100000
set_option maxHeartbeats 4000000
namespace Go.Ab
open Go Go.RowKit Go.Fwd Go.Proofs
theorem zwp {α : Type} [Enc α] (g : FZ) (l : List α) : zdw g (zff l.length (Enc.cellsL l)) = .list l.length (Enc.cellsL l) .none := by
 unfold zff
 split
 ·rename_i h
  have := List.length_eq_zero_iff.1 h
  subst this
  rw [Enc.nil]; rfl
 ·rw [zdw, zcg _ _ (Enc.cloL _)]
def zgj (x : Tr) (b : Bd) : Option Tr :=
 (chk ((pre x).length < 2 ^ 40) (zal (zbd x b.lo b.mo) (fun x1 => (bif (((x1.k : Nat) : Int) != 5) then (some x1) else (chk ((pre x).length < 2 ^ 60) (zal (plainT x) (fun x2 => (bif (!x2) then (some x1) else (zds (τ := Unit) (bif (decide (b = (Bd.mk 0 1))) then (chk (((pre x).length < 2 ^ 60 ∧ crT x = true)) (zal (zaz x) (fun x3 => (bif x3 then (some (Sum.inr x)) else (bif (((x.k : Nat) : Int) == 5) then (zal (zbk b) (fun x4 => (bif x4 then (zal (Bd.mk x.mn x.mx) (fun x5 => (zal (zbk x5) (fun x6 => (bif x6 then (zds (τ := Bd) (zal (Bd.mk x.mn x.mx) (fun x7 => (bif (decide (b ≠ x7)) then (some (Sum.inl ((Bd.mk 0 (-1))))) else (bif (decide (b = (Bd.mk 0 (-1)))) then (some (Sum.inl ((Bd.mk 0 (-1))))) else (some (Sum.inl (b))))))) (fun j2 => (chk (0 ≤ (0 : Int) ∧ (0 : Int) < (List.length x.l : Int)) (zal (ix x.l (0 : Int)) (fun x8 => (chk ((pre x8).length < 2 ^ 40) (zal (zbd x8 j2.lo j2.mo) (fun x9 => (some (Sum.inr x9)))))))))) else (bif (decide (b = (Bd.mk 1 (-1)))) then (chk (((pre x).length < 2 ^ 60 ∧ crT x = true)) (zal (zaz x) (fun x10 => (bif x10 then (chk ((pre x).length < 2 ^ 40) (zal (zbd x (0 : Int) (-1)) (fun x11 => (some (Sum.inr x11))))) else (some (Sum.inl ())))))) else (some (Sum.inl ())))))))) else (bif (decide (b = (Bd.mk 1 (-1)))) then (chk (((pre x).length < 2 ^ 60 ∧ crT x = true)) (zal (zaz x) (fun x12 => (bif x12 then (chk ((pre x).length < 2 ^ 40) (zal (zbd x (0 : Int) (-1)) (fun x13 => (some (Sum.inr x13))))) else (some (Sum.inl ())))))) else (some (Sum.inl ())))))) else (bif (decide (b = (Bd.mk 1 (-1)))) then (chk (((pre x).length < 2 ^ 60 ∧ crT x = true)) (zal (zaz x) (fun x14 => (bif x14 then (chk ((pre x).length < 2 ^ 40) (zal (zbd x (0 : Int) (-1)) (fun x15 => (some (Sum.inr x15))))) else (some (Sum.inl ())))))) else (some (Sum.inl ())))))))) else (bif (((x.k : Nat) : Int) == 5) then (zal (zbk b) (fun x16 => (bif x16 then (zal (Bd.mk x.mn x.mx) (fun x17 => (zal (zbk x17) (fun x18 => (bif x18 then (zds (τ := Bd) (zal (Bd.mk x.mn x.mx) (fun x19 => (bif (decide (b ≠ x19)) then (some (Sum.inl ((Bd.mk 0 (-1))))) else (bif (decide (b = (Bd.mk 0 (-1)))) then (some (Sum.inl ((Bd.mk 0 (-1))))) else (some (Sum.inl (b))))))) (fun j3 => (chk (0 ≤ (0 : Int) ∧ (0 : Int) < (List.length x.l : Int)) (zal (ix x.l (0 : Int)) (fun x20 => (chk ((pre x20).length < 2 ^ 40) (zal (zbd x20 j3.lo j3.mo) (fun x21 => (some (Sum.inr x21)))))))))) else (bif (decide (b = (Bd.mk 1 (-1)))) then (chk (((pre x).length < 2 ^ 60 ∧ crT x = true)) (zal (zaz x) (fun x22 => (bif x22 then (chk ((pre x).length < 2 ^ 40) (zal (zbd x (0 : Int) (-1)) (fun x23 => (some (Sum.inr x23))))) else (some (Sum.inl ())))))) else (some (Sum.inl ())))))))) else (bif (decide (b = (Bd.mk 1 (-1)))) then (chk (((pre x).length < 2 ^ 60 ∧ crT x = true)) (zal (zaz x) (fun x24 => (bif x24 then (chk ((pre x).length < 2 ^ 40) (zal (zbd x (0 : Int) (-1)) (fun x25 => (some (Sum.inr x25))))) else (some (Sum.inl ())))))) else (some (Sum.inl ())))))) else (bif (decide (b = (Bd.mk 1 (-1)))) then (chk (((pre x).length < 2 ^ 60 ∧ crT x = true)) (zal (zaz x) (fun x26 => (bif x26 then (chk ((pre x).length < 2 ^ 40) (zal (zbd x (0 : Int) (-1)) (fun x27 => (some (Sum.inr x27))))) else (some (Sum.inl ())))))) else (some (Sum.inl ()))))) (fun j1 => (some x1)))))))))))
theorem ent42 : Ent Try.prog 42 := enters_of Try.func42 (by kernel_rfl) rfl
theorem zi9 (x : Tr) (b : Bd) (r : Tr) (h : zgj x b = some r) : Pure (ITP Try.prog) Try.prog 42 [.A (x : Tr), .A (b : Bd)] (.A (r : Tr)) := by
 unfold zgj at h
 refine zax 71 mix Try.func42 ent42 ?_
 refine ze (zd ?_)
 refine zbj (a := .ptr 0 0) (σ'' := (.B [(30, (Enc.cells (x : Tr)))])) ?_
 refine zbj (a := .ptr 1 0) (σ'' := (.B [(30, (Enc.cells (x : Tr))), (62, (Enc.cells (b : Bd)))])) ?_
 refine zbj (a := .ptr 2 0) (σ'' := (.B [(30, (Enc.cells (x : Tr))), (62, (Enc.cells (b : Bd))), (30, [.u 0, .raw (.int .u64 0), .raw (.int .u64 0), .raw (.int .u64 0), .raw (.int .u64 0), .i 0, .i 0, .list 0 [] .full])])) ?_
 refine zr [.v (.A (x : Tr)), .v (.ptr 1 0), .v (.i b.lo), .v (.ptr 1 1), .v (.i b.mo)] ?_
 obtain ⟨g1, h⟩ := zh h
 obtain ⟨x1, hx1, h⟩ := zj h
 refine zbq (args' := [.A (x : Tr), .i b.lo, .i b.mo]) (r := .A (x1 : Tr)) (by rw [← hx1]; exact (zdu x b.lo b.mo g1)) ?_
 refine zbj (a := .ptr 3 0) (σ'' := (.B [(30, (Enc.cells (x : Tr))), (62, (Enc.cells (b : Bd))), (30, [.u 0, .raw (.int .u64 0), .raw (.int .u64 0), .raw (.int .u64 0), .raw (.int .u64 0), .i 0, .i 0, .list 0 [] .full]), (30, [.u 0, .raw (.int .u64 0), .raw (.int .u64 0), .raw (.int .u64 0), .raw (.int .u64 0), .i 0, .i 0, .list 0 [] .full])])) ?_
 refine zbm 8 (.B [(30, (Enc.cells (x : Tr))), (62, (Enc.cells (b : Bd))), (30, [.u 0, .raw (.int .u64 0), .raw (.int .u64 0), .raw (.int .u64 0), .raw (.int .u64 0), .i 0, .i 0, .list 0 [] .full]), (30, (Enc.cells (x1 : Tr)))]) ?_
 refine ze ?_
 refine zr [.v (.ptr 3 0), .v (.u ((x1.k : Nat) : Int)), .v (.b (((x1.k : Nat) : Int) != 5))] ?_
 refine zu h (fun hc1 h => ?_) (fun hc1 h => ?_)
 refine zaw hc1 ?_
 refine w_r [.p, .p, .p, .v (.b true)] ?_
 refine zba rfl ?_
 refine zr [.v (.A (x1 : Tr))] ?_
 refine zbm 8 (.B [(30, (Enc.cells (x : Tr))), (62, (Enc.cells (b : Bd))), (30, (Enc.cells (x1 : Tr))), (30, (Enc.cells (x1 : Tr)))]) ?_
 exact zap (fun (r : Tr) => .A (r : Tr)) h (.A (x1 : Tr))
 refine zaw hc1 ?_
 refine zab rfl rfl ?_
 refine w_o (a := .A (x : Tr)) ?_
 refine zab rfl rfl ?_
 obtain ⟨g2, h⟩ := zh h
 obtain ⟨x2, hx2, h⟩ := zj h
 refine zbq (args' := [.A (x : Tr)]) (r := .b x2) (by rw [← hx2]; exact (zl2 x g2)) ?_
 refine w_r [.v (.b (!x2)), .v (.b (!x2))] ?_
 refine zbv h (fun hc2 h => ?_) (fun hc2 h => ?_)
 refine zr [.v (.A (x1 : Tr))] ?_
 refine zbm 8 (.B [(30, (Enc.cells (x : Tr))), (62, (Enc.cells (b : Bd))), (30, (Enc.cells (x1 : Tr))), (30, (Enc.cells (x1 : Tr)))]) ?_
 exact zap (fun (r : Tr) => .A (r : Tr)) h (.A (x1 : Tr))
 refine za3 h (bz 0 73 9444732965739290427343) (fun j1 => []) (fun j1 => (.B [(30, (Enc.cells (x : Tr))), (62, (Enc.cells (b : Bd))), (30, [.u 0, .raw (.int .u64 0), .raw (.int .u64 0), .raw (.int .u64 0), .raw (.int .u64 0), .i 0, .i 0, .list 0 [] .full]), (30, (Enc.cells (x1 : Tr)))])) ?_ ?_
 intro or1 h hr1
 refine zt ?_
 refine ze ?_
 refine zck (k0 := 0) (id := 4) 2 (by kernel_rfl) (by kernel_rfl) ?_
 refine h_o (a := .A (b : Bd)) ?_
 refine zfd (zyx _ rfl) ?_
 refine zb7 ?_
 refine zj5 (.b (decide (b = (Bd.mk 0 1)))) rfl rfl rfl (ze9 b (Bd.mk 0 1) rfl rfl rfl) (by dsimp only [zp, List.set]) ?_
 refine zu h (fun hc3 h => ?_) (fun hc3 h => ?_)
 refine zaw hc3 ?_
 refine zab rfl rfl ?_
 refine w_o (a := .A (x : Tr)) ?_
 refine zab rfl rfl ?_
 obtain ⟨g3, h⟩ := zh h
 obtain ⟨x3, hx3, h⟩ := zj h
 refine zbq (args' := [.A (x : Tr)]) (r := .b x3) (by rw [← hx3]; exact (zm5 x g3)) ?_
 refine w_r [.v (.b x3), .m _] ?_
 refine zbv h (fun hc4 h => ?_) (fun hc4 h => ?_)
 refine zr [.v (.A (x : Tr))] ?_
 refine zbm 8 (.B [(30, (Enc.cells (x : Tr))), (62, (Enc.cells (b : Bd))), (30, (Enc.cells (x : Tr))), (30, (Enc.cells (x1 : Tr)))]) ?_
 replace h := zo h hr1
 exact zap (fun (r : Tr) => .A (r : Tr)) h (.A (x : Tr))
 refine zr [.v (.ptr 0 0), .v (.u ((x.k : Nat) : Int)), .v (.b (((x.k : Nat) : Int) == 5))] ?_
 refine zu h (fun hc5 h => ?_) (fun hc5 h => ?_)
 refine zaw hc5 ?_
 refine zab rfl rfl ?_
 refine w_o (a := .A (b : Bd)) ?_
 refine zab rfl rfl ?_
 obtain ⟨x4, hx4, h⟩ := zj h
 refine zbq (args' := [.A (b : Bd)]) (r := .b x4) (by rw [← hx4]; exact (zn3 b)) ?_
 refine w_o (a := .b x4) ?_
 refine zu h (fun hc6 h => ?_) (fun hc6 h => ?_)
 refine zaw hc6 ?_
 refine zab rfl rfl ?_
 refine w_o (a := .A (x : Tr)) ?_
 refine zab rfl rfl ?_
 obtain ⟨x5, hx5, h⟩ := zj h
 refine zbq (args' := [.A (x : Tr)]) (r := .A (x5 : Bd)) (by rw [← hx5]; exact (zqc x _ rfl)) ?_
 refine zab rfl rfl ?_
 obtain ⟨x6, hx6, h⟩ := zj h
 refine zbq (args' := [.A (x5 : Bd)]) (r := .b x6) (by rw [← hx6]; exact (zn3 x5)) ?_
 refine w_r [.v (.b x6), .m _] ?_
 refine zbv h (fun hc7 h => ?_) (fun hc7 h => ?_)
 refine za3 h (bz 0 73 9444732965739290427363) (fun j2 => []) (fun j2 => (.B [(30, (Enc.cells (x : Tr))), (62, (Enc.cells (j2 : Bd))), (30, [.u 0, .raw (.int .u64 0), .raw (.int .u64 0), .raw (.int .u64 0), .raw (.int .u64 0), .i 0, .i 0, .list 0 [] .full]), (30, (Enc.cells (x1 : Tr)))])) ?_ ?_
 intro or2 h hr2
 refine ze ?_
 refine zck (k0 := 0) (id := 7) 7 (by kernel_rfl) (by kernel_rfl) ?_
 refine h_o (a := .A (b : Bd)) ?_
 refine h_o (a := .A (x : Tr)) ?_
 obtain ⟨x7, hx7, h⟩ := zj h
 refine zfd (args' := [.A (x : Tr)]) (r := .A (x7 : Bd)) (by rw [← hx7]; exact (zqc x _ rfl)) ?_
 refine ztt (.b (decide (b ≠ x7))) rfl rfl rfl (zx4 b x7 rfl rfl rfl) (by dsimp only [zp, List.set]) ?_
 refine zu h (fun hc8 h => ?_) (fun hc8 h => ?_)
 refine h_o (a := .b true) (h := zak rfl hc8) ?_
 refine zaj ?_
 refine zaj ?_
 refine zb7 ?_
 refine w_r [.p, .v (.b true)] ?_
 refine zba rfl ?_
 refine zd (k0 := 0) (id := 8) ?_
 refine zbq (zif _ rfl) ?_
 refine zbm 2 (.B [(30, (Enc.cells (x : Tr))), (62, (Enc.cells ((Bd.mk 0 (-1)) : Bd))), (30, [.u 0, .raw (.int .u64 0), .raw (.int .u64 0), .raw (.int .u64 0), .raw (.int .u64 0), .i 0, .i 0, .list 0 [] .full]), (30, (Enc.cells (x1 : Tr)))]) ?_
 refine zg (o := or2) ((Bd.mk 0 (-1))) h ?_
 exact zc1 (bl 73 28)
 refine h_o (a := .b false) (h := zak rfl hc8) ?_
 refine zah rfl rfl ?_
 refine h_o (a := .A (b : Bd)) ?_
 refine zah rfl rfl ?_
 refine zfd (zif _ rfl) ?_
 refine zb7 ?_
 refine zab rfl rfl ?_
 refine zj5 (.b (decide (b = (Bd.mk 0 (-1))))) rfl rfl rfl (ze9 b (Bd.mk 0 (-1)) rfl rfl rfl) (by dsimp only [zp, List.set]) ?_
 refine w_o (a := .b (decide (b = (Bd.mk 0 (-1))))) ?_
 refine zbv h (fun hc9 h => ?_) (fun hc9 h => ?_)
 refine zd (k0 := 0) (id := 8) ?_
 refine zbq (zif _ rfl) ?_
 refine zbm 2 (.B [(30, (Enc.cells (x : Tr))), (62, (Enc.cells ((Bd.mk 0 (-1)) : Bd))), (30, [.u 0, .raw (.int .u64 0), .raw (.int .u64 0), .raw (.int .u64 0), .raw (.int .u64 0), .i 0, .i 0, .list 0 [] .full]), (30, (Enc.cells (x1 : Tr)))]) ?_
 refine zg (o := or2) ((Bd.mk 0 (-1))) h ?_
 exact zc1 (bl 73 28)
 refine zg (o := or2) (b) h ?_
 exact zc1 (bl 73 28)
 intro j2 h
 refine zf9 ?_
 refine ze ?_
 refine zck (k0 := 0) (id := 9) 8 (by kernel_rfl) (by kernel_rfl) ?_
 refine h_o (a := .ptr 0 7) ?_
 refine h_o (a := .L (x.l : List Tr)) ?_
 obtain ⟨g4, h⟩ := zh h
 obtain ⟨x8, hx8, h⟩ := zj h
 refine h_ix hx8 g4 ?_
 refine h_o (a := .A (x8 : Tr)) ?_
 refine h_o (a := .ptr 1 0) ?_
 refine h_o (a := .i j2.lo) ?_
 refine h_o (a := .ptr 1 1) ?_
 refine h_o (a := .i j2.mo) ?_
 refine zb7 ?_
 obtain ⟨g5, h⟩ := zh h
 obtain ⟨x9, hx9, h⟩ := zj h
 refine zbq (args' := [.A (x8 : Tr), .i j2.lo, .i j2.mo]) (r := .A (x9 : Tr)) (by rw [← hx9]; exact (zdu x8 j2.lo j2.mo g5)) ?_
 refine zbm 8 (.B [(30, (Enc.cells (x : Tr))), (62, (Enc.cells (j2 : Bd))), (30, (Enc.cells (x9 : Tr))), (30, (Enc.cells (x1 : Tr)))]) ?_
 replace h := zo h hr1
 exact zap (fun (r : Tr) => .A (r : Tr)) h (.A (x9 : Tr))
 refine ze ?_
 refine zck (k0 := 0) (id := 10) 2 (by kernel_rfl) (by kernel_rfl) ?_
 refine h_o (a := .A (b : Bd)) ?_
 refine zfd (zie _ rfl) ?_
 refine zb7 ?_
 refine zj5 (.b (decide (b = (Bd.mk 1 (-1))))) rfl rfl rfl (ze9 b (Bd.mk 1 (-1)) rfl rfl rfl) (by dsimp only [zp, List.set]) ?_
 refine zu h (fun hc10 h => ?_) (fun hc10 h => ?_)
 refine zaw hc10 ?_
 refine zab rfl rfl ?_
 refine w_o (a := .A (x : Tr)) ?_
 refine zab rfl rfl ?_
 obtain ⟨g6, h⟩ := zh h
 obtain ⟨x10, hx10, h⟩ := zj h
 refine zbq (args' := [.A (x : Tr)]) (r := .b x10) (by rw [← hx10]; exact (zm5 x g6)) ?_
 refine w_r [.v (.b x10), .m _] ?_
 refine zbv h (fun hc11 h => ?_) (fun hc11 h => ?_)
 refine zr [.v (.A (x : Tr))] ?_
 obtain ⟨g7, h⟩ := zh h
 obtain ⟨x11, hx11, h⟩ := zj h
 refine zbq (args' := [.A (x : Tr), .i 0, .i (-1)]) (r := .A (x11 : Tr)) (by rw [← hx11]; exact (zdu x (0 : Int) (-1) g7)) ?_
 refine zbm 8 (.B [(30, (Enc.cells (x : Tr))), (62, (Enc.cells (b : Bd))), (30, (Enc.cells (x11 : Tr))), (30, (Enc.cells (x1 : Tr)))]) ?_
 replace h := zo h hr1
 exact zap (fun (r : Tr) => .A (r : Tr)) h (.A (x11 : Tr))
 refine zg (o := or1) () h ?_
 exact zc1 (bl 73 48)
 refine zaw hc10 ?_
 refine w_r [.p, .p, .v (.b false), .m _] ?_
 refine zay rfl ?_
 refine zg (o := or1) () h ?_
 exact zc1 (bl 73 48)
 refine zaw hc6 ?_
 refine w_r [.p, .p, .p, .v (.b false), .m _] ?_
 refine zay rfl ?_
 refine ze ?_
 refine zck (k0 := 0) (id := 10) 2 (by kernel_rfl) (by kernel_rfl) ?_
 refine h_o (a := .A (b : Bd)) ?_
 refine zfd (zie _ rfl) ?_
 refine zb7 ?_
 refine zj5 (.b (decide (b = (Bd.mk 1 (-1))))) rfl rfl rfl (ze9 b (Bd.mk 1 (-1)) rfl rfl rfl) (by dsimp only [zp, List.set]) ?_
 refine zu h (fun hc12 h => ?_) (fun hc12 h => ?_)
 refine zaw hc12 ?_
 refine zab rfl rfl ?_
 refine w_o (a := .A (x : Tr)) ?_
 refine zab rfl rfl ?_
 obtain ⟨g8, h⟩ := zh h
 obtain ⟨x12, hx12, h⟩ := zj h
 refine zbq (args' := [.A (x : Tr)]) (r := .b x12) (by rw [← hx12]; exact (zm5 x g8)) ?_
 refine w_r [.v (.b x12), .m _] ?_
 refine zbv h (fun hc13 h => ?_) (fun hc13 h => ?_)
 refine zr [.v (.A (x : Tr))] ?_
 obtain ⟨g9, h⟩ := zh h
 obtain ⟨x13, hx13, h⟩ := zj h
 refine zbq (args' := [.A (x : Tr), .i 0, .i (-1)]) (r := .A (x13 : Tr)) (by rw [← hx13]; exact (zdu x (0 : Int) (-1) g9)) ?_
 refine zbm 8 (.B [(30, (Enc.cells (x : Tr))), (62, (Enc.cells (b : Bd))), (30, (Enc.cells (x13 : Tr))), (30, (Enc.cells (x1 : Tr)))]) ?_
 replace h := zo h hr1
 exact zap (fun (r : Tr) => .A (r : Tr)) h (.A (x13 : Tr))
 refine zg (o := or1) () h ?_
 exact zc1 (bl 73 48)
 refine zaw hc12 ?_
 refine w_r [.p, .p, .v (.b false), .m _] ?_
 refine zay rfl ?_
 refine zg (o := or1) () h ?_
 exact zc1 (bl 73 48)
 refine zaw hc5 ?_
 refine w_r [.p, .p, .v (.b false), .m _, .p] ?_
 refine w_r [.p, .p, .v (.b false), .m _] ?_
 refine zay rfl ?_
 refine ze ?_
 refine zck (k0 := 0) (id := 10) 2 (by kernel_rfl) (by kernel_rfl) ?_
 refine h_o (a := .A (b : Bd)) ?_
 refine zfd (zie _ rfl) ?_
 refine zb7 ?_
 refine zj5 (.b (decide (b = (Bd.mk 1 (-1))))) rfl rfl rfl (ze9 b (Bd.mk 1 (-1)) rfl rfl rfl) (by dsimp only [zp, List.set]) ?_
 refine zu h (fun hc14 h => ?_) (fun hc14 h => ?_)
 refine zaw hc14 ?_
 refine zab rfl rfl ?_
 refine w_o (a := .A (x : Tr)) ?_
 refine zab rfl rfl ?_
 obtain ⟨g10, h⟩ := zh h
 obtain ⟨x14, hx14, h⟩ := zj h
 refine zbq (args' := [.A (x : Tr)]) (r := .b x14) (by rw [← hx14]; exact (zm5 x g10)) ?_
 refine w_r [.v (.b x14), .m _] ?_
 refine zbv h (fun hc15 h => ?_) (fun hc15 h => ?_)
 refine zr [.v (.A (x : Tr))] ?_
 obtain ⟨g11, h⟩ := zh h
 obtain ⟨x15, hx15, h⟩ := zj h
 refine zbq (args' := [.A (x : Tr), .i 0, .i (-1)]) (r := .A (x15 : Tr)) (by rw [← hx15]; exact (zdu x (0 : Int) (-1) g11)) ?_
 refine zbm 8 (.B [(30, (Enc.cells (x : Tr))), (62, (Enc.cells (b : Bd))), (30, (Enc.cells (x15 : Tr))), (30, (Enc.cells (x1 : Tr)))]) ?_
 replace h := zo h hr1
 exact zap (fun (r : Tr) => .A (r : Tr)) h (.A (x15 : Tr))
 refine zg (o := or1) () h ?_
 exact zc1 (bl 73 48)
 refine zaw hc14 ?_
 refine w_r [.p, .p, .v (.b false), .m _] ?_
 refine zay rfl ?_
 refine zg (o := or1) () h ?_
 exact zc1 (bl 73 48)
 refine zaw hc3 ?_
 refine w_r [.p, .p, .v (.b false), .m _] ?_
 refine zay rfl ?_
 refine zr [.v (.ptr 0 0), .v (.u ((x.k : Nat) : Int)), .v (.b (((x.k : Nat) : Int) == 5))] ?_
 refine zu h (fun hc16 h => ?_) (fun hc16 h => ?_)
 refine zaw hc16 ?_
 refine zab rfl rfl ?_
 refine w_o (a := .A (b : Bd)) ?_
 refine zab rfl rfl ?_
 obtain ⟨x16, hx16, h⟩ := zj h
 refine zbq (args' := [.A (b : Bd)]) (r := .b x16) (by rw [← hx16]; exact (zn3 b)) ?_
 refine w_o (a := .b x16) ?_
 refine zu h (fun hc17 h => ?_) (fun hc17 h => ?_)
 refine zaw hc17 ?_
 refine zab rfl rfl ?_
 refine w_o (a := .A (x : Tr)) ?_
 refine zab rfl rfl ?_
 obtain ⟨x17, hx17, h⟩ := zj h
 refine zbq (args' := [.A (x : Tr)]) (r := .A (x17 : Bd)) (by rw [← hx17]; exact (zqc x _ rfl)) ?_
 refine zab rfl rfl ?_
 obtain ⟨x18, hx18, h⟩ := zj h
 refine zbq (args' := [.A (x17 : Bd)]) (r := .b x18) (by rw [← hx18]; exact (zn3 x17)) ?_
 refine w_r [.v (.b x18), .m _] ?_
 refine zbv h (fun hc18 h => ?_) (fun hc18 h => ?_)
 refine za3 h (bz 0 73 9444732965739290427363) (fun j3 => []) (fun j3 => (.B [(30, (Enc.cells (x : Tr))), (62, (Enc.cells (j3 : Bd))), (30, [.u 0, .raw (.int .u64 0), .raw (.int .u64 0), .raw (.int .u64 0), .raw (.int .u64 0), .i 0, .i 0, .list 0 [] .full]), (30, (Enc.cells (x1 : Tr)))])) ?_ ?_
 intro or3 h hr3
 refine ze ?_
 refine zck (k0 := 0) (id := 7) 7 (by kernel_rfl) (by kernel_rfl) ?_
 refine h_o (a := .A (b : Bd)) ?_
 refine h_o (a := .A (x : Tr)) ?_
 obtain ⟨x19, hx19, h⟩ := zj h
 refine zfd (args' := [.A (x : Tr)]) (r := .A (x19 : Bd)) (by rw [← hx19]; exact (zqc x _ rfl)) ?_
 refine ztt (.b (decide (b ≠ x19))) rfl rfl rfl (zx4 b x19 rfl rfl rfl) (by dsimp only [zp, List.set]) ?_
 refine zu h (fun hc19 h => ?_) (fun hc19 h => ?_)
 refine h_o (a := .b true) (h := zak rfl hc19) ?_
 refine zaj ?_
 refine zaj ?_
 refine zb7 ?_
 refine w_r [.p, .v (.b true)] ?_
 refine zba rfl ?_
 refine zd (k0 := 0) (id := 8) ?_
 refine zbq (zif _ rfl) ?_
 refine zbm 2 (.B [(30, (Enc.cells (x : Tr))), (62, (Enc.cells ((Bd.mk 0 (-1)) : Bd))), (30, [.u 0, .raw (.int .u64 0), .raw (.int .u64 0), .raw (.int .u64 0), .raw (.int .u64 0), .i 0, .i 0, .list 0 [] .full]), (30, (Enc.cells (x1 : Tr)))]) ?_
 refine zg (o := or3) ((Bd.mk 0 (-1))) h ?_
 exact zc1 (bl 73 28)
 refine h_o (a := .b false) (h := zak rfl hc19) ?_
 refine zah rfl rfl ?_
 refine h_o (a := .A (b : Bd)) ?_
 refine zah rfl rfl ?_
 refine zfd (zif _ rfl) ?_
 refine zb7 ?_
 refine zab rfl rfl ?_
 refine zj5 (.b (decide (b = (Bd.mk 0 (-1))))) rfl rfl rfl (ze9 b (Bd.mk 0 (-1)) rfl rfl rfl) (by dsimp only [zp, List.set]) ?_
 refine w_o (a := .b (decide (b = (Bd.mk 0 (-1))))) ?_
 refine zbv h (fun hc20 h => ?_) (fun hc20 h => ?_)
 refine zd (k0 := 0) (id := 8) ?_
 refine zbq (zif _ rfl) ?_
 refine zbm 2 (.B [(30, (Enc.cells (x : Tr))), (62, (Enc.cells ((Bd.mk 0 (-1)) : Bd))), (30, [.u 0, .raw (.int .u64 0), .raw (.int .u64 0), .raw (.int .u64 0), .raw (.int .u64 0), .i 0, .i 0, .list 0 [] .full]), (30, (Enc.cells (x1 : Tr)))]) ?_
 refine zg (o := or3) ((Bd.mk 0 (-1))) h ?_
 exact zc1 (bl 73 28)
 refine zg (o := or3) (b) h ?_
 exact zc1 (bl 73 28)
 intro j3 h
 refine zf9 ?_
 refine ze ?_
 refine zck (k0 := 0) (id := 9) 8 (by kernel_rfl) (by kernel_rfl) ?_
 refine h_o (a := .ptr 0 7) ?_
 refine h_o (a := .L (x.l : List Tr)) ?_
 obtain ⟨g12, h⟩ := zh h
 obtain ⟨x20, hx20, h⟩ := zj h
 refine h_ix hx20 g12 ?_
 refine h_o (a := .A (x20 : Tr)) ?_
 refine h_o (a := .ptr 1 0) ?_
 refine h_o (a := .i j3.lo) ?_
 refine h_o (a := .ptr 1 1) ?_
 refine h_o (a := .i j3.mo) ?_
 refine zb7 ?_
 obtain ⟨g13, h⟩ := zh h
 obtain ⟨x21, hx21, h⟩ := zj h
 refine zbq (args' := [.A (x20 : Tr), .i j3.lo, .i j3.mo]) (r := .A (x21 : Tr)) (by rw [← hx21]; exact (zdu x20 j3.lo j3.mo g13)) ?_
 refine zbm 8 (.B [(30, (Enc.cells (x : Tr))), (62, (Enc.cells (j3 : Bd))), (30, (Enc.cells (x21 : Tr))), (30, (Enc.cells (x1 : Tr)))]) ?_
 replace h := zo h hr1
 exact zap (fun (r : Tr) => .A (r : Tr)) h (.A (x21 : Tr))
 refine ze ?_
 refine zck (k0 := 0) (id := 10) 2 (by kernel_rfl) (by kernel_rfl) ?_
 refine h_o (a := .A (b : Bd)) ?_
 refine zfd (zie _ rfl) ?_
 refine zb7 ?_
 refine zj5 (.b (decide (b = (Bd.mk 1 (-1))))) rfl rfl rfl (ze9 b (Bd.mk 1 (-1)) rfl rfl rfl) (by dsimp only [zp, List.set]) ?_
 refine zu h (fun hc21 h => ?_) (fun hc21 h => ?_)
 refine zaw hc21 ?_
 refine zab rfl rfl ?_
 refine w_o (a := .A (x : Tr)) ?_
 refine zab rfl rfl ?_
 obtain ⟨g14, h⟩ := zh h
 obtain ⟨x22, hx22, h⟩ := zj h
 refine zbq (args' := [.A (x : Tr)]) (r := .b x22) (by rw [← hx22]; exact (zm5 x g14)) ?_
 refine w_r [.v (.b x22), .m _] ?_
 refine zbv h (fun hc22 h => ?_) (fun hc22 h => ?_)
 refine zr [.v (.A (x : Tr))] ?_
 obtain ⟨g15, h⟩ := zh h
 obtain ⟨x23, hx23, h⟩ := zj h
 refine zbq (args' := [.A (x : Tr), .i 0, .i (-1)]) (r := .A (x23 : Tr)) (by rw [← hx23]; exact (zdu x (0 : Int) (-1) g15)) ?_
 refine zbm 8 (.B [(30, (Enc.cells (x : Tr))), (62, (Enc.cells (b : Bd))), (30, (Enc.cells (x23 : Tr))), (30, (Enc.cells (x1 : Tr)))]) ?_
 replace h := zo h hr1
 exact zap (fun (r : Tr) => .A (r : Tr)) h (.A (x23 : Tr))
 refine zg (o := or1) () h ?_
 exact zc1 (bl 73 48)
 refine zaw hc21 ?_
 refine w_r [.p, .p, .v (.b false), .m _] ?_
 refine zay rfl ?_
 refine zg (o := or1) () h ?_
 exact zc1 (bl 73 48)
 refine zaw hc17 ?_
 refine w_r [.p, .p, .p, .v (.b false), .m _] ?_
 refine zay rfl ?_
 refine ze ?_
 refine zck (k0 := 0) (id := 10) 2 (by kernel_rfl) (by kernel_rfl) ?_
 refine h_o (a := .A (b : Bd)) ?_
 refine zfd (zie _ rfl) ?_
 refine zb7 ?_
 refine zj5 (.b (decide (b = (Bd.mk 1 (-1))))) rfl rfl rfl (ze9 b (Bd.mk 1 (-1)) rfl rfl rfl) (by dsimp only [zp, List.set]) ?_
 refine zu h (fun hc23 h => ?_) (fun hc23 h => ?_)
 refine zaw hc23 ?_
 refine zab rfl rfl ?_
 refine w_o (a := .A (x : Tr)) ?_
 refine zab rfl rfl ?_
 obtain ⟨g16, h⟩ := zh h
 obtain ⟨x24, hx24, h⟩ := zj h
 refine zbq (args' := [.A (x : Tr)]) (r := .b x24) (by rw [← hx24]; exact (zm5 x g16)) ?_
 refine w_r [.v (.b x24), .m _] ?_
 refine zbv h (fun hc24 h => ?_) (fun hc24 h => ?_)
 refine zr [.v (.A (x : Tr))] ?_
 obtain ⟨g17, h⟩ := zh h
 obtain ⟨x25, hx25, h⟩ := zj h
 refine zbq (args' := [.A (x : Tr), .i 0, .i (-1)]) (r := .A (x25 : Tr)) (by rw [← hx25]; exact (zdu x (0 : Int) (-1) g17)) ?_
 refine zbm 8 (.B [(30, (Enc.cells (x : Tr))), (62, (Enc.cells (b : Bd))), (30, (Enc.cells (x25 : Tr))), (30, (Enc.cells (x1 : Tr)))]) ?_
 replace h := zo h hr1
 exact zap (fun (r : Tr) => .A (r : Tr)) h (.A (x25 : Tr))
 refine zg (o := or1) () h ?_
 exact zc1 (bl 73 48)
 refine zaw hc23 ?_
 refine w_r [.p, .p, .v (.b false), .m _] ?_
 refine zay rfl ?_
 refine zg (o := or1) () h ?_
 exact zc1 (bl 73 48)
 refine zaw hc16 ?_
 refine w_r [.p, .p, .v (.b false), .m _, .p] ?_
 refine w_r [.p, .p, .v (.b false), .m _] ?_
 refine zay rfl ?_
 refine ze ?_
 refine zck (k0 := 0) (id := 10) 2 (by kernel_rfl) (by kernel_rfl) ?_
 refine h_o (a := .A (b : Bd)) ?_
 refine zfd (zie _ rfl) ?_
 refine zb7 ?_
 refine zj5 (.b (decide (b = (Bd.mk 1 (-1))))) rfl rfl rfl (ze9 b (Bd.mk 1 (-1)) rfl rfl rfl) (by dsimp only [zp, List.set]) ?_
 refine zu h (fun hc25 h => ?_) (fun hc25 h => ?_)
 refine zaw hc25 ?_
 refine zab rfl rfl ?_
 refine w_o (a := .A (x : Tr)) ?_
 refine zab rfl rfl ?_
 obtain ⟨g18, h⟩ := zh h
 obtain ⟨x26, hx26, h⟩ := zj h
 refine zbq (args' := [.A (x : Tr)]) (r := .b x26) (by rw [← hx26]; exact (zm5 x g18)) ?_
 refine w_r [.v (.b x26), .m _] ?_
 refine zbv h (fun hc26 h => ?_) (fun hc26 h => ?_)
 refine zr [.v (.A (x : Tr))] ?_
 obtain ⟨g19, h⟩ := zh h
 obtain ⟨x27, hx27, h⟩ := zj h
 refine zbq (args' := [.A (x : Tr), .i 0, .i (-1)]) (r := .A (x27 : Tr)) (by rw [← hx27]; exact (zdu x (0 : Int) (-1) g19)) ?_
 refine zbm 8 (.B [(30, (Enc.cells (x : Tr))), (62, (Enc.cells (b : Bd))), (30, (Enc.cells (x27 : Tr))), (30, (Enc.cells (x1 : Tr)))]) ?_
 replace h := zo h hr1
 exact zap (fun (r : Tr) => .A (r : Tr)) h (.A (x27 : Tr))
 refine zg (o := or1) () h ?_
 exact zc1 (bl 73 48)
 refine zaw hc25 ?_
 refine w_r [.p, .p, .v (.b false), .m _] ?_
 refine zay rfl ?_
 refine zg (o := or1) () h ?_
 exact zc1 (bl 73 48)
 intro j1 h
 refine zf9 ?_
 refine zr [.v (.A (x1 : Tr))] ?_
 refine zbm 8 (.B [(30, (Enc.cells (x : Tr))), (62, (Enc.cells (b : Bd))), (30, (Enc.cells (x1 : Tr))), (30, (Enc.cells (x1 : Tr)))]) ?_
 exact zap (fun (r : Tr) => .A (r : Tr)) h (.A (x1 : Tr))
def zjg (x : Tr) (y : Tr) : Option Bool :=
 (bif (((x.k : Nat) : Int) == 5) then (bif (decide ((Bd.mk x.mn x.mx) = (Bd.mk 0 (-1)))) then (chk (0 ≤ (0 : Int) ∧ (0 : Int) < (List.length x.l : Int)) (zal (ix x.l (0 : Int)) (fun x1 => (chk ((pre x1).length < 2 ^ 61 ∧ (pre y).length < 2 ^ 61) (zal (zd0 x1 y) (fun x2 => (some x2))))))) else (some false)) else (some false))
theorem ent65 : Ent Try.prog 65 := enters_of Try.func65 (by kernel_rfl) rfl
theorem zvn (x : Tr) (y : Tr) (r : Bool) (h : zjg x y = some r) : Pure (ITP Try.prog) Try.prog 65 [.A (x : Tr), .A (y : Tr)] (.raw (.bool r)) := by
 unfold zjg at h
 refine zax 23 mix Try.func65 ent65 ?_
 refine ze (zd ?_)
 refine zbj (a := .ptr 0 0) (σ'' := (.B [(30, (Enc.cells (x : Tr)))])) ?_
 refine zbj (a := .ptr 1 0) (σ'' := (.B [(30, (Enc.cells (x : Tr))), (30, (Enc.cells (y : Tr)))])) ?_
 refine w_o (a := .b false) ?_
 refine ze ?_
 refine zck (k0 := 0) (id := 1) 18 (by kernel_rfl) (by kernel_rfl) ?_
 refine h_o (a := .ptr 0 0) ?_
 refine h_o (a := .u ((x.k : Nat) : Int)) ?_
 refine h_o (a := .b (((x.k : Nat) : Int) == 5)) ?_
 refine zu h (fun hc1 h => ?_) (fun hc1 h => ?_)
 refine h_o (a := .b true) (h := zak rfl hc1) ?_
 refine zah rfl rfl ?_
 refine h_o (a := .ptr 0 5) ?_
 refine zah rfl rfl ?_
 refine h_o (a := .i x.mn) ?_
 refine zah rfl rfl ?_
 refine h_o (a := .ptr 0 6) ?_
 refine zah rfl rfl ?_
 refine h_o (a := .i x.mx) ?_
 refine zah rfl rfl ?_
 refine h_o (a := .A ((Bd.mk x.mn x.mx) : Bd)) ?_
 refine zah rfl rfl ?_
 refine zfd (zif _ rfl) ?_
 refine zah rfl rfl ?_
 refine ztt (.b (decide ((Bd.mk x.mn x.mx) = (Bd.mk 0 (-1))))) rfl rfl rfl (ze9 (Bd.mk x.mn x.mx) (Bd.mk 0 (-1)) rfl rfl rfl) (by dsimp only [zp, List.set]) ?_
 refine h_o (a := .b (decide ((Bd.mk x.mn x.mx) = (Bd.mk 0 (-1))))) ?_
 refine zu h (fun hc2 h => ?_) (fun hc2 h => ?_)
 refine h_o (a := .b true) (h := zak rfl hc2) ?_
 refine zah rfl rfl ?_
 refine h_o (a := .ptr 0 7) ?_
 refine zah rfl rfl ?_
 refine h_o (a := .L (x.l : List Tr)) ?_
 refine zah rfl rfl ?_
 obtain ⟨g1, h⟩ := zh h
 obtain ⟨x1, hx1, h⟩ := zj h
 refine h_ix hx1 g1 ?_
 refine zah rfl rfl ?_
 refine h_o (a := .A (x1 : Tr)) ?_
 refine zah rfl rfl ?_
 refine h_o (a := .A (y : Tr)) ?_
 refine zb7 ?_
 refine zab rfl rfl ?_
 obtain ⟨g2, h⟩ := zh h
 obtain ⟨x2, hx2, h⟩ := zj h
 refine zbq (args' := [.A (x1 : Tr), .A (y : Tr)]) (r := .b x2) (by rw [← hx2]; exact (zf4 x1 y g2)) ?_
 refine w_r [.v (.b x2), .m _] ?_
 exact zas h
 refine h_o (a := .b false) (h := zak rfl hc2) ?_
 refine zaj ?_
 refine zaj ?_
 refine zaj ?_
 refine zaj ?_
 refine zaj ?_
 refine zb7 ?_
 refine w_r [.p, .v (.b false), .m _] ?_
 exact zas h
 refine h_o (a := .b false) (h := zak rfl hc1) ?_
 refine zaj ?_
 refine zaj ?_
 refine zaj ?_
 refine zaj ?_
 refine zaj ?_
 refine zaj ?_
 refine zaj ?_
 refine h_o (a := .b false) ?_
 refine zd1 ?_
 refine zaj ?_
 refine zaj ?_
 refine zaj ?_
 refine zaj ?_
 refine zaj ?_
 refine zb7 ?_
 refine w_r [.p, .v (.b false), .m _] ?_
 exact zas h
def zku (x : Tr) (y : Tr) : Option (Tr × Bool) :=
 (zds (τ := Unit) (chk ((pre x).length < 2 ^ 60) (zal (plainT x) (fun x1 => (bif (!x1) then (some (Sum.inr (noneT, false))) else (chk ((pre y).length < 2 ^ 60) (zal (plainT y) (fun x2 => (bif (!x2) then (some (Sum.inr (noneT, false))) else (zau (zjg y x) (fun x3 => (bif x3 then (zau (zgj x (Bd.mk 1 (-1))) (fun x4 => (some (Sum.inr (x4, true))))) else (zau (zjg x y) (fun x5 => (bif x5 then (zau (zgj y (Bd.mk 1 (-1))) (fun x6 => (some (Sum.inr (x6, true))))) else (chk ((pre x).length < 2 ^ 61 ∧ (pre y).length < 2 ^ 61) (zal (zd0 x y) (fun x7 => (bif x7 then (bif (((x.k : Nat) : Int) == 5) then (zal (Bd.mk x.mn x.mx) (fun x8 => (bif (decide (x8 = (Bd.mk 0 (-1)))) then (some (Sum.inr (x, true))) else (some (Sum.inl ()))))) else (some (Sum.inl ()))) else (some (Sum.inl ())))))))))))))))))))) (fun j1 => (some (noneT, false))))
theorem ent56 : Ent Try.prog 56 := enters_of Try.func56 (by kernel_rfl) rfl
theorem z1b (x : Tr) (y : Tr) (r : (Tr × Bool)) (h : zku x y = some r) : Pure (ITP Try.prog) Try.prog 56 [.A (x : Tr), .A (y : Tr)] (.tup [.A (r.1 : Tr), .raw (.bool r.2)]) := by
 unfold zku at h
 refine zax 45 mix Try.func56 ent56 ?_
 refine ze (zd ?_)
 refine zbj (a := .ptr 0 0) (σ'' := (.B [(30, (Enc.cells (x : Tr)))])) ?_
 refine zbj (a := .ptr 1 0) (σ'' := (.B [(30, (Enc.cells (x : Tr))), (30, (Enc.cells (y : Tr)))])) ?_
 refine zbj (a := .ptr 2 0) (σ'' := (.B [(30, (Enc.cells (x : Tr))), (30, (Enc.cells (y : Tr))), (30, [.u 0, .raw (.int .u64 0), .raw (.int .u64 0), .raw (.int .u64 0), .raw (.int .u64 0), .i 0, .i 0, .list 0 [] .full])])) ?_
 refine w_o (a := .b false) ?_
 refine za3 h (bz 0 47 140737488355311) (fun j1 => []) (fun j1 => (.B [(30, (Enc.cells (x : Tr))), (30, (Enc.cells (y : Tr))), (30, [.u 0, .raw (.int .u64 0), .raw (.int .u64 0), .raw (.int .u64 0), .raw (.int .u64 0), .i 0, .i 0, .list 0 [] .full])])) ?_ ?_
 intro or1 h hr1
 refine zt ?_
 refine zr [.v (.A (x : Tr))] ?_
 obtain ⟨g1, h⟩ := zh h
 obtain ⟨x1, hx1, h⟩ := zj h
 refine zbq (args' := [.A (x : Tr)]) (r := .b x1) (by rw [← hx1]; exact (zl2 x g1)) ?_
 refine w_o (a := .b (!x1)) ?_
 refine zu h (fun hc1 h => ?_) (fun hc1 h => ?_)
 refine zaw hc1 ?_
 refine w_r [.p, .p, .p, .v (.b true), .m _] ?_
 refine zba rfl ?_
 refine ze (zd ?_)
 refine zdz (.A (noneT : Tr)) (a0 := (zbh noneT .full)) rfl rfl rfl (by kernel_rfl) (zi _ _) (by dsimp only [zp, List.set]) ?_
 refine zbm 8 (.B [(30, (Enc.cells (x : Tr))), (30, (Enc.cells (y : Tr))), (30, (Enc.cells (noneT : Tr)))]) ?_
 refine w_o (a := .b false) ?_
 replace h := zo h hr1
 exact zap (fun (r : (Tr × Bool)) => .tup [.A (r.1 : Tr), .b r.2]) h (.tup [.A (noneT : Tr), .b false])
 refine zaw hc1 ?_
 refine zab rfl rfl ?_
 refine w_o (a := .A (y : Tr)) ?_
 refine zab rfl rfl ?_
 obtain ⟨g2, h⟩ := zh h
 obtain ⟨x2, hx2, h⟩ := zj h
 refine zbq (args' := [.A (y : Tr)]) (r := .b x2) (by rw [← hx2]; exact (zl2 y g2)) ?_
 refine w_r [.v (.b (!x2)), .v (.b (!x2)), .m _] ?_
 refine zbv h (fun hc2 h => ?_) (fun hc2 h => ?_)
 refine ze (zd ?_)
 refine zdz (.A (noneT : Tr)) (a0 := (zbh noneT .full)) rfl rfl rfl (by kernel_rfl) (zi _ _) (by dsimp only [zp, List.set]) ?_
 refine zbm 8 (.B [(30, (Enc.cells (x : Tr))), (30, (Enc.cells (y : Tr))), (30, (Enc.cells (noneT : Tr)))]) ?_
 refine w_o (a := .b false) ?_
 replace h := zo h hr1
 exact zap (fun (r : (Tr × Bool)) => .tup [.A (r.1 : Tr), .b r.2]) h (.tup [.A (noneT : Tr), .b false])
 refine zr [.v (.A (y : Tr)), .v (.A (x : Tr))] ?_
 obtain ⟨x3, hx3, h⟩ := zw h
 refine zbq (zvn y x x3 hx3) ?_
 refine zad ?_
 refine zbv h (fun hc3 h => ?_) (fun hc3 h => ?_)
 refine ze ?_
 refine zck (k0 := 0) (id := 4) 2 (by kernel_rfl) (by kernel_rfl) ?_
 refine h_o (a := .A (x : Tr)) ?_
 refine zfd (zie _ rfl) ?_
 refine zb7 ?_
 obtain ⟨x4, hx4, h⟩ := zw h
 refine zbq (zi9 x (Bd.mk 1 (-1)) x4 hx4) ?_
 refine zbm 8 (.B [(30, (Enc.cells (x : Tr))), (30, (Enc.cells (y : Tr))), (30, (Enc.cells (x4 : Tr)))]) ?_
 refine w_o (a := .b true) ?_
 replace h := zo h hr1
 exact zap (fun (r : (Tr × Bool)) => .tup [.A (r.1 : Tr), .b r.2]) h (.tup [.A (x4 : Tr), .b true])
 refine zr [.v (.A (x : Tr)), .v (.A (y : Tr))] ?_
 obtain ⟨x5, hx5, h⟩ := zw h
 refine zbq (zvn x y x5 hx5) ?_
 refine zad ?_
 refine zbv h (fun hc4 h => ?_) (fun hc4 h => ?_)
 refine ze ?_
 refine zck (k0 := 0) (id := 6) 2 (by kernel_rfl) (by kernel_rfl) ?_
 refine h_o (a := .A (y : Tr)) ?_
 refine zfd (zie _ rfl) ?_
 refine zb7 ?_
 obtain ⟨x6, hx6, h⟩ := zw h
 refine zbq (zi9 y (Bd.mk 1 (-1)) x6 hx6) ?_
 refine zbm 8 (.B [(30, (Enc.cells (x : Tr))), (30, (Enc.cells (y : Tr))), (30, (Enc.cells (x6 : Tr)))]) ?_
 refine w_o (a := .b true) ?_
 replace h := zo h hr1
 exact zap (fun (r : (Tr × Bool)) => .tup [.A (r.1 : Tr), .b r.2]) h (.tup [.A (x6 : Tr), .b true])
 refine zr [.v (.A (x : Tr)), .v (.A (y : Tr))] ?_
 obtain ⟨g3, h⟩ := zh h
 obtain ⟨x7, hx7, h⟩ := zj h
 refine zbq (args' := [.A (x : Tr), .A (y : Tr)]) (r := .b x7) (by rw [← hx7]; exact (zf4 x y g3)) ?_
 refine zu h (fun hc5 h => ?_) (fun hc5 h => ?_)
 refine zaw hc5 ?_
 refine w_r [.v (.ptr 0 0), .v (.u ((x.k : Nat) : Int)), .v (.b (((x.k : Nat) : Int) == 5)), .v (.b (((x.k : Nat) : Int) == 5))] ?_
 refine zu h (fun hc6 h => ?_) (fun hc6 h => ?_)
 refine zaw hc6 ?_
 refine zab rfl rfl ?_
 refine w_o (a := .A (x : Tr)) ?_
 refine zab rfl rfl ?_
 obtain ⟨x8, hx8, h⟩ := zj h
 refine zbq (args' := [.A (x : Tr)]) (r := .A (x8 : Bd)) (by rw [← hx8]; exact (zqc x _ rfl)) ?_
 refine zab rfl rfl ?_
 refine zbq (zif _ rfl) ?_
 refine zab rfl rfl ?_
 refine zj5 (.b (decide (x8 = (Bd.mk 0 (-1))))) rfl rfl rfl (ze9 x8 (Bd.mk 0 (-1)) rfl rfl rfl) (by dsimp only [zp, List.set]) ?_
 refine w_r [.v (.b (decide (x8 = (Bd.mk 0 (-1))))), .m _] ?_
 refine zbv h (fun hc7 h => ?_) (fun hc7 h => ?_)
 refine zr [.v (.A (x : Tr))] ?_
 refine zbm 8 (.B [(30, (Enc.cells (x : Tr))), (30, (Enc.cells (y : Tr))), (30, (Enc.cells (x : Tr)))]) ?_
 refine w_o (a := .b true) ?_
 replace h := zo h hr1
 exact zap (fun (r : (Tr × Bool)) => .tup [.A (r.1 : Tr), .b r.2]) h (.tup [.A (x : Tr), .b true])
 refine zg (o := or1) () h ?_
 exact zc1 (bl 47 16)
 refine zaw hc6 ?_
 refine w_r [.p, .p, .p, .p, .v (.b false)] ?_
 refine w_r [.m _] ?_
 refine zay rfl ?_
 refine zg (o := or1) () h ?_
 exact zc1 (bl 47 16)
 refine zaw hc5 ?_
 refine w_r [.p, .p, .p, .v (.b false), .m _] ?_
 refine w_r [.p, .p, .p, .p, .v (.b false)] ?_
 refine w_r [.m _] ?_
 refine zay rfl ?_
 refine zg (o := or1) () h ?_
 exact zc1 (bl 47 16)
 intro j1 h
 refine zf9 ?_
 refine ze (zd ?_)
 refine zdz (.A (noneT : Tr)) (a0 := (zbh noneT .full)) rfl rfl rfl (by kernel_rfl) (zi _ _) (by dsimp only [zp, List.set]) ?_
 refine zbm 8 (.B [(30, (Enc.cells (x : Tr))), (30, (Enc.cells (y : Tr))), (30, (Enc.cells (noneT : Tr)))]) ?_
 refine w_o (a := .b false) ?_
 exact zap (fun (r : (Tr × Bool)) => .tup [.A (r.1 : Tr), .b r.2]) h (.tup [.A (noneT : Tr), .b false])
def zxj (t : Tr) : Option Bool :=
 (chk ((pre t).length < 2 ^ 61) (zal (zbx t) (fun x1 => (bif x1 then (chk ((pre t).length < 2 ^ 60) (zal (plainT t) (fun x2 => (some x2)))) else (some false)))))
theorem ent8 : Ent Try.prog 8 := enters_of Try.func8 (by kernel_rfl) rfl
theorem z5k (t : Tr) (r : Bool) (h : zxj t = some r) : Pure (ITP Try.prog) Try.prog 8 [.A (t : Tr)] (.raw (.bool r)) := by
 unfold zxj at h
 refine zax 8 mix Try.func8 ent8 ?_
 refine ze (zd ?_)
 refine zbj (a := .ptr 0 0) (σ'' := (.B [(30, (Enc.cells (t : Tr)))])) ?_
 refine w_o (a := .b false) ?_
 refine zr [.v (.A (t : Tr))] ?_
 obtain ⟨g1, h⟩ := zh h
 obtain ⟨x1, hx1, h⟩ := zj h
 refine zbq (args' := [.A (t : Tr)]) (r := .b x1) (by rw [← hx1]; exact (zl5 t g1)) ?_
 refine zu h (fun hc1 h => ?_) (fun hc1 h => ?_)
 refine zaw hc1 ?_
 refine zab rfl rfl ?_
 refine w_o (a := .A (t : Tr)) ?_
 refine zab rfl rfl ?_
 obtain ⟨g2, h⟩ := zh h
 obtain ⟨x2, hx2, h⟩ := zj h
 refine zbq (args' := [.A (t : Tr)]) (r := .b x2) (by rw [← hx2]; exact (zl2 t g2)) ?_
 refine w_r [.v (.b x2), .m _] ?_
 exact zas h
 refine zaw hc1 ?_
 refine w_r [.p, .p, .v (.b false), .m _] ?_
 exact zas h
def zmg (t : Tr) : Option Bool :=
 (chk ((pre t).length < 2 ^ 61) (zal (zbx t) (fun x1 => (bif x1 then (chk (((pre t).length < 2 ^ 60 ∧ crT t = true)) (zal (zaz t) (fun x2 => (some x2)))) else (some false)))))
theorem ent14 : Ent Try.prog 14 := enters_of Try.func14 (by kernel_rfl) rfl
theorem zwx (t : Tr) (r : Bool) (h : zmg t = some r) : Pure (ITP Try.prog) Try.prog 14 [.A (t : Tr)] (.raw (.bool r)) := by
 unfold zmg at h
 refine zax 8 mix Try.func14 ent14 ?_
 refine ze (zd ?_)
 refine zbj (a := .ptr 0 0) (σ'' := (.B [(30, (Enc.cells (t : Tr)))])) ?_
 refine w_o (a := .b false) ?_
 refine zr [.v (.A (t : Tr))] ?_
 obtain ⟨g1, h⟩ := zh h
 obtain ⟨x1, hx1, h⟩ := zj h
 refine zbq (args' := [.A (t : Tr)]) (r := .b x1) (by rw [← hx1]; exact (zl5 t g1)) ?_
 refine zu h (fun hc1 h => ?_) (fun hc1 h => ?_)
 refine zaw hc1 ?_
 refine zab rfl rfl ?_
 refine w_o (a := .A (t : Tr)) ?_
 refine zab rfl rfl ?_
 obtain ⟨g2, h⟩ := zh h
 obtain ⟨x2, hx2, h⟩ := zj h
 refine zbq (args' := [.A (t : Tr)]) (r := .b x2) (by rw [← hx2]; exact (zm5 t g2)) ?_
 refine w_r [.v (.b x2), .m _] ?_
 exact zas h
 refine zaw hc1 ?_
 refine w_r [.p, .p, .v (.b false), .m _] ?_
 exact zas h
def zqh (y : Tr) (x : Tr) : Option Bool :=
 (chk ((pre x).length < 2 ^ 61 ∧ (pre y).length < 2 ^ 61) (zal (zd0 x y) (fun x1 => (some x1))))
theorem ent67 : Ent Try.prog 67 := enters_of Try.func67 (by kernel_rfl) rfl
theorem cap1_sh (y : Tr) (x : Tr) (r : Bool) (h : zqh y x = some r) : Pure (ITP Try.prog) Try.prog 67 [.A (y : Tr), .iptr (Enc.cells (x : Tr))] (.raw (.bool r)) := by
 unfold zqh at h
 refine zax 5 mix Try.func67 ent67 ?_
 refine ze (zd ?_)
 refine zbj (a := .ptr 0 0) (σ'' := (.B [(30, (Enc.cells (y : Tr)))])) ?_
 refine w_o (a := .b false) ?_
 refine zr [.v (.A (x : Tr)), .v (.A (y : Tr))] ?_
 obtain ⟨g1, h⟩ := zh h
 obtain ⟨x1, hx1, h⟩ := zj h
 refine zbq (args' := [.A (x : Tr), .A (y : Tr)]) (r := .b x1) (by rw [← hx1]; exact (zf4 x y g1)) ?_
 refine zad ?_
 exact zas h
def zhp (fuel : Nat) (l : (List Tr)) : Option Tr :=
 (zds (τ := (List Tr)) (zcl (β := (List Tr) × Int) (fun s1 => (bif (decide (s1.2 < (List.length l : Int))) then (zds (τ := (List Tr)) (chk (0 ≤ s1.2 ∧ s1.2 < (List.length l : Int)) (zal (ix l s1.2) (fun x1 => (chk ((pre x1).length < 2 ^ 60) (zal (plainT x1) (fun x2 => (bif (!x2) then (chk ((List.length s1.1 + List.length [x1]) * 80 ≤ 140737488355328) (some (Sum.inl ((s1.1 ++ [x1]))))) else (zau (z3z fuel (fun y => zqh y x1) s1.1) (fun x3 => (bif (!x3) then (chk ((List.length s1.1 + List.length [x1]) * 80 ≤ 140737488355328) (some (Sum.inl ((s1.1 ++ [x1]))))) else (some (Sum.inl (s1.1))))))))))))) (fun j2 => (chk (-9223372036854775808 ≤ (s1.2 + 1) ∧ (s1.2 + 1) < 9223372036854775808) (some (Sum.inl (j2, (s1.2 + 1))))))) else (some (Sum.inr (Sum.inl (s1.1)))))) fuel (([] : (List Tr)), 0)) (fun j1 => (chk ((zam j1).length ≤ 2 ^ 40) (zal (orT j1) (fun x4 => (some x4))))))
theorem ent58 : Ent Try.prog 58 := enters_of Try.func58 (by kernel_rfl) rfl
theorem zwn (fuel : Nat) (l : (List Tr)) (r : Tr) (h : zhp fuel l = some r) : Pure (ITP Try.prog) Try.prog 58 [.L (l : List Tr)] (.A (r : Tr)) := by
 unfold zhp at h
 refine zax 27 mix Try.func58 ent58 ?_
 refine ze (zd ?_)
 refine zbj (a := .ptr 0 0) (σ'' := (.B [(30, [.u 0, .raw (.int .u64 0), .raw (.int .u64 0), .raw (.int .u64 0), .raw (.int .u64 0), .i 0, .i 0, .list 0 [] .full])])) ?_
 refine zr [.v (.list 0 [] .full)] ?_
 refine za3 h (bz 0 28 268435451) (fun j1 => [(3, (.O (j1 : List Tr)))]) (fun j1 => (zd6 [(30, [.u 0, .raw (.int .u64 0), .raw (.int .u64 0), .raw (.int .u64 0), .raw (.int .u64 0), .i 0, .i 0, .list 0 [] .full])] 30 (List.length (j1 : List Tr)) 8)) ?_ ?_
 intro or1 h hr1
 refine zr [.m _, .v (.i (List.length l : Int)), .v (.i 0)] ?_
 refine zt ?_
 refine zcp h (bz 0 28 268435259) (fun s1 => [(3, (.O (s1.1 : List Tr))), (8, .i s1.2)]) (fun s1 => (zd6 [(30, [.u 0, .raw (.int .u64 0), .raw (.int .u64 0), .raw (.int .u64 0), .raw (.int .u64 0), .i 0, .i 0, .list 0 [] .full])] 30 (List.length (s1.1 : List Tr)) 8)) ?_ ?_
 exact zc1 (bl 28 460)
 intro s1 p1 h
 refine zf9 ?_
 refine zr [.v (.b (decide (s1.2 < (List.length l : Int))))] ?_
 refine ze ?_
 refine zbv h (fun hc1 h => ?_) (fun hc1 h => ?_)
 refine za3 h (bz 0 25 33553960) (fun j2 => [(3, (.O (j2 : List Tr)))]) (fun j2 => (zd6 [(30, [.u 0, .raw (.int .u64 0), .raw (.int .u64 0), .raw (.int .u64 0), .raw (.int .u64 0), .i 0, .i 0, .list 0 [] .full])] 30 (List.length (j2 : List Tr)) 8)) ?_ ?_
 intro or2 h hr2
 refine zt ?_
 refine ze (zd ?_)
 obtain ⟨g1, h⟩ := zh h
 obtain ⟨x1, hx1, h⟩ := zj h
 refine zwf hx1 g1 ?_
 refine w_o (a := .A (x1 : Tr)) ?_
 refine zbj (a := .ptr 1 0) (σ'' := (zd6 [(30, [.u 0, .raw (.int .u64 0), .raw (.int .u64 0), .raw (.int .u64 0), .raw (.int .u64 0), .i 0, .i 0, .list 0 [] .full]), (30, [.u 0, .raw (.int .u64 0), .raw (.int .u64 0), .raw (.int .u64 0), .raw (.int .u64 0), .i 0, .i 0, .list 0 [] .full])] 30 (List.length (s1.1 : List Tr)) 8)) ?_
 refine zbm 8 (zd6 [(30, [.u 0, .raw (.int .u64 0), .raw (.int .u64 0), .raw (.int .u64 0), .raw (.int .u64 0), .i 0, .i 0, .list 0 [] .full]), (30, (Enc.cells (x1 : Tr)))] 30 (List.length (s1.1 : List Tr)) 8) ?_
 refine zr [.v (.A (x1 : Tr))] ?_
 obtain ⟨g2, h⟩ := zh h
 obtain ⟨x2, hx2, h⟩ := zj h
 refine zbq (args' := [.A (x1 : Tr)]) (r := .b x2) (by rw [← hx2]; exact (zl2 x1 g2)) ?_
 refine w_o (a := .b (!x2)) ?_
 refine zu h (fun hc2 h => ?_) (fun hc2 h => ?_)
 refine zaw hc2 ?_
 refine w_r [.p, .p, .p, .p, .v (.b true)] ?_
 refine zba rfl ?_
 refine zd (k0 := 0) (id := 6) ?_
 refine w_r [.m _, .v (.A (x1 : Tr))] ?_
 refine w_o (a := .F ([x1] : List Tr)) (h := zbs (zfs (α := Tr) (l := [x1]) (cs := Enc.cells (x1 : Tr) ++ []) rfl (by rw [Enc.cons, Enc.nil]))) ?_
 obtain ⟨g3, h⟩ := zh h
 refine zrl (a := (.O ((s1.1 ++ [x1]) : List Tr))) (σ'' := (zd6 [(30, [.u 0, .raw (.int .u64 0), .raw (.int .u64 0), .raw (.int .u64 0), .raw (.int .u64 0), .i 0, .i 0, .list 0 [] .full]), (30, (Enc.cells (x1 : Tr)))] 30 (List.length ((s1.1 ++ [x1]) : List Tr)) 8)) rfl rfl rfl (zgw rfl rfl rfl rfl (zev (α := Tr) (bs := [(30, [.u 0, .raw (.int .u64 0), .raw (.int .u64 0), .raw (.int .u64 0), .raw (.int .u64 0), .i 0, .i 0, .list 0 [] .full]), (30, (Enc.cells (x1 : Tr)))]) (a := s1.1) (b := [x1]) g3 rfl rfl rfl rfl rfl ⟨rfl, by decide⟩)) (by dsimp only [zp, List.set]) rfl ?_
 refine zad ?_
 refine zg (o := or2) ((s1.1 ++ [x1])) h ?_
 exact zcn (bl 28 234881503) 1 (by kernel_rfl) (Nat.le_of_ble_eq_true rfl) (zbi (zv rfl rfl)) (by dsimp only [zaf, zae, List.foldl, List.set, bz, bzc, Nat.reduceMod, Nat.reduceDiv, Nat.reduceBEq, Nat.reduceAdd]; exact (zb rfl (zb rfl (zb (by decide) (zb (zcf (Enc.cloL _)) (zb rfl (zb rfl (zb (zar (Enc.cloL _)) (by kernel_rfl))))))))) (by kernel_rfl)
 refine zaw hc2 ?_
 refine w_r [.m _, .v (.clos 67 [.ptr 1 0])] ?_
 refine zab rfl rfl ?_
 obtain ⟨x3, hx3, h⟩ := zw h
 refine z1w 1 (args' := [.L (s1.1 : List Tr), .clos 67 [.iptr (Enc.cells (x1 : Tr))]]) (r := .b x3) (z7x fuel (fun y => zqh y x1) s1.1 x3 67 (.iptr (Enc.cells (x1 : Tr))) (zx8 (Enc.clo _)) (fun y z h => cap1_sh y x1 z h) hx3) rfl rfl (zgi (zwp (α := Tr) _ _) (zgi (congrArg (fun z => AV.clos 67 [AV.iptr z]) (zcg _ _ (Enc.clo _))) zna)) rfl (by dsimp only [zp, List.set]) ?_
 refine w_r [.v (.b (!x3)), .v (.b (!x3))] ?_
 refine zbv h (fun hc3 h => ?_) (fun hc3 h => ?_)
 refine zd (k0 := 0) (id := 6) ?_
 refine w_r [.m _, .v (.A (x1 : Tr))] ?_
 refine w_o (a := .F ([x1] : List Tr)) (h := zbs (zfs (α := Tr) (l := [x1]) (cs := Enc.cells (x1 : Tr) ++ []) rfl (by rw [Enc.cons, Enc.nil]))) ?_
 obtain ⟨g4, h⟩ := zh h
 refine zrl (a := (.O ((s1.1 ++ [x1]) : List Tr))) (σ'' := (zd6 [(30, [.u 0, .raw (.int .u64 0), .raw (.int .u64 0), .raw (.int .u64 0), .raw (.int .u64 0), .i 0, .i 0, .list 0 [] .full]), (30, (Enc.cells (x1 : Tr)))] 30 (List.length ((s1.1 ++ [x1]) : List Tr)) 8)) rfl rfl rfl (zgw rfl rfl rfl rfl (zev (α := Tr) (bs := [(30, [.u 0, .raw (.int .u64 0), .raw (.int .u64 0), .raw (.int .u64 0), .raw (.int .u64 0), .i 0, .i 0, .list 0 [] .full]), (30, (Enc.cells (x1 : Tr)))]) (a := s1.1) (b := [x1]) g4 rfl rfl rfl rfl rfl ⟨rfl, by decide⟩)) (by dsimp only [zp, List.set]) rfl ?_
 refine zad ?_
 refine zg (o := or2) ((s1.1 ++ [x1])) h ?_
 exact zcn (bl 28 234881503) 1 (by kernel_rfl) (Nat.le_of_ble_eq_true rfl) (zbi (zv rfl rfl)) (by dsimp only [zaf, zae, List.foldl, List.set, bz, bzc, Nat.reduceMod, Nat.reduceDiv, Nat.reduceBEq, Nat.reduceAdd]; exact (zb rfl (zb rfl (zb (by decide) (zb (zcf (Enc.cloL _)) (zb rfl (zb rfl (zb (zar (Enc.cloL _)) (by kernel_rfl))))))))) (by kernel_rfl)
 refine zg (o := or2) (s1.1) h ?_
 exact zcn (bl 28 234881503) 1 (by kernel_rfl) (Nat.le_of_ble_eq_true rfl) (zbi (zv rfl rfl)) (by dsimp only [zaf, zae, List.foldl, List.set, bz, bzc, Nat.reduceMod, Nat.reduceDiv, Nat.reduceBEq, Nat.reduceAdd]; exact (zb rfl (zb rfl (zb (by decide) (zb (zcf (Enc.cloL _)) (zb rfl (zb rfl (zb (zar (Enc.cloL _)) (by kernel_rfl))))))))) (by kernel_rfl)
 intro j2 h
 refine zf9 ?_
 refine zd (k0 := 0) (id := 7) ?_
 obtain ⟨g5, h⟩ := zh h
 refine zv1 g5 ?_
 refine zad ?_
 refine zbn (p := p1) (j2, (s1.2 + 1)) h ?_
 exact zc1 (bl 28 460)
 refine zac h (fun h => ?_)
 refine zg (o := or1) (s1.1) h ?_
 exact zc1 (bl 28 12)
 intro j1 h
 refine zf9 ?_
 refine zr [.m _] ?_
 obtain ⟨g6, h⟩ := zh h
 obtain ⟨x4, hx4, h⟩ := zj h
 refine zbq (args' := [.L (j1 : List Tr)]) (r := .A (x4 : Tr)) (by rw [← hx4]; exact (k_or j1 g6)) ?_
 refine zbm 8 (zd6 [(30, (Enc.cells (x4 : Tr)))] 30 (List.length (j1 : List Tr)) 8) ?_
 exact zap (fun (r : Tr) => .A (r : Tr)) h (.A (x4 : Tr))
end Go.Ab
