/-
  rxnorm: times, isStar, merged, captured.
-/
import Derived.Test.YtmoncghgagmilaaZnV5
import Derived.Test.YtmoncghgagmilaaZdQr
set_option linter.unusedSimpArgs false
set_option linter.unusedVariables false
set_option maxRecDepth 100000
set_option maxHeartbeats 4000000
namespace Go.Ab
open Go Go.RowKit Go.Fwd Go.Proofs
theorem zxk {α : Type} [Enc α] (g : FZ) (l : List α) : zdu g (zee l.length (Enc.cellsL l)) = .list l.length (Enc.cellsL l) .none := by
 unfold zee
 split
 ·rename_i h
  have := List.length_eq_zero_iff.1 h
  subst this
  rw [Enc.nil]; rfl
 ·rw [zdu, zce _ _ (Enc.cloL _)]
def zf2 (x : Tr) (b : Bd) : Option Tr :=
 (chk ((pre x).length < 2 ^ 40) (zan (zb1 x b.lo b.mo) (fun x1 => (bif (((x1.k : Nat) : Int) != 5) then (some x1) else (chk ((pre x).length < 2 ^ 60) (zan (plainT x) (fun x2 => (bif (!x2) then (some x1) else (zdo (τ := Unit) (bif (decide (b = (Bd.mk 0 1))) then (chk (((pre x).length < 2 ^ 60 ∧ crT x = true)) (zan (zbx x) (fun x3 => (bif x3 then (some (Sum.inr x)) else (bif (((x.k : Nat) : Int) == 5) then (zan (zcr b) (fun x4 => (bif x4 then (zan (Bd.mk x.mn x.mx) (fun x5 => (zan (zcr x5) (fun x6 => (bif x6 then (zdo (τ := Bd) (zan (Bd.mk x.mn x.mx) (fun x7 => (bif (decide (b ≠ x7)) then (some (Sum.inl ((Bd.mk 0 (-1))))) else (bif (decide (b = (Bd.mk 0 (-1)))) then (some (Sum.inl ((Bd.mk 0 (-1))))) else (some (Sum.inl (b))))))) (fun j2 => (chk (0 ≤ (0 : Int) ∧ (0 : Int) < (List.length x.l : Int)) (zan (ix x.l (0 : Int)) (fun x8 => (chk ((pre x8).length < 2 ^ 40) (zan (zb1 x8 j2.lo j2.mo) (fun x9 => (some (Sum.inr x9)))))))))) else (bif (decide (b = (Bd.mk 1 (-1)))) then (chk (((pre x).length < 2 ^ 60 ∧ crT x = true)) (zan (zbx x) (fun x10 => (bif x10 then (chk ((pre x).length < 2 ^ 40) (zan (zb1 x (0 : Int) (-1)) (fun x11 => (some (Sum.inr x11))))) else (some (Sum.inl ())))))) else (some (Sum.inl ())))))))) else (bif (decide (b = (Bd.mk 1 (-1)))) then (chk (((pre x).length < 2 ^ 60 ∧ crT x = true)) (zan (zbx x) (fun x12 => (bif x12 then (chk ((pre x).length < 2 ^ 40) (zan (zb1 x (0 : Int) (-1)) (fun x13 => (some (Sum.inr x13))))) else (some (Sum.inl ())))))) else (some (Sum.inl ())))))) else (bif (decide (b = (Bd.mk 1 (-1)))) then (chk (((pre x).length < 2 ^ 60 ∧ crT x = true)) (zan (zbx x) (fun x14 => (bif x14 then (chk ((pre x).length < 2 ^ 40) (zan (zb1 x (0 : Int) (-1)) (fun x15 => (some (Sum.inr x15))))) else (some (Sum.inl ())))))) else (some (Sum.inl ())))))))) else (bif (((x.k : Nat) : Int) == 5) then (zan (zcr b) (fun x16 => (bif x16 then (zan (Bd.mk x.mn x.mx) (fun x17 => (zan (zcr x17) (fun x18 => (bif x18 then (zdo (τ := Bd) (zan (Bd.mk x.mn x.mx) (fun x19 => (bif (decide (b ≠ x19)) then (some (Sum.inl ((Bd.mk 0 (-1))))) else (bif (decide (b = (Bd.mk 0 (-1)))) then (some (Sum.inl ((Bd.mk 0 (-1))))) else (some (Sum.inl (b))))))) (fun j3 => (chk (0 ≤ (0 : Int) ∧ (0 : Int) < (List.length x.l : Int)) (zan (ix x.l (0 : Int)) (fun x20 => (chk ((pre x20).length < 2 ^ 40) (zan (zb1 x20 j3.lo j3.mo) (fun x21 => (some (Sum.inr x21)))))))))) else (bif (decide (b = (Bd.mk 1 (-1)))) then (chk (((pre x).length < 2 ^ 60 ∧ crT x = true)) (zan (zbx x) (fun x22 => (bif x22 then (chk ((pre x).length < 2 ^ 40) (zan (zb1 x (0 : Int) (-1)) (fun x23 => (some (Sum.inr x23))))) else (some (Sum.inl ())))))) else (some (Sum.inl ())))))))) else (bif (decide (b = (Bd.mk 1 (-1)))) then (chk (((pre x).length < 2 ^ 60 ∧ crT x = true)) (zan (zbx x) (fun x24 => (bif x24 then (chk ((pre x).length < 2 ^ 40) (zan (zb1 x (0 : Int) (-1)) (fun x25 => (some (Sum.inr x25))))) else (some (Sum.inl ())))))) else (some (Sum.inl ())))))) else (bif (decide (b = (Bd.mk 1 (-1)))) then (chk (((pre x).length < 2 ^ 60 ∧ crT x = true)) (zan (zbx x) (fun x26 => (bif x26 then (chk ((pre x).length < 2 ^ 40) (zan (zb1 x (0 : Int) (-1)) (fun x27 => (some (Sum.inr x27))))) else (some (Sum.inl ())))))) else (some (Sum.inl ()))))) (fun j1 => (some x1)))))))))))
theorem ent42 : Ent Try.prog 42 := enters_of Try.func42 (by kernel_rfl) rfl
theorem zil (x : Tr) (b : Bd) (r : Tr) (h : zf2 x b = some r) : Pure (ITP Try.prog) Try.prog 42 [.A (x : Tr), .A (b : Bd)] (.A (r : Tr)) := by
 unfold zf2 at h
 refine zaw 71 mix Try.func42 ent42 ?_
 refine ze (zc ?_)
 refine zbc (a := .ptr 0 0) (σ'' := (.B [(30, (Enc.cells (x : Tr)))])) ?_
 refine zbc (a := .ptr 1 0) (σ'' := (.B [(30, (Enc.cells (x : Tr))), (62, (Enc.cells (b : Bd)))])) ?_
 refine zbc (a := .ptr 2 0) (σ'' := (.B [(30, (Enc.cells (x : Tr))), (62, (Enc.cells (b : Bd))), (30, [.u 0, .raw (.int .u64 0), .raw (.int .u64 0), .raw (.int .u64 0), .raw (.int .u64 0), .i 0, .i 0, .list 0 [] .full])])) ?_
 refine zw [.v (.A (x : Tr)), .v (.ptr 1 0), .v (.i b.lo), .v (.ptr 1 1), .v (.i b.mo)] ?_
 obtain ⟨g1, h⟩ := zh h
 obtain ⟨x1, hx1, h⟩ := zj h
 refine zbs (args' := [.A (x : Tr), .i b.lo, .i b.mo]) (r := .A (x1 : Tr)) (by rw [← hx1]; exact (zic x b.lo b.mo g1)) ?_
 refine zbc (a := .ptr 3 0) (σ'' := (.B [(30, (Enc.cells (x : Tr))), (62, (Enc.cells (b : Bd))), (30, [.u 0, .raw (.int .u64 0), .raw (.int .u64 0), .raw (.int .u64 0), .raw (.int .u64 0), .i 0, .i 0, .list 0 [] .full]), (30, [.u 0, .raw (.int .u64 0), .raw (.int .u64 0), .raw (.int .u64 0), .raw (.int .u64 0), .i 0, .i 0, .list 0 [] .full])])) ?_
 refine zbk 8 (.B [(30, (Enc.cells (x : Tr))), (62, (Enc.cells (b : Bd))), (30, [.u 0, .raw (.int .u64 0), .raw (.int .u64 0), .raw (.int .u64 0), .raw (.int .u64 0), .i 0, .i 0, .list 0 [] .full]), (30, (Enc.cells (x1 : Tr)))]) ?_
 refine ze ?_
 refine zw [.v (.ptr 3 0), .v (.u ((x1.k : Nat) : Int)), .v (.b (((x1.k : Nat) : Int) != 5))] ?_
 refine zu h (fun hc1 h => ?_) (fun hc1 h => ?_)
 refine zau hc1 ?_
 refine w_r [.p, .p, .p, .v (.b true)] ?_
 refine zbo rfl ?_
 refine zw [.v (.A (x1 : Tr))] ?_
 refine zbk 8 (.B [(30, (Enc.cells (x : Tr))), (62, (Enc.cells (b : Bd))), (30, (Enc.cells (x1 : Tr))), (30, (Enc.cells (x1 : Tr)))]) ?_
 exact zal (fun (r : Tr) => .A (r : Tr)) h (.A (x1 : Tr))
 refine zau hc1 ?_
 refine zac rfl rfl ?_
 refine w_o (a := .A (x : Tr)) ?_
 refine zac rfl rfl ?_
 obtain ⟨g2, h⟩ := zh h
 obtain ⟨x2, hx2, h⟩ := zj h
 refine zbs (args' := [.A (x : Tr)]) (r := .b x2) (by rw [← hx2]; exact (zlx x g2)) ?_
 refine w_r [.v (.b (!x2)), .v (.b (!x2))] ?_
 refine zbu h (fun hc2 h => ?_) (fun hc2 h => ?_)
 refine zw [.v (.A (x1 : Tr))] ?_
 refine zbk 8 (.B [(30, (Enc.cells (x : Tr))), (62, (Enc.cells (b : Bd))), (30, (Enc.cells (x1 : Tr))), (30, (Enc.cells (x1 : Tr)))]) ?_
 exact zal (fun (r : Tr) => .A (r : Tr)) h (.A (x1 : Tr))
 refine za0 h (bz 0 73 9444732965739290427343) (fun j1 => []) (fun j1 => (.B [(30, (Enc.cells (x : Tr))), (62, (Enc.cells (b : Bd))), (30, [.u 0, .raw (.int .u64 0), .raw (.int .u64 0), .raw (.int .u64 0), .raw (.int .u64 0), .i 0, .i 0, .list 0 [] .full]), (30, (Enc.cells (x1 : Tr)))])) ?_ ?_
 intro or1 h hr1
 refine zr ?_
 refine ze ?_
 refine zcw (k0 := 0) (id := 4) 2 (by kernel_rfl) (by kernel_rfl) ?_
 refine h_o (a := .A (b : Bd)) ?_
 refine zni (zyi _ rfl) ?_
 refine zdr ?_
 refine zj6 (.b (decide (b = (Bd.mk 0 1)))) rfl rfl rfl (ze2 b (Bd.mk 0 1) rfl rfl rfl) (by dsimp only [zn, List.set]) ?_
 refine zu h (fun hc3 h => ?_) (fun hc3 h => ?_)
 refine zau hc3 ?_
 refine zac rfl rfl ?_
 refine w_o (a := .A (x : Tr)) ?_
 refine zac rfl rfl ?_
 obtain ⟨g3, h⟩ := zh h
 obtain ⟨x3, hx3, h⟩ := zj h
 refine zbs (args' := [.A (x : Tr)]) (r := .b x3) (by rw [← hx3]; exact (zm1 x g3)) ?_
 refine w_r [.v (.b x3), .m _] ?_
 refine zbu h (fun hc4 h => ?_) (fun hc4 h => ?_)
 refine zw [.v (.A (x : Tr))] ?_
 refine zbk 8 (.B [(30, (Enc.cells (x : Tr))), (62, (Enc.cells (b : Bd))), (30, (Enc.cells (x : Tr))), (30, (Enc.cells (x1 : Tr)))]) ?_
 replace h := zp h hr1
 exact zal (fun (r : Tr) => .A (r : Tr)) h (.A (x : Tr))
 refine zw [.v (.ptr 0 0), .v (.u ((x.k : Nat) : Int)), .v (.b (((x.k : Nat) : Int) == 5))] ?_
 refine zu h (fun hc5 h => ?_) (fun hc5 h => ?_)
 refine zau hc5 ?_
 refine zac rfl rfl ?_
 refine w_o (a := .A (b : Bd)) ?_
 refine zac rfl rfl ?_
 obtain ⟨x4, hx4, h⟩ := zj h
 refine zbs (args' := [.A (b : Bd)]) (r := .b x4) (by rw [← hx4]; exact (znr b)) ?_
 refine w_o (a := .b x4) ?_
 refine zu h (fun hc6 h => ?_) (fun hc6 h => ?_)
 refine zau hc6 ?_
 refine zac rfl rfl ?_
 refine w_o (a := .A (x : Tr)) ?_
 refine zac rfl rfl ?_
 obtain ⟨x5, hx5, h⟩ := zj h
 refine zbs (args' := [.A (x : Tr)]) (r := .A (x5 : Bd)) (by rw [← hx5]; exact (zrd x _ rfl)) ?_
 refine zac rfl rfl ?_
 obtain ⟨x6, hx6, h⟩ := zj h
 refine zbs (args' := [.A (x5 : Bd)]) (r := .b x6) (by rw [← hx6]; exact (znr x5)) ?_
 refine w_r [.v (.b x6), .m _] ?_
 refine zbu h (fun hc7 h => ?_) (fun hc7 h => ?_)
 refine za0 h (bz 0 73 9444732965739290427363) (fun j2 => []) (fun j2 => (.B [(30, (Enc.cells (x : Tr))), (62, (Enc.cells (j2 : Bd))), (30, [.u 0, .raw (.int .u64 0), .raw (.int .u64 0), .raw (.int .u64 0), .raw (.int .u64 0), .i 0, .i 0, .list 0 [] .full]), (30, (Enc.cells (x1 : Tr)))])) ?_ ?_
 intro or2 h hr2
 refine ze ?_
 refine zcw (k0 := 0) (id := 7) 7 (by kernel_rfl) (by kernel_rfl) ?_
 refine h_o (a := .A (b : Bd)) ?_
 refine h_o (a := .A (x : Tr)) ?_
 obtain ⟨x7, hx7, h⟩ := zj h
 refine zni (args' := [.A (x : Tr)]) (r := .A (x7 : Bd)) (by rw [← hx7]; exact (zrd x _ rfl)) ?_
 refine zt2 (.b (decide (b ≠ x7))) rfl rfl rfl (zyk b x7 rfl rfl rfl) (by dsimp only [zn, List.set]) ?_
 refine zu h (fun hc8 h => ?_) (fun hc8 h => ?_)
 refine h_o (a := .b true) (h := zbg rfl hc8) ?_
 refine zkb ?_
 refine zkb ?_
 refine zdr ?_
 refine w_r [.p, .v (.b true)] ?_
 refine zbo rfl ?_
 refine zc (k0 := 0) (id := 8) ?_
 refine zbs (zhz _ rfl) ?_
 refine zbk 2 (.B [(30, (Enc.cells (x : Tr))), (62, (Enc.cells ((Bd.mk 0 (-1)) : Bd))), (30, [.u 0, .raw (.int .u64 0), .raw (.int .u64 0), .raw (.int .u64 0), .raw (.int .u64 0), .i 0, .i 0, .list 0 [] .full]), (30, (Enc.cells (x1 : Tr)))]) ?_
 refine zg (o := or2) ((Bd.mk 0 (-1))) h ?_
 exact zc7 (bl 73 28)
 refine h_o (a := .b false) (h := zbg rfl hc8) ?_
 refine zgi rfl rfl ?_
 refine h_o (a := .A (b : Bd)) ?_
 refine zgi rfl rfl ?_
 refine zni (zhz _ rfl) ?_
 refine zdr ?_
 refine zac rfl rfl ?_
 refine zj6 (.b (decide (b = (Bd.mk 0 (-1))))) rfl rfl rfl (ze2 b (Bd.mk 0 (-1)) rfl rfl rfl) (by dsimp only [zn, List.set]) ?_
 refine w_o (a := .b (decide (b = (Bd.mk 0 (-1))))) ?_
 refine zbu h (fun hc9 h => ?_) (fun hc9 h => ?_)
 refine zc (k0 := 0) (id := 8) ?_
 refine zbs (zhz _ rfl) ?_
 refine zbk 2 (.B [(30, (Enc.cells (x : Tr))), (62, (Enc.cells ((Bd.mk 0 (-1)) : Bd))), (30, [.u 0, .raw (.int .u64 0), .raw (.int .u64 0), .raw (.int .u64 0), .raw (.int .u64 0), .i 0, .i 0, .list 0 [] .full]), (30, (Enc.cells (x1 : Tr)))]) ?_
 refine zg (o := or2) ((Bd.mk 0 (-1))) h ?_
 exact zc7 (bl 73 28)
 refine zg (o := or2) (b) h ?_
 exact zc7 (bl 73 28)
 intro j2 h
 refine zf8 ?_
 refine ze ?_
 refine zcw (k0 := 0) (id := 9) 8 (by kernel_rfl) (by kernel_rfl) ?_
 refine h_o (a := .ptr 0 7) ?_
 refine h_o (a := .L (x.l : List Tr)) ?_
 obtain ⟨g4, h⟩ := zh h
 obtain ⟨x8, hx8, h⟩ := zj h
 refine h_ix hx8 g4 ?_
 refine h_o (a := .A (x8 : Tr)) ?_
 refine h_o (a := .ptr 1 0) ?_
 refine h_o (a := .i j2.lo) ?_
 refine h_o (a := .ptr 1 1) ?_
 refine h_o (a := .i j2.mo) ?_
 refine zdr ?_
 obtain ⟨g5, h⟩ := zh h
 obtain ⟨x9, hx9, h⟩ := zj h
 refine zbs (args' := [.A (x8 : Tr), .i j2.lo, .i j2.mo]) (r := .A (x9 : Tr)) (by rw [← hx9]; exact (zic x8 j2.lo j2.mo g5)) ?_
 refine zbk 8 (.B [(30, (Enc.cells (x : Tr))), (62, (Enc.cells (j2 : Bd))), (30, (Enc.cells (x9 : Tr))), (30, (Enc.cells (x1 : Tr)))]) ?_
 replace h := zp h hr1
 exact zal (fun (r : Tr) => .A (r : Tr)) h (.A (x9 : Tr))
 refine ze ?_
 refine zcw (k0 := 0) (id := 10) 2 (by kernel_rfl) (by kernel_rfl) ?_
 refine h_o (a := .A (b : Bd)) ?_
 refine zni (zh0 _ rfl) ?_
 refine zdr ?_
 refine zj6 (.b (decide (b = (Bd.mk 1 (-1))))) rfl rfl rfl (ze2 b (Bd.mk 1 (-1)) rfl rfl rfl) (by dsimp only [zn, List.set]) ?_
 refine zu h (fun hc10 h => ?_) (fun hc10 h => ?_)
 refine zau hc10 ?_
 refine zac rfl rfl ?_
 refine w_o (a := .A (x : Tr)) ?_
 refine zac rfl rfl ?_
 obtain ⟨g6, h⟩ := zh h
 obtain ⟨x10, hx10, h⟩ := zj h
 refine zbs (args' := [.A (x : Tr)]) (r := .b x10) (by rw [← hx10]; exact (zm1 x g6)) ?_
 refine w_r [.v (.b x10), .m _] ?_
 refine zbu h (fun hc11 h => ?_) (fun hc11 h => ?_)
 refine zw [.v (.A (x : Tr))] ?_
 obtain ⟨g7, h⟩ := zh h
 obtain ⟨x11, hx11, h⟩ := zj h
 refine zbs (args' := [.A (x : Tr), .i 0, .i (-1)]) (r := .A (x11 : Tr)) (by rw [← hx11]; exact (zic x (0 : Int) (-1) g7)) ?_
 refine zbk 8 (.B [(30, (Enc.cells (x : Tr))), (62, (Enc.cells (b : Bd))), (30, (Enc.cells (x11 : Tr))), (30, (Enc.cells (x1 : Tr)))]) ?_
 replace h := zp h hr1
 exact zal (fun (r : Tr) => .A (r : Tr)) h (.A (x11 : Tr))
 refine zg (o := or1) () h ?_
 exact zc7 (bl 73 48)
 refine zau hc10 ?_
 refine w_r [.p, .p, .v (.b false), .m _] ?_
 refine zav rfl ?_
 refine zg (o := or1) () h ?_
 exact zc7 (bl 73 48)
 refine zau hc6 ?_
 refine w_r [.p, .p, .p, .v (.b false), .m _] ?_
 refine zav rfl ?_
 refine ze ?_
 refine zcw (k0 := 0) (id := 10) 2 (by kernel_rfl) (by kernel_rfl) ?_
 refine h_o (a := .A (b : Bd)) ?_
 refine zni (zh0 _ rfl) ?_
 refine zdr ?_
 refine zj6 (.b (decide (b = (Bd.mk 1 (-1))))) rfl rfl rfl (ze2 b (Bd.mk 1 (-1)) rfl rfl rfl) (by dsimp only [zn, List.set]) ?_
 refine zu h (fun hc12 h => ?_) (fun hc12 h => ?_)
 refine zau hc12 ?_
 refine zac rfl rfl ?_
 refine w_o (a := .A (x : Tr)) ?_
 refine zac rfl rfl ?_
 obtain ⟨g8, h⟩ := zh h
 obtain ⟨x12, hx12, h⟩ := zj h
 refine zbs (args' := [.A (x : Tr)]) (r := .b x12) (by rw [← hx12]; exact (zm1 x g8)) ?_
 refine w_r [.v (.b x12), .m _] ?_
 refine zbu h (fun hc13 h => ?_) (fun hc13 h => ?_)
 refine zw [.v (.A (x : Tr))] ?_
 obtain ⟨g9, h⟩ := zh h
 obtain ⟨x13, hx13, h⟩ := zj h
 refine zbs (args' := [.A (x : Tr), .i 0, .i (-1)]) (r := .A (x13 : Tr)) (by rw [← hx13]; exact (zic x (0 : Int) (-1) g9)) ?_
 refine zbk 8 (.B [(30, (Enc.cells (x : Tr))), (62, (Enc.cells (b : Bd))), (30, (Enc.cells (x13 : Tr))), (30, (Enc.cells (x1 : Tr)))]) ?_
 replace h := zp h hr1
 exact zal (fun (r : Tr) => .A (r : Tr)) h (.A (x13 : Tr))
 refine zg (o := or1) () h ?_
 exact zc7 (bl 73 48)
 refine zau hc12 ?_
 refine w_r [.p, .p, .v (.b false), .m _] ?_
 refine zav rfl ?_
 refine zg (o := or1) () h ?_
 exact zc7 (bl 73 48)
 refine zau hc5 ?_
 refine w_r [.p, .p, .v (.b false), .m _, .p] ?_
 refine w_r [.p, .p, .v (.b false), .m _] ?_
 refine zav rfl ?_
 refine ze ?_
 refine zcw (k0 := 0) (id := 10) 2 (by kernel_rfl) (by kernel_rfl) ?_
 refine h_o (a := .A (b : Bd)) ?_
 refine zni (zh0 _ rfl) ?_
 refine zdr ?_
 refine zj6 (.b (decide (b = (Bd.mk 1 (-1))))) rfl rfl rfl (ze2 b (Bd.mk 1 (-1)) rfl rfl rfl) (by dsimp only [zn, List.set]) ?_
 refine zu h (fun hc14 h => ?_) (fun hc14 h => ?_)
 refine zau hc14 ?_
 refine zac rfl rfl ?_
 refine w_o (a := .A (x : Tr)) ?_
 refine zac rfl rfl ?_
 obtain ⟨g10, h⟩ := zh h
 obtain ⟨x14, hx14, h⟩ := zj h
 refine zbs (args' := [.A (x : Tr)]) (r := .b x14) (by rw [← hx14]; exact (zm1 x g10)) ?_
 refine w_r [.v (.b x14), .m _] ?_
 refine zbu h (fun hc15 h => ?_) (fun hc15 h => ?_)
 refine zw [.v (.A (x : Tr))] ?_
 obtain ⟨g11, h⟩ := zh h
 obtain ⟨x15, hx15, h⟩ := zj h
 refine zbs (args' := [.A (x : Tr), .i 0, .i (-1)]) (r := .A (x15 : Tr)) (by rw [← hx15]; exact (zic x (0 : Int) (-1) g11)) ?_
 refine zbk 8 (.B [(30, (Enc.cells (x : Tr))), (62, (Enc.cells (b : Bd))), (30, (Enc.cells (x15 : Tr))), (30, (Enc.cells (x1 : Tr)))]) ?_
 replace h := zp h hr1
 exact zal (fun (r : Tr) => .A (r : Tr)) h (.A (x15 : Tr))
 refine zg (o := or1) () h ?_
 exact zc7 (bl 73 48)
 refine zau hc14 ?_
 refine w_r [.p, .p, .v (.b false), .m _] ?_
 refine zav rfl ?_
 refine zg (o := or1) () h ?_
 exact zc7 (bl 73 48)
 refine zau hc3 ?_
 refine w_r [.p, .p, .v (.b false), .m _] ?_
 refine zav rfl ?_
 refine zw [.v (.ptr 0 0), .v (.u ((x.k : Nat) : Int)), .v (.b (((x.k : Nat) : Int) == 5))] ?_
 refine zu h (fun hc16 h => ?_) (fun hc16 h => ?_)
 refine zau hc16 ?_
 refine zac rfl rfl ?_
 refine w_o (a := .A (b : Bd)) ?_
 refine zac rfl rfl ?_
 obtain ⟨x16, hx16, h⟩ := zj h
 refine zbs (args' := [.A (b : Bd)]) (r := .b x16) (by rw [← hx16]; exact (znr b)) ?_
 refine w_o (a := .b x16) ?_
 refine zu h (fun hc17 h => ?_) (fun hc17 h => ?_)
 refine zau hc17 ?_
 refine zac rfl rfl ?_
 refine w_o (a := .A (x : Tr)) ?_
 refine zac rfl rfl ?_
 obtain ⟨x17, hx17, h⟩ := zj h
 refine zbs (args' := [.A (x : Tr)]) (r := .A (x17 : Bd)) (by rw [← hx17]; exact (zrd x _ rfl)) ?_
 refine zac rfl rfl ?_
 obtain ⟨x18, hx18, h⟩ := zj h
 refine zbs (args' := [.A (x17 : Bd)]) (r := .b x18) (by rw [← hx18]; exact (znr x17)) ?_
 refine w_r [.v (.b x18), .m _] ?_
 refine zbu h (fun hc18 h => ?_) (fun hc18 h => ?_)
 refine za0 h (bz 0 73 9444732965739290427363) (fun j3 => []) (fun j3 => (.B [(30, (Enc.cells (x : Tr))), (62, (Enc.cells (j3 : Bd))), (30, [.u 0, .raw (.int .u64 0), .raw (.int .u64 0), .raw (.int .u64 0), .raw (.int .u64 0), .i 0, .i 0, .list 0 [] .full]), (30, (Enc.cells (x1 : Tr)))])) ?_ ?_
 intro or3 h hr3
 refine ze ?_
 refine zcw (k0 := 0) (id := 7) 7 (by kernel_rfl) (by kernel_rfl) ?_
 refine h_o (a := .A (b : Bd)) ?_
 refine h_o (a := .A (x : Tr)) ?_
 obtain ⟨x19, hx19, h⟩ := zj h
 refine zni (args' := [.A (x : Tr)]) (r := .A (x19 : Bd)) (by rw [← hx19]; exact (zrd x _ rfl)) ?_
 refine zt2 (.b (decide (b ≠ x19))) rfl rfl rfl (zyk b x19 rfl rfl rfl) (by dsimp only [zn, List.set]) ?_
 refine zu h (fun hc19 h => ?_) (fun hc19 h => ?_)
 refine h_o (a := .b true) (h := zbg rfl hc19) ?_
 refine zkb ?_
 refine zkb ?_
 refine zdr ?_
 refine w_r [.p, .v (.b true)] ?_
 refine zbo rfl ?_
 refine zc (k0 := 0) (id := 8) ?_
 refine zbs (zhz _ rfl) ?_
 refine zbk 2 (.B [(30, (Enc.cells (x : Tr))), (62, (Enc.cells ((Bd.mk 0 (-1)) : Bd))), (30, [.u 0, .raw (.int .u64 0), .raw (.int .u64 0), .raw (.int .u64 0), .raw (.int .u64 0), .i 0, .i 0, .list 0 [] .full]), (30, (Enc.cells (x1 : Tr)))]) ?_
 refine zg (o := or3) ((Bd.mk 0 (-1))) h ?_
 exact zc7 (bl 73 28)
 refine h_o (a := .b false) (h := zbg rfl hc19) ?_
 refine zgi rfl rfl ?_
 refine h_o (a := .A (b : Bd)) ?_
 refine zgi rfl rfl ?_
 refine zni (zhz _ rfl) ?_
 refine zdr ?_
 refine zac rfl rfl ?_
 refine zj6 (.b (decide (b = (Bd.mk 0 (-1))))) rfl rfl rfl (ze2 b (Bd.mk 0 (-1)) rfl rfl rfl) (by dsimp only [zn, List.set]) ?_
 refine w_o (a := .b (decide (b = (Bd.mk 0 (-1))))) ?_
 refine zbu h (fun hc20 h => ?_) (fun hc20 h => ?_)
 refine zc (k0 := 0) (id := 8) ?_
 refine zbs (zhz _ rfl) ?_
 refine zbk 2 (.B [(30, (Enc.cells (x : Tr))), (62, (Enc.cells ((Bd.mk 0 (-1)) : Bd))), (30, [.u 0, .raw (.int .u64 0), .raw (.int .u64 0), .raw (.int .u64 0), .raw (.int .u64 0), .i 0, .i 0, .list 0 [] .full]), (30, (Enc.cells (x1 : Tr)))]) ?_
 refine zg (o := or3) ((Bd.mk 0 (-1))) h ?_
 exact zc7 (bl 73 28)
 refine zg (o := or3) (b) h ?_
 exact zc7 (bl 73 28)
 intro j3 h
 refine zf8 ?_
 refine ze ?_
 refine zcw (k0 := 0) (id := 9) 8 (by kernel_rfl) (by kernel_rfl) ?_
 refine h_o (a := .ptr 0 7) ?_
 refine h_o (a := .L (x.l : List Tr)) ?_
 obtain ⟨g12, h⟩ := zh h
 obtain ⟨x20, hx20, h⟩ := zj h
 refine h_ix hx20 g12 ?_
 refine h_o (a := .A (x20 : Tr)) ?_
 refine h_o (a := .ptr 1 0) ?_
 refine h_o (a := .i j3.lo) ?_
 refine h_o (a := .ptr 1 1) ?_
 refine h_o (a := .i j3.mo) ?_
 refine zdr ?_
 obtain ⟨g13, h⟩ := zh h
 obtain ⟨x21, hx21, h⟩ := zj h
 refine zbs (args' := [.A (x20 : Tr), .i j3.lo, .i j3.mo]) (r := .A (x21 : Tr)) (by rw [← hx21]; exact (zic x20 j3.lo j3.mo g13)) ?_
 refine zbk 8 (.B [(30, (Enc.cells (x : Tr))), (62, (Enc.cells (j3 : Bd))), (30, (Enc.cells (x21 : Tr))), (30, (Enc.cells (x1 : Tr)))]) ?_
 replace h := zp h hr1
 exact zal (fun (r : Tr) => .A (r : Tr)) h (.A (x21 : Tr))
 refine ze ?_
 refine zcw (k0 := 0) (id := 10) 2 (by kernel_rfl) (by kernel_rfl) ?_
 refine h_o (a := .A (b : Bd)) ?_
 refine zni (zh0 _ rfl) ?_
 refine zdr ?_
 refine zj6 (.b (decide (b = (Bd.mk 1 (-1))))) rfl rfl rfl (ze2 b (Bd.mk 1 (-1)) rfl rfl rfl) (by dsimp only [zn, List.set]) ?_
 refine zu h (fun hc21 h => ?_) (fun hc21 h => ?_)
 refine zau hc21 ?_
 refine zac rfl rfl ?_
 refine w_o (a := .A (x : Tr)) ?_
 refine zac rfl rfl ?_
 obtain ⟨g14, h⟩ := zh h
 obtain ⟨x22, hx22, h⟩ := zj h
 refine zbs (args' := [.A (x : Tr)]) (r := .b x22) (by rw [← hx22]; exact (zm1 x g14)) ?_
 refine w_r [.v (.b x22), .m _] ?_
 refine zbu h (fun hc22 h => ?_) (fun hc22 h => ?_)
 refine zw [.v (.A (x : Tr))] ?_
 obtain ⟨g15, h⟩ := zh h
 obtain ⟨x23, hx23, h⟩ := zj h
 refine zbs (args' := [.A (x : Tr), .i 0, .i (-1)]) (r := .A (x23 : Tr)) (by rw [← hx23]; exact (zic x (0 : Int) (-1) g15)) ?_
 refine zbk 8 (.B [(30, (Enc.cells (x : Tr))), (62, (Enc.cells (b : Bd))), (30, (Enc.cells (x23 : Tr))), (30, (Enc.cells (x1 : Tr)))]) ?_
 replace h := zp h hr1
 exact zal (fun (r : Tr) => .A (r : Tr)) h (.A (x23 : Tr))
 refine zg (o := or1) () h ?_
 exact zc7 (bl 73 48)
 refine zau hc21 ?_
 refine w_r [.p, .p, .v (.b false), .m _] ?_
 refine zav rfl ?_
 refine zg (o := or1) () h ?_
 exact zc7 (bl 73 48)
 refine zau hc17 ?_
 refine w_r [.p, .p, .p, .v (.b false), .m _] ?_
 refine zav rfl ?_
 refine ze ?_
 refine zcw (k0 := 0) (id := 10) 2 (by kernel_rfl) (by kernel_rfl) ?_
 refine h_o (a := .A (b : Bd)) ?_
 refine zni (zh0 _ rfl) ?_
 refine zdr ?_
 refine zj6 (.b (decide (b = (Bd.mk 1 (-1))))) rfl rfl rfl (ze2 b (Bd.mk 1 (-1)) rfl rfl rfl) (by dsimp only [zn, List.set]) ?_
 refine zu h (fun hc23 h => ?_) (fun hc23 h => ?_)
 refine zau hc23 ?_
 refine zac rfl rfl ?_
 refine w_o (a := .A (x : Tr)) ?_
 refine zac rfl rfl ?_
 obtain ⟨g16, h⟩ := zh h
 obtain ⟨x24, hx24, h⟩ := zj h
 refine zbs (args' := [.A (x : Tr)]) (r := .b x24) (by rw [← hx24]; exact (zm1 x g16)) ?_
 refine w_r [.v (.b x24), .m _] ?_
 refine zbu h (fun hc24 h => ?_) (fun hc24 h => ?_)
 refine zw [.v (.A (x : Tr))] ?_
 obtain ⟨g17, h⟩ := zh h
 obtain ⟨x25, hx25, h⟩ := zj h
 refine zbs (args' := [.A (x : Tr), .i 0, .i (-1)]) (r := .A (x25 : Tr)) (by rw [← hx25]; exact (zic x (0 : Int) (-1) g17)) ?_
 refine zbk 8 (.B [(30, (Enc.cells (x : Tr))), (62, (Enc.cells (b : Bd))), (30, (Enc.cells (x25 : Tr))), (30, (Enc.cells (x1 : Tr)))]) ?_
 replace h := zp h hr1
 exact zal (fun (r : Tr) => .A (r : Tr)) h (.A (x25 : Tr))
 refine zg (o := or1) () h ?_
 exact zc7 (bl 73 48)
 refine zau hc23 ?_
 refine w_r [.p, .p, .v (.b false), .m _] ?_
 refine zav rfl ?_
 refine zg (o := or1) () h ?_
 exact zc7 (bl 73 48)
 refine zau hc16 ?_
 refine w_r [.p, .p, .v (.b false), .m _, .p] ?_
 refine w_r [.p, .p, .v (.b false), .m _] ?_
 refine zav rfl ?_
 refine ze ?_
 refine zcw (k0 := 0) (id := 10) 2 (by kernel_rfl) (by kernel_rfl) ?_
 refine h_o (a := .A (b : Bd)) ?_
 refine zni (zh0 _ rfl) ?_
 refine zdr ?_
 refine zj6 (.b (decide (b = (Bd.mk 1 (-1))))) rfl rfl rfl (ze2 b (Bd.mk 1 (-1)) rfl rfl rfl) (by dsimp only [zn, List.set]) ?_
 refine zu h (fun hc25 h => ?_) (fun hc25 h => ?_)
 refine zau hc25 ?_
 refine zac rfl rfl ?_
 refine w_o (a := .A (x : Tr)) ?_
 refine zac rfl rfl ?_
 obtain ⟨g18, h⟩ := zh h
 obtain ⟨x26, hx26, h⟩ := zj h
 refine zbs (args' := [.A (x : Tr)]) (r := .b x26) (by rw [← hx26]; exact (zm1 x g18)) ?_
 refine w_r [.v (.b x26), .m _] ?_
 refine zbu h (fun hc26 h => ?_) (fun hc26 h => ?_)
 refine zw [.v (.A (x : Tr))] ?_
 obtain ⟨g19, h⟩ := zh h
 obtain ⟨x27, hx27, h⟩ := zj h
 refine zbs (args' := [.A (x : Tr), .i 0, .i (-1)]) (r := .A (x27 : Tr)) (by rw [← hx27]; exact (zic x (0 : Int) (-1) g19)) ?_
 refine zbk 8 (.B [(30, (Enc.cells (x : Tr))), (62, (Enc.cells (b : Bd))), (30, (Enc.cells (x27 : Tr))), (30, (Enc.cells (x1 : Tr)))]) ?_
 replace h := zp h hr1
 exact zal (fun (r : Tr) => .A (r : Tr)) h (.A (x27 : Tr))
 refine zg (o := or1) () h ?_
 exact zc7 (bl 73 48)
 refine zau hc25 ?_
 refine w_r [.p, .p, .v (.b false), .m _] ?_
 refine zav rfl ?_
 refine zg (o := or1) () h ?_
 exact zc7 (bl 73 48)
 intro j1 h
 refine zf8 ?_
 refine zw [.v (.A (x1 : Tr))] ?_
 refine zbk 8 (.B [(30, (Enc.cells (x : Tr))), (62, (Enc.cells (b : Bd))), (30, (Enc.cells (x1 : Tr))), (30, (Enc.cells (x1 : Tr)))]) ?_
 exact zal (fun (r : Tr) => .A (r : Tr)) h (.A (x1 : Tr))
def zjb (x : Tr) (y : Tr) : Option Bool :=
 (bif (((x.k : Nat) : Int) == 5) then (bif (decide ((Bd.mk x.mn x.mx) = (Bd.mk 0 (-1)))) then (chk (0 ≤ (0 : Int) ∧ (0 : Int) < (List.length x.l : Int)) (zan (ix x.l (0 : Int)) (fun x1 => (chk ((pre x1).length < 2 ^ 61 ∧ (pre y).length < 2 ^ 61) (zan (zfc x1 y) (fun x2 => (some x2))))))) else (some false)) else (some false))
theorem ent65 : Ent Try.prog 65 := enters_of Try.func65 (by kernel_rfl) rfl
theorem zug (x : Tr) (y : Tr) (r : Bool) (h : zjb x y = some r) : Pure (ITP Try.prog) Try.prog 65 [.A (x : Tr), .A (y : Tr)] (.raw (.bool r)) := by
 unfold zjb at h
 refine zaw 23 mix Try.func65 ent65 ?_
 refine ze (zc ?_)
 refine zbc (a := .ptr 0 0) (σ'' := (.B [(30, (Enc.cells (x : Tr)))])) ?_
 refine zbc (a := .ptr 1 0) (σ'' := (.B [(30, (Enc.cells (x : Tr))), (30, (Enc.cells (y : Tr)))])) ?_
 refine w_o (a := .b false) ?_
 refine ze ?_
 refine zcw (k0 := 0) (id := 1) 18 (by kernel_rfl) (by kernel_rfl) ?_
 refine h_o (a := .ptr 0 0) ?_
 refine h_o (a := .u ((x.k : Nat) : Int)) ?_
 refine h_o (a := .b (((x.k : Nat) : Int) == 5)) ?_
 refine zu h (fun hc1 h => ?_) (fun hc1 h => ?_)
 refine h_o (a := .b true) (h := zbg rfl hc1) ?_
 refine zgi rfl rfl ?_
 refine h_o (a := .ptr 0 5) ?_
 refine zgi rfl rfl ?_
 refine h_o (a := .i x.mn) ?_
 refine zgi rfl rfl ?_
 refine h_o (a := .ptr 0 6) ?_
 refine zgi rfl rfl ?_
 refine h_o (a := .i x.mx) ?_
 refine zgi rfl rfl ?_
 refine h_o (a := .A ((Bd.mk x.mn x.mx) : Bd)) ?_
 refine zgi rfl rfl ?_
 refine zni (zhz _ rfl) ?_
 refine zgi rfl rfl ?_
 refine zt2 (.b (decide ((Bd.mk x.mn x.mx) = (Bd.mk 0 (-1))))) rfl rfl rfl (ze2 (Bd.mk x.mn x.mx) (Bd.mk 0 (-1)) rfl rfl rfl) (by dsimp only [zn, List.set]) ?_
 refine h_o (a := .b (decide ((Bd.mk x.mn x.mx) = (Bd.mk 0 (-1))))) ?_
 refine zu h (fun hc2 h => ?_) (fun hc2 h => ?_)
 refine h_o (a := .b true) (h := zbg rfl hc2) ?_
 refine zgi rfl rfl ?_
 refine h_o (a := .ptr 0 7) ?_
 refine zgi rfl rfl ?_
 refine h_o (a := .L (x.l : List Tr)) ?_
 refine zgi rfl rfl ?_
 obtain ⟨g1, h⟩ := zh h
 obtain ⟨x1, hx1, h⟩ := zj h
 refine h_ix hx1 g1 ?_
 refine zgi rfl rfl ?_
 refine h_o (a := .A (x1 : Tr)) ?_
 refine zgi rfl rfl ?_
 refine h_o (a := .A (y : Tr)) ?_
 refine zdr ?_
 refine zac rfl rfl ?_
 obtain ⟨g2, h⟩ := zh h
 obtain ⟨x2, hx2, h⟩ := zj h
 refine zbs (args' := [.A (x1 : Tr), .A (y : Tr)]) (r := .b x2) (by rw [← hx2]; exact (zmo x1 y g2)) ?_
 refine w_r [.v (.b x2), .m _] ?_
 exact za4 h
 refine h_o (a := .b false) (h := zbg rfl hc2) ?_
 refine zkb ?_
 refine zkb ?_
 refine zkb ?_
 refine zkb ?_
 refine zkb ?_
 refine zdr ?_
 refine w_r [.p, .v (.b false), .m _] ?_
 exact za4 h
 refine h_o (a := .b false) (h := zbg rfl hc1) ?_
 refine zkb ?_
 refine zkb ?_
 refine zkb ?_
 refine zkb ?_
 refine zkb ?_
 refine zkb ?_
 refine zkb ?_
 refine h_o (a := .b false) ?_
 refine zgc ?_
 refine zkb ?_
 refine zkb ?_
 refine zkb ?_
 refine zkb ?_
 refine zkb ?_
 refine zdr ?_
 refine w_r [.p, .v (.b false), .m _] ?_
 exact za4 h
def zld (x : Tr) (y : Tr) : Option (Tr × Bool) :=
 (zdo (τ := Unit) (chk ((pre x).length < 2 ^ 60) (zan (plainT x) (fun x1 => (bif (!x1) then (some (Sum.inr (noneT, false))) else (chk ((pre y).length < 2 ^ 60) (zan (plainT y) (fun x2 => (bif (!x2) then (some (Sum.inr (noneT, false))) else (za3 (zjb y x) (fun x3 => (bif x3 then (za3 (zf2 x (Bd.mk 1 (-1))) (fun x4 => (some (Sum.inr (x4, true))))) else (za3 (zjb x y) (fun x5 => (bif x5 then (za3 (zf2 y (Bd.mk 1 (-1))) (fun x6 => (some (Sum.inr (x6, true))))) else (chk ((pre x).length < 2 ^ 61 ∧ (pre y).length < 2 ^ 61) (zan (zfc x y) (fun x7 => (bif x7 then (bif (((x.k : Nat) : Int) == 5) then (zan (Bd.mk x.mn x.mx) (fun x8 => (bif (decide (x8 = (Bd.mk 0 (-1)))) then (some (Sum.inr (x, true))) else (some (Sum.inl ()))))) else (some (Sum.inl ()))) else (some (Sum.inl ())))))))))))))))))))) (fun j1 => (some (noneT, false))))
theorem ent56 : Ent Try.prog 56 := enters_of Try.func56 (by kernel_rfl) rfl
theorem z4l (x : Tr) (y : Tr) (r : (Tr × Bool)) (h : zld x y = some r) : Pure (ITP Try.prog) Try.prog 56 [.A (x : Tr), .A (y : Tr)] (.tup [.A (r.1 : Tr), .raw (.bool r.2)]) := by
 unfold zld at h
 refine zaw 45 mix Try.func56 ent56 ?_
 refine ze (zc ?_)
 refine zbc (a := .ptr 0 0) (σ'' := (.B [(30, (Enc.cells (x : Tr)))])) ?_
 refine zbc (a := .ptr 1 0) (σ'' := (.B [(30, (Enc.cells (x : Tr))), (30, (Enc.cells (y : Tr)))])) ?_
 refine zbc (a := .ptr 2 0) (σ'' := (.B [(30, (Enc.cells (x : Tr))), (30, (Enc.cells (y : Tr))), (30, [.u 0, .raw (.int .u64 0), .raw (.int .u64 0), .raw (.int .u64 0), .raw (.int .u64 0), .i 0, .i 0, .list 0 [] .full])])) ?_
 refine w_o (a := .b false) ?_
 refine za0 h (bz 0 47 140737488355311) (fun j1 => []) (fun j1 => (.B [(30, (Enc.cells (x : Tr))), (30, (Enc.cells (y : Tr))), (30, [.u 0, .raw (.int .u64 0), .raw (.int .u64 0), .raw (.int .u64 0), .raw (.int .u64 0), .i 0, .i 0, .list 0 [] .full])])) ?_ ?_
 intro or1 h hr1
 refine zr ?_
 refine zw [.v (.A (x : Tr))] ?_
 obtain ⟨g1, h⟩ := zh h
 obtain ⟨x1, hx1, h⟩ := zj h
 refine zbs (args' := [.A (x : Tr)]) (r := .b x1) (by rw [← hx1]; exact (zlx x g1)) ?_
 refine w_o (a := .b (!x1)) ?_
 refine zu h (fun hc1 h => ?_) (fun hc1 h => ?_)
 refine zau hc1 ?_
 refine w_r [.p, .p, .p, .v (.b true), .m _] ?_
 refine zbo rfl ?_
 refine ze (zc ?_)
 refine zcd (.A (noneT : Tr)) (a0 := (zbf noneT .full)) rfl rfl rfl (by kernel_rfl) (zi _ _) (by dsimp only [zn, List.set]) ?_
 refine zbk 8 (.B [(30, (Enc.cells (x : Tr))), (30, (Enc.cells (y : Tr))), (30, (Enc.cells (noneT : Tr)))]) ?_
 refine w_o (a := .b false) ?_
 replace h := zp h hr1
 exact zal (fun (r : (Tr × Bool)) => .tup [.A (r.1 : Tr), .b r.2]) h (.tup [.A (noneT : Tr), .b false])
 refine zau hc1 ?_
 refine zac rfl rfl ?_
 refine w_o (a := .A (y : Tr)) ?_
 refine zac rfl rfl ?_
 obtain ⟨g2, h⟩ := zh h
 obtain ⟨x2, hx2, h⟩ := zj h
 refine zbs (args' := [.A (y : Tr)]) (r := .b x2) (by rw [← hx2]; exact (zlx y g2)) ?_
 refine w_r [.v (.b (!x2)), .v (.b (!x2)), .m _] ?_
 refine zbu h (fun hc2 h => ?_) (fun hc2 h => ?_)
 refine ze (zc ?_)
 refine zcd (.A (noneT : Tr)) (a0 := (zbf noneT .full)) rfl rfl rfl (by kernel_rfl) (zi _ _) (by dsimp only [zn, List.set]) ?_
 refine zbk 8 (.B [(30, (Enc.cells (x : Tr))), (30, (Enc.cells (y : Tr))), (30, (Enc.cells (noneT : Tr)))]) ?_
 refine w_o (a := .b false) ?_
 replace h := zp h hr1
 exact zal (fun (r : (Tr × Bool)) => .tup [.A (r.1 : Tr), .b r.2]) h (.tup [.A (noneT : Tr), .b false])
 refine zw [.v (.A (y : Tr)), .v (.A (x : Tr))] ?_
 obtain ⟨x3, hx3, h⟩ := zaa h
 refine zbs (zug y x x3 hx3) ?_
 refine zab ?_
 refine zbu h (fun hc3 h => ?_) (fun hc3 h => ?_)
 refine ze ?_
 refine zcw (k0 := 0) (id := 4) 2 (by kernel_rfl) (by kernel_rfl) ?_
 refine h_o (a := .A (x : Tr)) ?_
 refine zni (zh0 _ rfl) ?_
 refine zdr ?_
 obtain ⟨x4, hx4, h⟩ := zaa h
 refine zbs (zil x (Bd.mk 1 (-1)) x4 hx4) ?_
 refine zbk 8 (.B [(30, (Enc.cells (x : Tr))), (30, (Enc.cells (y : Tr))), (30, (Enc.cells (x4 : Tr)))]) ?_
 refine w_o (a := .b true) ?_
 replace h := zp h hr1
 exact zal (fun (r : (Tr × Bool)) => .tup [.A (r.1 : Tr), .b r.2]) h (.tup [.A (x4 : Tr), .b true])
 refine zw [.v (.A (x : Tr)), .v (.A (y : Tr))] ?_
 obtain ⟨x5, hx5, h⟩ := zaa h
 refine zbs (zug x y x5 hx5) ?_
 refine zab ?_
 refine zbu h (fun hc4 h => ?_) (fun hc4 h => ?_)
 refine ze ?_
 refine zcw (k0 := 0) (id := 6) 2 (by kernel_rfl) (by kernel_rfl) ?_
 refine h_o (a := .A (y : Tr)) ?_
 refine zni (zh0 _ rfl) ?_
 refine zdr ?_
 obtain ⟨x6, hx6, h⟩ := zaa h
 refine zbs (zil y (Bd.mk 1 (-1)) x6 hx6) ?_
 refine zbk 8 (.B [(30, (Enc.cells (x : Tr))), (30, (Enc.cells (y : Tr))), (30, (Enc.cells (x6 : Tr)))]) ?_
 refine w_o (a := .b true) ?_
 replace h := zp h hr1
 exact zal (fun (r : (Tr × Bool)) => .tup [.A (r.1 : Tr), .b r.2]) h (.tup [.A (x6 : Tr), .b true])
 refine zw [.v (.A (x : Tr)), .v (.A (y : Tr))] ?_
 obtain ⟨g3, h⟩ := zh h
 obtain ⟨x7, hx7, h⟩ := zj h
 refine zbs (args' := [.A (x : Tr), .A (y : Tr)]) (r := .b x7) (by rw [← hx7]; exact (zmo x y g3)) ?_
 refine zu h (fun hc5 h => ?_) (fun hc5 h => ?_)
 refine zau hc5 ?_
 refine w_r [.v (.ptr 0 0), .v (.u ((x.k : Nat) : Int)), .v (.b (((x.k : Nat) : Int) == 5)), .v (.b (((x.k : Nat) : Int) == 5))] ?_
 refine zu h (fun hc6 h => ?_) (fun hc6 h => ?_)
 refine zau hc6 ?_
 refine zac rfl rfl ?_
 refine w_o (a := .A (x : Tr)) ?_
 refine zac rfl rfl ?_
 obtain ⟨x8, hx8, h⟩ := zj h
 refine zbs (args' := [.A (x : Tr)]) (r := .A (x8 : Bd)) (by rw [← hx8]; exact (zrd x _ rfl)) ?_
 refine zac rfl rfl ?_
 refine zbs (zhz _ rfl) ?_
 refine zac rfl rfl ?_
 refine zj6 (.b (decide (x8 = (Bd.mk 0 (-1))))) rfl rfl rfl (ze2 x8 (Bd.mk 0 (-1)) rfl rfl rfl) (by dsimp only [zn, List.set]) ?_
 refine w_r [.v (.b (decide (x8 = (Bd.mk 0 (-1))))), .m _] ?_
 refine zbu h (fun hc7 h => ?_) (fun hc7 h => ?_)
 refine zw [.v (.A (x : Tr))] ?_
 refine zbk 8 (.B [(30, (Enc.cells (x : Tr))), (30, (Enc.cells (y : Tr))), (30, (Enc.cells (x : Tr)))]) ?_
 refine w_o (a := .b true) ?_
 replace h := zp h hr1
 exact zal (fun (r : (Tr × Bool)) => .tup [.A (r.1 : Tr), .b r.2]) h (.tup [.A (x : Tr), .b true])
 refine zg (o := or1) () h ?_
 exact zc7 (bl 47 16)
 refine zau hc6 ?_
 refine w_r [.p, .p, .p, .p, .v (.b false)] ?_
 refine w_r [.m _] ?_
 refine zav rfl ?_
 refine zg (o := or1) () h ?_
 exact zc7 (bl 47 16)
 refine zau hc5 ?_
 refine w_r [.p, .p, .p, .v (.b false), .m _] ?_
 refine w_r [.p, .p, .p, .p, .v (.b false)] ?_
 refine w_r [.m _] ?_
 refine zav rfl ?_
 refine zg (o := or1) () h ?_
 exact zc7 (bl 47 16)
 intro j1 h
 refine zf8 ?_
 refine ze (zc ?_)
 refine zcd (.A (noneT : Tr)) (a0 := (zbf noneT .full)) rfl rfl rfl (by kernel_rfl) (zi _ _) (by dsimp only [zn, List.set]) ?_
 refine zbk 8 (.B [(30, (Enc.cells (x : Tr))), (30, (Enc.cells (y : Tr))), (30, (Enc.cells (noneT : Tr)))]) ?_
 refine w_o (a := .b false) ?_
 exact zal (fun (r : (Tr × Bool)) => .tup [.A (r.1 : Tr), .b r.2]) h (.tup [.A (noneT : Tr), .b false])
def zw6 (t : Tr) : Option Bool :=
 (chk ((pre t).length < 2 ^ 61) (zan (zbj t) (fun x1 => (bif x1 then (chk ((pre t).length < 2 ^ 60) (zan (plainT t) (fun x2 => (some x2)))) else (some false)))))
theorem ent8 : Ent Try.prog 8 := enters_of Try.func8 (by kernel_rfl) rfl
theorem z7h (t : Tr) (r : Bool) (h : zw6 t = some r) : Pure (ITP Try.prog) Try.prog 8 [.A (t : Tr)] (.raw (.bool r)) := by
 unfold zw6 at h
 refine zaw 8 mix Try.func8 ent8 ?_
 refine ze (zc ?_)
 refine zbc (a := .ptr 0 0) (σ'' := (.B [(30, (Enc.cells (t : Tr)))])) ?_
 refine w_o (a := .b false) ?_
 refine zw [.v (.A (t : Tr))] ?_
 obtain ⟨g1, h⟩ := zh h
 obtain ⟨x1, hx1, h⟩ := zj h
 refine zbs (args' := [.A (t : Tr)]) (r := .b x1) (by rw [← hx1]; exact (zl7 t g1)) ?_
 refine zu h (fun hc1 h => ?_) (fun hc1 h => ?_)
 refine zau hc1 ?_
 refine zac rfl rfl ?_
 refine w_o (a := .A (t : Tr)) ?_
 refine zac rfl rfl ?_
 obtain ⟨g2, h⟩ := zh h
 obtain ⟨x2, hx2, h⟩ := zj h
 refine zbs (args' := [.A (t : Tr)]) (r := .b x2) (by rw [← hx2]; exact (zlx t g2)) ?_
 refine w_r [.v (.b x2), .m _] ?_
 exact za4 h
 refine zau hc1 ?_
 refine w_r [.p, .p, .v (.b false), .m _] ?_
 exact za4 h
def zmh (t : Tr) : Option Bool :=
 (chk ((pre t).length < 2 ^ 61) (zan (zbj t) (fun x1 => (bif x1 then (chk (((pre t).length < 2 ^ 60 ∧ crT t = true)) (zan (zbx t) (fun x2 => (some x2)))) else (some false)))))
theorem ent14 : Ent Try.prog 14 := enters_of Try.func14 (by kernel_rfl) rfl
theorem zxb (t : Tr) (r : Bool) (h : zmh t = some r) : Pure (ITP Try.prog) Try.prog 14 [.A (t : Tr)] (.raw (.bool r)) := by
 unfold zmh at h
 refine zaw 8 mix Try.func14 ent14 ?_
 refine ze (zc ?_)
 refine zbc (a := .ptr 0 0) (σ'' := (.B [(30, (Enc.cells (t : Tr)))])) ?_
 refine w_o (a := .b false) ?_
 refine zw [.v (.A (t : Tr))] ?_
 obtain ⟨g1, h⟩ := zh h
 obtain ⟨x1, hx1, h⟩ := zj h
 refine zbs (args' := [.A (t : Tr)]) (r := .b x1) (by rw [← hx1]; exact (zl7 t g1)) ?_
 refine zu h (fun hc1 h => ?_) (fun hc1 h => ?_)
 refine zau hc1 ?_
 refine zac rfl rfl ?_
 refine w_o (a := .A (t : Tr)) ?_
 refine zac rfl rfl ?_
 obtain ⟨g2, h⟩ := zh h
 obtain ⟨x2, hx2, h⟩ := zj h
 refine zbs (args' := [.A (t : Tr)]) (r := .b x2) (by rw [← hx2]; exact (zm1 t g2)) ?_
 refine w_r [.v (.b x2), .m _] ?_
 exact za4 h
 refine zau hc1 ?_
 refine w_r [.p, .p, .v (.b false), .m _] ?_
 exact za4 h
def zq2 (y : Tr) (x : Tr) : Option Bool :=
 (chk ((pre x).length < 2 ^ 61 ∧ (pre y).length < 2 ^ 61) (zan (zfc x y) (fun x1 => (some x1))))
theorem ent67 : Ent Try.prog 67 := enters_of Try.func67 (by kernel_rfl) rfl
theorem cap1_sh (y : Tr) (x : Tr) (r : Bool) (h : zq2 y x = some r) : Pure (ITP Try.prog) Try.prog 67 [.A (y : Tr), .iptr (Enc.cells (x : Tr))] (.raw (.bool r)) := by
 unfold zq2 at h
 refine zaw 5 mix Try.func67 ent67 ?_
 refine ze (zc ?_)
 refine zbc (a := .ptr 0 0) (σ'' := (.B [(30, (Enc.cells (y : Tr)))])) ?_
 refine w_o (a := .b false) ?_
 refine zw [.v (.A (x : Tr)), .v (.A (y : Tr))] ?_
 obtain ⟨g1, h⟩ := zh h
 obtain ⟨x1, hx1, h⟩ := zj h
 refine zbs (args' := [.A (x : Tr), .A (y : Tr)]) (r := .b x1) (by rw [← hx1]; exact (zmo x y g1)) ?_
 refine zab ?_
 exact za4 h
def zhn (fuel : Nat) (l : (List Tr)) : Option Tr :=
 (zdo (τ := (List Tr)) (zch (β := (List Tr) × Int) (fun s1 => (bif (decide (s1.2 < (List.length l : Int))) then (zdo (τ := (List Tr)) (chk (0 ≤ s1.2 ∧ s1.2 < (List.length l : Int)) (zan (ix l s1.2) (fun x1 => (chk ((pre x1).length < 2 ^ 60) (zan (plainT x1) (fun x2 => (bif (!x2) then (chk ((List.length s1.1 + List.length [x1]) * 80 ≤ 140737488355328) (some (Sum.inl ((s1.1 ++ [x1]))))) else (za3 (z33 fuel (fun y => zq2 y x1) s1.1) (fun x3 => (bif (!x3) then (chk ((List.length s1.1 + List.length [x1]) * 80 ≤ 140737488355328) (some (Sum.inl ((s1.1 ++ [x1]))))) else (some (Sum.inl (s1.1))))))))))))) (fun j2 => (chk (-9223372036854775808 ≤ (s1.2 + 1) ∧ (s1.2 + 1) < 9223372036854775808) (some (Sum.inl (j2, (s1.2 + 1))))))) else (some (Sum.inr (Sum.inl (s1.1)))))) fuel (([] : (List Tr)), 0)) (fun j1 => (chk ((zai j1).length ≤ 2 ^ 40) (zan (orT j1) (fun x4 => (some x4))))))
theorem ent58 : Ent Try.prog 58 := enters_of Try.func58 (by kernel_rfl) rfl
theorem zxs (fuel : Nat) (l : (List Tr)) (r : Tr) (h : zhn fuel l = some r) : Pure (ITP Try.prog) Try.prog 58 [.L (l : List Tr)] (.A (r : Tr)) := by
 unfold zhn at h
 refine zaw 27 mix Try.func58 ent58 ?_
 refine ze (zc ?_)
 refine zbc (a := .ptr 0 0) (σ'' := (.B [(30, [.u 0, .raw (.int .u64 0), .raw (.int .u64 0), .raw (.int .u64 0), .raw (.int .u64 0), .i 0, .i 0, .list 0 [] .full])])) ?_
 refine zw [.v (.list 0 [] .full)] ?_
 refine za0 h (bz 0 28 268435451) (fun j1 => [(3, (.O (j1 : List Tr)))]) (fun j1 => (zc0 [(30, [.u 0, .raw (.int .u64 0), .raw (.int .u64 0), .raw (.int .u64 0), .raw (.int .u64 0), .i 0, .i 0, .list 0 [] .full])] 30 (List.length (j1 : List Tr)) 8)) ?_ ?_
 intro or1 h hr1
 refine zw [.m _, .v (.i (List.length l : Int)), .v (.i 0)] ?_
 refine zr ?_
 refine zcf h (bz 0 28 268435259) (fun s1 => [(3, (.O (s1.1 : List Tr))), (8, .i s1.2)]) (fun s1 => (zc0 [(30, [.u 0, .raw (.int .u64 0), .raw (.int .u64 0), .raw (.int .u64 0), .raw (.int .u64 0), .i 0, .i 0, .list 0 [] .full])] 30 (List.length (s1.1 : List Tr)) 8)) ?_ ?_
 exact zc7 (bl 28 460)
 intro s1 p1 h
 refine zf8 ?_
 refine zw [.v (.b (decide (s1.2 < (List.length l : Int))))] ?_
 refine ze ?_
 refine zbu h (fun hc1 h => ?_) (fun hc1 h => ?_)
 refine za0 h (bz 0 25 33553960) (fun j2 => [(3, (.O (j2 : List Tr)))]) (fun j2 => (zc0 [(30, [.u 0, .raw (.int .u64 0), .raw (.int .u64 0), .raw (.int .u64 0), .raw (.int .u64 0), .i 0, .i 0, .list 0 [] .full])] 30 (List.length (j2 : List Tr)) 8)) ?_ ?_
 intro or2 h hr2
 refine zr ?_
 refine ze (zc ?_)
 obtain ⟨g1, h⟩ := zh h
 obtain ⟨x1, hx1, h⟩ := zj h
 refine zzn hx1 g1 ?_
 refine w_o (a := .A (x1 : Tr)) ?_
 refine zbc (a := .ptr 1 0) (σ'' := (zc0 [(30, [.u 0, .raw (.int .u64 0), .raw (.int .u64 0), .raw (.int .u64 0), .raw (.int .u64 0), .i 0, .i 0, .list 0 [] .full]), (30, [.u 0, .raw (.int .u64 0), .raw (.int .u64 0), .raw (.int .u64 0), .raw (.int .u64 0), .i 0, .i 0, .list 0 [] .full])] 30 (List.length (s1.1 : List Tr)) 8)) ?_
 refine zbk 8 (zc0 [(30, [.u 0, .raw (.int .u64 0), .raw (.int .u64 0), .raw (.int .u64 0), .raw (.int .u64 0), .i 0, .i 0, .list 0 [] .full]), (30, (Enc.cells (x1 : Tr)))] 30 (List.length (s1.1 : List Tr)) 8) ?_
 refine zw [.v (.A (x1 : Tr))] ?_
 obtain ⟨g2, h⟩ := zh h
 obtain ⟨x2, hx2, h⟩ := zj h
 refine zbs (args' := [.A (x1 : Tr)]) (r := .b x2) (by rw [← hx2]; exact (zlx x1 g2)) ?_
 refine w_o (a := .b (!x2)) ?_
 refine zu h (fun hc2 h => ?_) (fun hc2 h => ?_)
 refine zau hc2 ?_
 refine w_r [.p, .p, .p, .p, .v (.b true)] ?_
 refine zbo rfl ?_
 refine zc (k0 := 0) (id := 6) ?_
 refine w_r [.m _, .v (.A (x1 : Tr))] ?_
 refine w_o (a := .F ([x1] : List Tr)) (h := za2 (zcj (α := Tr) (l := [x1]) (cs := Enc.cells (x1 : Tr) ++ []) rfl (by rw [Enc.cons, Enc.nil]))) ?_
 obtain ⟨g3, h⟩ := zh h
 refine zii (a := (.O ((s1.1 ++ [x1]) : List Tr))) (σ'' := (zc0 [(30, [.u 0, .raw (.int .u64 0), .raw (.int .u64 0), .raw (.int .u64 0), .raw (.int .u64 0), .i 0, .i 0, .list 0 [] .full]), (30, (Enc.cells (x1 : Tr)))] 30 (List.length ((s1.1 ++ [x1]) : List Tr)) 8)) rfl rfl rfl (zck rfl rfl rfl rfl (zd2 (α := Tr) (bs := [(30, [.u 0, .raw (.int .u64 0), .raw (.int .u64 0), .raw (.int .u64 0), .raw (.int .u64 0), .i 0, .i 0, .list 0 [] .full]), (30, (Enc.cells (x1 : Tr)))]) (a := s1.1) (b := [x1]) g3 rfl rfl rfl rfl rfl ⟨rfl, by decide⟩)) (by dsimp only [zn, List.set]) rfl ?_
 refine zab ?_
 refine zg (o := or2) ((s1.1 ++ [x1])) h ?_
 exact zb3 (bl 28 234881503) 1 (by kernel_rfl) (Nat.le_of_ble_eq_true rfl) (zba (zv rfl rfl)) (by dsimp only [zz, zad, List.foldl, List.set, bz, bzc, Nat.reduceMod, Nat.reduceDiv, Nat.reduceBEq, Nat.reduceAdd]; exact (zb rfl (zb rfl (zb (by decide) (zb (zbp (Enc.cloL _)) (zb rfl (zb rfl (zb (zah (Enc.cloL _)) (by kernel_rfl))))))))) (by kernel_rfl)
 refine zau hc2 ?_
 refine w_r [.m _, .v (.clos 67 [.ptr 1 0])] ?_
 refine zac rfl rfl ?_
 obtain ⟨x3, hx3, h⟩ := zaa h
 refine z4u 1 (args' := [.L (s1.1 : List Tr), .clos 67 [.iptr (Enc.cells (x1 : Tr))]]) (r := .b x3) (z74 fuel (fun y => zq2 y x1) s1.1 x3 67 (.iptr (Enc.cells (x1 : Tr))) (zza (Enc.clo _)) (fun y z h => cap1_sh y x1 z h) hx3) rfl rfl (zf5 (zxk (α := Tr) _ _) (zf5 (congrArg (fun z => AV.clos 67 [AV.iptr z]) (zce _ _ (Enc.clo _))) znb)) rfl (by dsimp only [zn, List.set]) ?_
 refine w_r [.v (.b (!x3)), .v (.b (!x3))] ?_
 refine zbu h (fun hc3 h => ?_) (fun hc3 h => ?_)
 refine zc (k0 := 0) (id := 6) ?_
 refine w_r [.m _, .v (.A (x1 : Tr))] ?_
 refine w_o (a := .F ([x1] : List Tr)) (h := za2 (zcj (α := Tr) (l := [x1]) (cs := Enc.cells (x1 : Tr) ++ []) rfl (by rw [Enc.cons, Enc.nil]))) ?_
 obtain ⟨g4, h⟩ := zh h
 refine zii (a := (.O ((s1.1 ++ [x1]) : List Tr))) (σ'' := (zc0 [(30, [.u 0, .raw (.int .u64 0), .raw (.int .u64 0), .raw (.int .u64 0), .raw (.int .u64 0), .i 0, .i 0, .list 0 [] .full]), (30, (Enc.cells (x1 : Tr)))] 30 (List.length ((s1.1 ++ [x1]) : List Tr)) 8)) rfl rfl rfl (zck rfl rfl rfl rfl (zd2 (α := Tr) (bs := [(30, [.u 0, .raw (.int .u64 0), .raw (.int .u64 0), .raw (.int .u64 0), .raw (.int .u64 0), .i 0, .i 0, .list 0 [] .full]), (30, (Enc.cells (x1 : Tr)))]) (a := s1.1) (b := [x1]) g4 rfl rfl rfl rfl rfl ⟨rfl, by decide⟩)) (by dsimp only [zn, List.set]) rfl ?_
 refine zab ?_
 refine zg (o := or2) ((s1.1 ++ [x1])) h ?_
 exact zb3 (bl 28 234881503) 1 (by kernel_rfl) (Nat.le_of_ble_eq_true rfl) (zba (zv rfl rfl)) (by dsimp only [zz, zad, List.foldl, List.set, bz, bzc, Nat.reduceMod, Nat.reduceDiv, Nat.reduceBEq, Nat.reduceAdd]; exact (zb rfl (zb rfl (zb (by decide) (zb (zbp (Enc.cloL _)) (zb rfl (zb rfl (zb (zah (Enc.cloL _)) (by kernel_rfl))))))))) (by kernel_rfl)
 refine zg (o := or2) (s1.1) h ?_
 exact zb3 (bl 28 234881503) 1 (by kernel_rfl) (Nat.le_of_ble_eq_true rfl) (zba (zv rfl rfl)) (by dsimp only [zz, zad, List.foldl, List.set, bz, bzc, Nat.reduceMod, Nat.reduceDiv, Nat.reduceBEq, Nat.reduceAdd]; exact (zb rfl (zb rfl (zb (by decide) (zb (zbp (Enc.cloL _)) (zb rfl (zb rfl (zb (zah (Enc.cloL _)) (by kernel_rfl))))))))) (by kernel_rfl)
 intro j2 h
 refine zf8 ?_
 refine zc (k0 := 0) (id := 7) ?_
 obtain ⟨g5, h⟩ := zh h
 refine zwt g5 ?_
 refine zab ?_
 refine zbb (p := p1) (j2, (s1.2 + 1)) h ?_
 exact zc7 (bl 28 460)
 refine zae h (fun h => ?_)
 refine zg (o := or1) (s1.1) h ?_
 exact zc7 (bl 28 12)
 intro j1 h
 refine zf8 ?_
 refine zw [.m _] ?_
 obtain ⟨g6, h⟩ := zh h
 obtain ⟨x4, hx4, h⟩ := zj h
 refine zbs (args' := [.L (j1 : List Tr)]) (r := .A (x4 : Tr)) (by rw [← hx4]; exact (k_or j1 g6)) ?_
 refine zbk 8 (zc0 [(30, (Enc.cells (x4 : Tr)))] 30 (List.length (j1 : List Tr)) 8) ?_
 exact zal (fun (r : Tr) => .A (r : Tr)) h (.A (x4 : Tr))
end Go.Ab
