/-
  TraceTells: reparteeref33.
-/
import Derived.Test.YtcdmdnadilafhaaGreatDoorZyRx
import Derived.Test.YtcdmdnadilafhaaGreatDoorZdQr
set_option linter.unusedSimpArgs false
set_option linter.unusedVariables false
set_option maxRecDepth 100000
set_option maxHeartbeats 4000000
namespace Go.Ab
open Go Go.RowKit Go.Fwd Go.Proofs
def zji (fuel : Nat) (t : Trc) : Option (Int × Int) :=
 (bif (decide ((List.length t.l : Int) > 65536)) then (some ((-1), 5)) else (zcr (τ := Unit) (zbh (β := Int × Int) (fun s1 => (bif (decide (s1.2 < (List.length t.l : Int))) then (zcr (τ := Int) (chk (0 ≤ s1.2 ∧ s1.2 < (List.length t.l : Int)) (za7 (ix t.l s1.2) (fun x1 => (z1 (zf8 x1 s1.1) (fun x2 => (bif (!x2) then (some (Sum.inr (Sum.inr (Sum.inr (s1.2, 330))))) else (bif (x1.k != 1) then (some (Sum.inl (x1.to))) else (some (Sum.inl (s1.1)))))))))) (fun j2 => (chk (-9223372036854775808 ≤ (s1.2 + 1) ∧ (s1.2 + 1) < 9223372036854775808) (some (Sum.inl (j2, (s1.2 + 1))))))) else (some (Sum.inr (Sum.inl ()))))) fuel (0, 0)) (fun j1 => (z1 (zjh t.e) (fun x3 => (bif (!x3) then (some ((-1), 331)) else (some ((-1), 0))))))))
theorem ent35 : Ent Tryz.prog 35 := enters_of Tryz.func35 (by kernel_rfl) rfl
theorem zxa (fuel : Nat) (t : Trc) (r : (Int × Int)) (h : zji fuel t = some r) : Pure (ITP Tryz.prog) Tryz.prog 35 [.A (t : Trc)] (.tup [.raw (.int .i64 r.1), .raw (.int .i64 r.2)]) := by
 unfold zji at h
 refine zah 36 mix Tryz.func35 ent35 ?_
 refine zj (zc ?_)
 refine zbr (a := .ptr 0 0) (σ'' := (.B [(34, (Enc.cells (t : Trc)))])) ?_
 refine w_r [.v (.i 0), .v (.i 0)] ?_
 refine zj ?_
 refine zk [.v (.ptr 0 0), .v (.L (t.l : List En)), .v (.i (List.length t.l : Int)), .v (.b (decide ((List.length t.l : Int) > 65536)))] ?_
 refine za3 h (fun hc1 h => ?_) (fun hc1 h => ?_)
 refine zk [.v (.i (-1)), .v (.i 5)] ?_
 exact zam (fun (r : (Int × Int)) => .tup [.i r.1, .i r.2]) h (.tup [.i (-1), .i 5])
 refine zk [.v (.i 0)] ?_
 refine zaf h (bz 0 37 137438953469) (fun j1 => []) (fun j1 => (.B [(34, (Enc.cells (t : Trc)))])) ?_ ?_
 intro or1 h hr1
 refine zk [.v (.i 0)] ?_
 refine zr ?_
 refine zap h (bz 0 37 137438953469) (fun s1 => [(4, .i s1.1), (5, .i s1.2)]) (fun s1 => (.B [(34, (Enc.cells (t : Trc)))])) ?_ ?_
 exact zao (bl 37 50)
 intro s1 p1 h
 refine zbn ?_
 refine zj ?_
 refine zk [.m _, .v (.ptr 0 0), .v (.L (t.l : List En)), .v (.i (List.length t.l : Int)), .v (.b (decide (s1.2 < (List.length t.l : Int))))] ?_
 refine za3 h (fun hc2 h => ?_) (fun hc2 h => ?_)
 refine zaf h (bz 0 33 8589736028) (fun j2 => [(4, .i j2)]) (fun j2 => (.B [(34, (Enc.cells (t : Trc)))])) ?_ ?_
 intro or2 h hr2
 refine zr ?_
 refine zk [.v (.ptr 0 0), .v (.L (t.l : List En)), .m _] ?_
 obtain ⟨g1, h⟩ := zf h
 obtain ⟨x1, hx1, h⟩ := zo h
 refine zpi hx1 g1 ?_
 refine w_o (a := .A (x1 : En)) ?_
 refine zbr (a := .ptr 1 0) (σ'' := (.B [(34, (Enc.cells (t : Trc))), (67, (Enc.cells ((En.mk 0 0 0 []) : En)))])) ?_
 refine zcg 4 (.B [(34, (Enc.cells (t : Trc))), (67, (Enc.cells (x1 : En)))]) ?_
 refine zj ?_
 refine zk [.v (.A (x1 : En)), .m _] ?_
 obtain ⟨x2, hx2, h⟩ := zl h
 refine zbc (zfa x1 s1.1 x2 hx2) ?_
 refine w_o (a := .b (!x2)) ?_
 refine za3 h (fun hc3 h => ?_) (fun hc3 h => ?_)
 refine zk [.m _, .m _, .v (.i 330)] ?_
 replace h := zq h hr2
 refine zh h (fun h => ?_)
 replace h := zq h hr1
 exact zam (fun (r : (Int × Int)) => .tup [.i r.1, .i r.2]) h (.tup [.i s1.2, .i 330])
 refine zk [.v (.ptr 1 0), .v (.u x1.k), .v (.b (x1.k != 1))] ?_
 refine za3 h (fun hc4 h => ?_) (fun hc4 h => ?_)
 refine zc (k0 := 0) (id := 11) ?_
 refine w_r [.v (.ptr 1 2), .v (.i x1.to), .m _] ?_
 refine zg (o := or2) (x1.to) h ?_
 exact zcq (bl 37 128849217459) 1 (by kernel_rfl) (Nat.le_of_ble_eq_true rfl) (zco (za0 (zak _ _ (Enc.clo _)) rfl)) (by dsimp only [zbb, zb5, List.foldl, List.set, bz, bzc, Nat.reduceMod, Nat.reduceDiv, Nat.reduceBEq, Nat.reduceAdd]; exact (za rfl (za (by decide) (by kernel_rfl)))) (by kernel_rfl)
 refine zg (o := or2) (s1.1) h ?_
 exact zcq (bl 37 128849217459) 1 (by kernel_rfl) (Nat.le_of_ble_eq_true rfl) (zco (za0 (zak _ _ (Enc.clo _)) rfl)) (by dsimp only [zbb, zb5, List.foldl, List.set, bz, bzc, Nat.reduceMod, Nat.reduceDiv, Nat.reduceBEq, Nat.reduceAdd]; exact (za rfl (za (by decide) (by kernel_rfl)))) (by kernel_rfl)
 intro j2 h
 refine zbn ?_
 refine zc (k0 := 0) (id := 6) ?_
 refine zp ?_
 obtain ⟨g2, h⟩ := zf h
 refine zej g2 ?_
 refine zp ?_
 refine zz (p := p1) (j2, (s1.2 + 1)) h ?_
 exact zao (bl 37 50)
 refine zh h (fun h => ?_)
 refine zg (o := or1) () h ?_
 exact zao (bl 37 2)
 intro j1 h
 refine zbn ?_
 refine zj ?_
 refine zk [.v (.ptr 0 1), .v (.A (t.e : Ed))] ?_
 obtain ⟨x3, hx3, h⟩ := zl h
 refine zbc (zxr t.e x3 hx3) ?_
 refine w_o (a := .b (!x3)) ?_
 refine za3 h (fun hc5 h => ?_) (fun hc5 h => ?_)
 refine zk [.v (.i (-1)), .v (.i 331)] ?_
 exact zam (fun (r : (Int × Int)) => .tup [.i r.1, .i r.2]) h (.tup [.i (-1), .i 331])
 refine zk [.v (.i (-1)), .v (.i 0)] ?_
 exact zam (fun (r : (Int × Int)) => .tup [.i r.1, .i r.2]) h (.tup [.i (-1), .i 0])
def zj9 (fuel : Nat) (t : Trc) : Option (List UInt8) :=
 (zcr (τ := (List UInt8)) (zbh (β := (List UInt8) × Int) (fun s1 => (bif (decide (s1.2 < (List.length t.l : Int))) then (zcr (τ := (List UInt8)) (chk (0 ≤ s1.2 ∧ s1.2 < (List.length t.l : Int)) (za7 (ix t.l s1.2) (fun x1 => (bif (x1.k == 1) then (chk (0 ≤ s1.2 ∧ s1.2 < (List.length t.l : Int)) (za7 (ix t.l s1.2) (fun x2 => (chk (List.length s1.1 + List.length x2.b ≤ 9223372036854775807) (some (Sum.inl ((s1.1 ++ x2.b)))))))) else (some (Sum.inl (s1.1))))))) (fun j2 => (chk (-9223372036854775808 ≤ (s1.2 + 1) ∧ (s1.2 + 1) < 9223372036854775808) (some (Sum.inl (j2, (s1.2 + 1))))))) else (some (Sum.inr (Sum.inl (s1.1)))))) fuel (([] : List UInt8), 0)) (fun j1 => (some j1)))
theorem ent37 : Ent Tryz.prog 37 := enters_of Tryz.func37 (by kernel_rfl) rfl
theorem zvi (fuel : Nat) (t : Trc) (r : (List UInt8)) (h : zj9 fuel t = some r) : Pure (ITP Tryz.prog) Tryz.prog 37 [.A (t : Trc)] (.raw (.string (bs r))) := by
 unfold zj9 at h
 refine zah 27 mix Tryz.func37 ent37 ?_
 refine zj (zc ?_)
 refine zbr (a := .ptr 0 0) (σ'' := (.B [(34, (Enc.cells (t : Trc)))])) ?_
 refine w_o (a := .s ([] : List UInt8)) ?_
 refine zk [.v (.s ([] : List UInt8))] ?_
 refine zaf h (bz 0 28 268435455) (fun j1 => [(3, .s j1)]) (fun j1 => (.B [(34, (Enc.cells (t : Trc)))])) ?_ ?_
 intro or1 h hr1
 refine zk [.v (.i 0)] ?_
 refine zr ?_
 refine zap h (bz 0 28 268435453) (fun s1 => [(3, .s s1.1), (4, .i s1.2)]) (fun s1 => (.B [(34, (Enc.cells (t : Trc)))])) ?_ ?_
 exact zao (bl 28 26)
 intro s1 p1 h
 refine zbn ?_
 refine zj ?_
 refine zk [.m _, .v (.ptr 0 0), .v (.L (t.l : List En)), .v (.i (List.length t.l : Int)), .v (.b (decide (s1.2 < (List.length t.l : Int))))] ?_
 refine za3 h (fun hc1 h => ?_) (fun hc1 h => ?_)
 refine zaf h (bz 0 27 134214632) (fun j2 => [(3, .s j2)]) (fun j2 => (.B [(34, (Enc.cells (t : Trc)))])) ?_ ?_
 intro or2 h hr2
 refine zr ?_
 refine zk [.v (.ptr 0 0), .v (.L (t.l : List En)), .m _] ?_
 obtain ⟨g1, h⟩ := zf h
 obtain ⟨x1, hx1, h⟩ := zo h
 refine zpi hx1 g1 ?_
 refine w_r [.v (.iptr (List.drop 0 (Enc.cells x1 ++ Enc.cellsL (List.drop (Int.toNat s1.2 + 1) t.l)))), .v (.u x1.k), .v (.b (x1.k == 1))] ?_
 refine za3 h (fun hc2 h => ?_) (fun hc2 h => ?_)
 refine zc (k0 := 0) (id := 6) ?_
 refine w_r [.m _, .v (.ptr 0 0), .v (.L (t.l : List En)), .m _] ?_
 obtain ⟨g2, h⟩ := zf h
 obtain ⟨x2, hx2, h⟩ := zo h
 refine zpi hx2 g2 ?_
 refine w_r [.v (.iptr (List.drop 3 (Enc.cells x2 ++ Enc.cellsL (List.drop (Int.toNat s1.2 + 1) t.l)))), .v (.s x2.b)] ?_
 obtain ⟨g3, h⟩ := zf h
 refine w_o (a := .s (s1.1 ++ x2.b)) (h := zv (zad g3 rfl rfl rfl)) ?_
 refine zp ?_
 refine zg (o := or2) ((s1.1 ++ x2.b)) h ?_
 exact zao (bl 28 134220831)
 refine zg (o := or2) (s1.1) h ?_
 exact zao (bl 28 134220831)
 intro j2 h
 refine zbn ?_
 refine zc (k0 := 0) (id := 4) ?_
 refine zp ?_
 obtain ⟨g4, h⟩ := zf h
 refine zej g4 ?_
 refine zp ?_
 refine zz (p := p1) (j2, (s1.2 + 1)) h ?_
 exact zao (bl 28 26)
 refine zh h (fun h => ?_)
 refine zg (o := or1) (s1.1) h ?_
 exact zao (bl 28 8)
 intro j1 h
 refine zbn ?_
 refine zk [.m _, .m _] ?_
 exact zd7 h
def zh0 (fuel : Nat) (t : Trc) (k : Int) : Option Int :=
 (zcr (τ := Int) (zbh (β := Int × Int) (fun s1 => (bif (decide (s1.2 < (List.length t.l : Int))) then (zcr (τ := Int) (chk (0 ≤ s1.2 ∧ s1.2 < (List.length t.l : Int)) (za7 (ix t.l s1.2) (fun x1 => (bif (x1.k == k) then (chk (0 ≤ s1.2 ∧ s1.2 < (List.length t.l : Int)) (za7 (ix t.l s1.2) (fun x2 => (chk (-9223372036854775808 ≤ (s1.1 + x2.to) ∧ (s1.1 + x2.to) < 9223372036854775808) (chk (0 ≤ s1.2 ∧ s1.2 < (List.length t.l : Int)) (za7 (ix t.l s1.2) (fun x3 => (chk (-9223372036854775808 ≤ ((s1.1 + x2.to) - x3.fr) ∧ ((s1.1 + x2.to) - x3.fr) < 9223372036854775808) (some (Sum.inl (((s1.1 + x2.to) - x3.fr)))))))))))) else (some (Sum.inl (s1.1))))))) (fun j2 => (chk (-9223372036854775808 ≤ (s1.2 + 1) ∧ (s1.2 + 1) < 9223372036854775808) (some (Sum.inl (j2, (s1.2 + 1))))))) else (some (Sum.inr (Sum.inl (s1.1)))))) fuel (0, 0)) (fun j1 => (some j1)))
theorem ent38 : Ent Tryz.prog 38 := enters_of Tryz.func38 (by kernel_rfl) rfl
theorem zpt (fuel : Nat) (t : Trc) (k : Int) (r : Int) (h : zh0 fuel t k = some r) : Pure (ITP Tryz.prog) Tryz.prog 38 [.A (t : Trc), .raw (.int .u8 k)] (.raw (.int .i64 r)) := by
 unfold zh0 at h
 refine zah 36 mix Tryz.func38 ent38 ?_
 refine zj (zc ?_)
 refine zbr (a := .ptr 0 0) (σ'' := (.B [(34, (Enc.cells (t : Trc)))])) ?_
 refine w_o (a := .i 0) ?_
 refine zk [.v (.i 0)] ?_
 refine zaf h (bz 0 38 274877906943) (fun j1 => [(5, .i j1)]) (fun j1 => (.B [(34, (Enc.cells (t : Trc)))])) ?_ ?_
 intro or1 h hr1
 refine zk [.v (.i 0)] ?_
 refine zr ?_
 refine zap h (bz 0 38 274877906937) (fun s1 => [(5, .i s1.1), (6, .i s1.2)]) (fun s1 => (.B [(34, (Enc.cells (t : Trc)))])) ?_ ?_
 exact zao (bl 38 102)
 intro s1 p1 h
 refine zbn ?_
 refine zj ?_
 refine zk [.m _, .v (.ptr 0 0), .v (.L (t.l : List En)), .v (.i (List.length t.l : Int)), .v (.b (decide (s1.2 < (List.length t.l : Int))))] ?_
 refine za3 h (fun hc1 h => ?_) (fun hc1 h => ?_)
 refine zaf h (bz 0 37 137438941088) (fun j2 => [(5, .i j2)]) (fun j2 => (.B [(34, (Enc.cells (t : Trc)))])) ?_ ?_
 intro or2 h hr2
 refine zr ?_
 refine zk [.v (.ptr 0 0), .v (.L (t.l : List En)), .m _] ?_
 obtain ⟨g1, h⟩ := zf h
 obtain ⟨x1, hx1, h⟩ := zo h
 refine zpi hx1 g1 ?_
 refine w_r [.v (.iptr (List.drop 0 (Enc.cells x1 ++ Enc.cellsL (List.drop (Int.toNat s1.2 + 1) t.l)))), .v (.u x1.k), .m _, .v (.b (x1.k == k))] ?_
 refine za3 h (fun hc2 h => ?_) (fun hc2 h => ?_)
 refine zb3 (k0 := 0) (id := 6) 14 (by kernel_rfl) (by kernel_rfl) ?_
 refine zbg ?_
 refine h_o (a := .ptr 0 0) ?_
 refine h_o (a := .L (t.l : List En)) ?_
 refine zbg ?_
 obtain ⟨g2, h⟩ := zf h
 obtain ⟨x2, hx2, h⟩ := zo h
 refine zn8 hx2 g2 ?_
 refine h_o (a := .iptr (List.drop 2 (Enc.cells x2 ++ Enc.cellsL (List.drop (Int.toNat s1.2 + 1) t.l)))) ?_
 refine h_o (a := .i x2.to) ?_
 obtain ⟨g3, h⟩ := zf h
 refine h_o (a := .i (s1.1 + x2.to)) (h := ztt rfl rfl rfl rfl g3.1 g3.2) ?_
 refine h_o (a := .ptr 0 0) ?_
 refine h_o (a := .L (t.l : List En)) ?_
 refine zbg ?_
 obtain ⟨g4, h⟩ := zf h
 obtain ⟨x3, hx3, h⟩ := zo h
 refine zn8 hx3 g4 ?_
 refine h_o (a := .iptr (List.drop 1 (Enc.cells x3 ++ Enc.cellsL (List.drop (Int.toNat s1.2 + 1) t.l)))) ?_
 refine h_o (a := .i x3.fr) ?_
 refine zbq ?_
 obtain ⟨g5, h⟩ := zf h
 refine w_sb g5 ?_
 refine zp ?_
 refine zg (o := or2) (((s1.1 + x2.to) - x3.fr)) h ?_
 exact zao (bl 38 137438965887)
 refine zg (o := or2) (s1.1) h ?_
 exact zao (bl 38 137438965887)
 intro j2 h
 refine zbn ?_
 refine zc (k0 := 0) (id := 4) ?_
 refine zp ?_
 obtain ⟨g6, h⟩ := zf h
 refine zej g6 ?_
 refine zp ?_
 refine zz (p := p1) (j2, (s1.2 + 1)) h ?_
 exact zao (bl 38 102)
 refine zh h (fun h => ?_)
 refine zg (o := or1) (s1.1) h ?_
 exact zao (bl 38 32)
 intro j1 h
 refine zbn ?_
 refine zk [.m _, .m _] ?_
 exact zhx h
def zgg (fuel : Nat) (t : Trc) : Option (List UInt8) :=
 (zcr (τ := (List UInt8)) (zbh (β := (List UInt8) × Int) (fun s1 => (bif (decide (s1.2 < (List.length t.l : Int))) then (chk (0 ≤ s1.2 ∧ s1.2 < (List.length t.l : Int)) (za7 (ix t.l s1.2) (fun x1 => (z1 (zh7 fuel x1) (fun x2 => (chk (List.length s1.1 + List.length x2 ≤ 9223372036854775807) (chk (List.length (s1.1 ++ x2) + List.length ([10] : List UInt8) ≤ 9223372036854775807) (chk (-9223372036854775808 ≤ (s1.2 + 1) ∧ (s1.2 + 1) < 9223372036854775808) (some (Sum.inl (((s1.1 ++ x2) ++ ([10] : List UInt8)), (s1.2 + 1)))))))))))) else (some (Sum.inr (Sum.inl (s1.1)))))) fuel (([] : List UInt8), 0)) (fun j1 => (z1 (znm t.e) (fun x3 => (chk (List.length j1 + List.length x3 ≤ 9223372036854775807) (chk (List.length (j1 ++ x3) + List.length ([10] : List UInt8) ≤ 9223372036854775807) (some ((j1 ++ x3) ++ ([10] : List UInt8)))))))))
theorem ent39 : Ent Tryz.prog 39 := enters_of Tryz.func39 (by kernel_rfl) rfl
theorem zr2 (fuel : Nat) (t : Trc) (r : (List UInt8)) (h : zgg fuel t = some r) : Pure (ITP Tryz.prog) Tryz.prog 39 [.A (t : Trc)] (.raw (.string (bs r))) := by
 unfold zgg at h
 refine zah 26 mix Tryz.func39 ent39 ?_
 refine zj (zc ?_)
 refine zbr (a := .ptr 0 0) (σ'' := (.B [(34, (Enc.cells (t : Trc)))])) ?_
 refine w_o (a := .s ([] : List UInt8)) ?_
 refine zk [.v (.s ([] : List UInt8))] ?_
 refine zaf h (bz 0 27 134217725) (fun j1 => [(3, .s j1)]) (fun j1 => (.B [(34, (Enc.cells (t : Trc)))])) ?_ ?_
 intro or1 h hr1
 refine zk [.v (.i 0)] ?_
 refine zr ?_
 refine zap h (bz 0 27 134217725) (fun s1 => [(3, .s s1.1), (4, .i s1.2)]) (fun s1 => (.B [(34, (Enc.cells (t : Trc)))])) ?_ ?_
 exact zao (bl 27 26)
 intro s1 p1 h
 refine zbn ?_
 refine zj ?_
 refine zk [.m _, .v (.ptr 0 0), .v (.L (t.l : List En)), .v (.i (List.length t.l : Int)), .v (.b (decide (s1.2 < (List.length t.l : Int))))] ?_
 refine za3 h (fun hc1 h => ?_) (fun hc1 h => ?_)
 refine zj ?_
 refine zr ?_
 refine zc (k0 := 0) (id := 5) ?_
 refine w_r [.m _, .v (.ptr 0 0), .v (.L (t.l : List En)), .m _] ?_
 obtain ⟨g1, h⟩ := zf h
 obtain ⟨x1, hx1, h⟩ := zo h
 refine zpi hx1 g1 ?_
 refine w_o (a := .A (x1 : En)) ?_
 obtain ⟨x2, hx2, h⟩ := zl h
 refine zbc (ziu fuel x1 x2 hx2) ?_
 obtain ⟨g2, h⟩ := zf h
 refine w_o (a := .s (s1.1 ++ x2)) (h := zv (zad g2 rfl rfl rfl)) ?_
 obtain ⟨g3, h⟩ := zf h
 refine w_o (a := .s ((s1.1 ++ x2) ++ ([10] : List UInt8))) (h := zv (zad g3 rfl rfl rfl)) ?_
 refine zp ?_
 refine zc (k0 := 0) (id := 4) ?_
 refine zp ?_
 obtain ⟨g4, h⟩ := zf h
 refine zej g4 ?_
 refine zp ?_
 refine zz (p := p1) (((s1.1 ++ x2) ++ ([10] : List UInt8)), (s1.2 + 1)) h ?_
 exact zao (bl 27 26)
 refine zh h (fun h => ?_)
 refine zg (o := or1) (s1.1) h ?_
 exact zao (bl 27 10)
 intro j1 h
 refine zbn ?_
 refine zk [.m _, .v (.ptr 0 1), .v (.A (t.e : Ed))] ?_
 obtain ⟨x3, hx3, h⟩ := zl h
 refine zbc (z0n t.e x3 hx3) ?_
 obtain ⟨g5, h⟩ := zf h
 refine w_o (a := .s (j1 ++ x3)) (h := zv (zad g5 rfl rfl rfl)) ?_
 obtain ⟨g6, h⟩ := zf h
 refine w_o (a := .s ((j1 ++ x3) ++ ([10] : List UInt8))) (h := zv (zad g6 rfl rfl rfl)) ?_
 refine zp ?_
 exact zd7 h
end Go.Ab
