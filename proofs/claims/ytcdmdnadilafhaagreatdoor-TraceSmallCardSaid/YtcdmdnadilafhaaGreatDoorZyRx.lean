/-
  reparteeref33: lines, Read.
-/
import Derived.Test.YtcdmdnadilafhaaGreatDoorZyRn
import Derived.Test.YtcdmdnadilafhaaGreatDoorZyQc
import Derived.Test.YtcdmdnadilafhaaGreatDoorZyW4
import Derived.Test.YtcdmdnadilafhaaGreatDoorZdQr
set_option linter.unusedSimpArgs false
set_option linter.unusedVariables false
set_option maxRecDepth 100000
set_option maxHeartbeats 4000000
namespace Go.Ab
open Go Go.RowKit Go.Fwd Go.Proofs
def zf8 (e : En) (a : Int) : Option Bool :=
 (bif (e.k == 1) then (bif (e.fr == 0) then (bif (e.to == 0) then (some (decide ((List.length e.b : Int) ≤ 512))) else (some false)) else (some false)) else (zcr (τ := Unit) (bif (e.k != 2) then (bif (e.k != 3) then (some (Sum.inr false)) else (bif (!(e.b == ([] : List UInt8))) then (some (Sum.inr false)) else (some (Sum.inl ())))) else (bif (!(e.b == ([] : List UInt8))) then (some (Sum.inr false)) else (some (Sum.inl ())))) (fun j1 => (bif (e.fr != a) then (some false) else (bif (decide (e.to < e.fr)) then (some false) else (bif (decide (e.to > 1073741824)) then (some false) else (bif (e.k == 2) then (some true) else (some (decide (e.fr < e.to))))))))))
theorem ent61 : Ent Tryz.prog 61 := enters_of Tryz.func61 (by kernel_rfl) rfl
theorem zfa (e : En) (a : Int) (r : Bool) (h : zf8 e a = some r) : Pure (ITP Tryz.prog) Tryz.prog 61 [.A (e : En), .raw (.int .i64 a)] (.raw (.bool r)) := by
 unfold zf8 at h
 refine zah 59 mix Tryz.func61 ent61 ?_
 refine zj (zc ?_)
 refine zbr (a := .ptr 0 0) (σ'' := (.B [(67, (Enc.cells (e : En)))])) ?_
 refine w_o (a := .b false) ?_
 refine zj ?_
 refine zk [.v (.ptr 0 0), .v (.u e.k), .v (.b (e.k == 1))] ?_
 refine za3 h (fun hc1 h => ?_) (fun hc1 h => ?_)
 refine zk [.v (.ptr 0 1), .v (.i e.fr), .v (.b (e.fr == 0))] ?_
 refine zaa h (fun hc2 h => ?_) (fun hc2 h => ?_)
 refine zar hc2 ?_
 refine w_r [.v (.ptr 0 2), .v (.i e.to), .v (.b (e.to == 0)), .v (.b (e.to == 0))] ?_
 refine zaa h (fun hc3 h => ?_) (fun hc3 h => ?_)
 refine zar hc3 ?_
 refine w_r [.v (.ptr 0 3), .v (.s e.b)] ?_
 refine zai rfl rfl ?_
 refine w_o (a := .i (List.length e.b : Int)) (h := zv (zba rfl rfl rfl)) ?_
 refine w_r [.v (.b (decide ((List.length e.b : Int) ≤ 512))), .v (.b (decide ((List.length e.b : Int) ≤ 512))), .m _] ?_
 exact zaj h
 refine zar hc3 ?_
 refine w_r [.p, .p, .p, .p, .v (.b false)] ?_
 refine w_r [.m _] ?_
 exact zaj h
 refine zar hc2 ?_
 refine w_r [.p, .p, .p, .v (.b false), .m _] ?_
 refine w_r [.p, .p, .p, .p, .v (.b false)] ?_
 refine w_r [.m _] ?_
 exact zaj h
 refine zaf h (bz 0 61 2305843009213693945) (fun j1 => []) (fun j1 => (.B [(67, (Enc.cells (e : En)))])) ?_ ?_
 intro or1 h hr1
 refine zk [.v (.ptr 0 0), .v (.u e.k), .v (.b (e.k != 2))] ?_
 refine zaa h (fun hc4 h => ?_) (fun hc4 h => ?_)
 refine zar hc4 ?_
 refine w_r [.v (.ptr 0 0), .v (.u e.k), .v (.b (e.k != 3)), .v (.b (e.k != 3))] ?_
 refine zaa h (fun hc5 h => ?_) (fun hc5 h => ?_)
 refine zar hc5 ?_
 refine w_r [.p, .p, .p, .v (.b true)] ?_
 refine za6 rfl ?_
 refine zk [.v (.b false)] ?_
 replace h := zq h hr1
 exact zaj h
 refine zar hc5 ?_
 refine w_r [.v (.ptr 0 3), .v (.s e.b)] ?_
 refine zai rfl rfl ?_
 refine w_o (a := .b (!(e.b == ([] : List UInt8)))) (h := zv (zij rfl rfl rfl)) ?_
 refine w_o (a := .b (!(e.b == ([] : List UInt8)))) ?_
 refine za3 h (fun hc6 h => ?_) (fun hc6 h => ?_)
 refine zk [.v (.b false)] ?_
 replace h := zq h hr1
 exact zaj h
 refine zg (o := or1) () h ?_
 exact zao (bl 61 6)
 refine zar hc4 ?_
 refine w_r [.p, .p, .p, .v (.b false), .m _] ?_
 refine w_r [.v (.ptr 0 3), .v (.s e.b)] ?_
 refine zai rfl rfl ?_
 refine w_o (a := .b (!(e.b == ([] : List UInt8)))) (h := zv (zij rfl rfl rfl)) ?_
 refine w_o (a := .b (!(e.b == ([] : List UInt8)))) ?_
 refine za3 h (fun hc7 h => ?_) (fun hc7 h => ?_)
 refine zk [.v (.b false)] ?_
 replace h := zq h hr1
 exact zaj h
 refine zg (o := or1) () h ?_
 exact zao (bl 61 6)
 intro j1 h
 refine zbn ?_
 refine zj ?_
 refine zk [.v (.ptr 0 1), .v (.i e.fr), .m _, .v (.b (e.fr != a))] ?_
 refine zaa h (fun hc8 h => ?_) (fun hc8 h => ?_)
 refine zar hc8 ?_
 refine w_r [.p, .p, .p, .p, .p] ?_
 refine w_r [.v (.b true), .m _, .p, .p, .p] ?_
 refine w_r [.v (.b true)] ?_
 refine za6 rfl ?_
 refine zk [.v (.b false)] ?_
 exact zaj h
 refine zar hc8 ?_
 refine w_r [.v (.ptr 0 2), .v (.i e.to), .v (.ptr 0 1), .v (.i e.fr), .v (.b (decide (e.to < e.fr)))] ?_
 refine w_r [.v (.b (decide (e.to < e.fr)))] ?_
 refine zaa h (fun hc9 h => ?_) (fun hc9 h => ?_)
 refine zar hc9 ?_
 refine w_r [.p, .p, .p, .v (.b true)] ?_
 refine za6 rfl ?_
 refine zk [.v (.b false)] ?_
 exact zaj h
 refine zar hc9 ?_
 refine w_r [.v (.ptr 0 2), .v (.i e.to), .v (.b (decide (e.to > 1073741824))), .v (.b (decide (e.to > 1073741824)))] ?_
 refine za3 h (fun hc10 h => ?_) (fun hc10 h => ?_)
 refine zk [.v (.b false)] ?_
 exact zaj h
 refine zk [.v (.ptr 0 0), .v (.u e.k), .v (.b (e.k == 2))] ?_
 refine zaa h (fun hc11 h => ?_) (fun hc11 h => ?_)
 refine zar hc11 ?_
 refine w_r [.p, .p, .p, .p, .p] ?_
 refine w_r [.v (.b true), .m _] ?_
 exact zaj h
 refine zar hc11 ?_
 refine w_r [.v (.ptr 0 1), .v (.i e.fr), .v (.ptr 0 2), .v (.i e.to), .v (.b (decide (e.fr < e.to)))] ?_
 refine w_r [.v (.b (decide (e.fr < e.to))), .m _] ?_
 exact zaj h
def zjh (e : Ed) : Option Bool :=
 (bif (decide (e.k < 1)) then (some false) else (bif (decide (e.k > 5)) then (some false) else (bif (e.c == 0) then (some true) else (bif (e.k == 2) then (bif (decide (e.c > 0)) then (some (decide (e.c < 256))) else (some false)) else (some false)))))
theorem ent63 : Ent Tryz.prog 63 := enters_of Tryz.func63 (by kernel_rfl) rfl
theorem zxr (e : Ed) (r : Bool) (h : zjh e = some r) : Pure (ITP Tryz.prog) Tryz.prog 63 [.A (e : Ed)] (.raw (.bool r)) := by
 unfold zjh at h
 refine zah 28 mix Tryz.func63 ent63 ?_
 refine zj (zc ?_)
 refine zbr (a := .ptr 0 0) (σ'' := (.B [(32, (Enc.cells (e : Ed)))])) ?_
 refine w_o (a := .b false) ?_
 refine zj ?_
 refine zk [.v (.ptr 0 0), .v (.u e.k), .v (.b (decide (e.k < 1)))] ?_
 refine zaa h (fun hc1 h => ?_) (fun hc1 h => ?_)
 refine zar hc1 ?_
 refine w_r [.p, .p, .p, .v (.b true)] ?_
 refine za6 rfl ?_
 refine zk [.v (.b false)] ?_
 exact zaj h
 refine zar hc1 ?_
 refine w_r [.v (.ptr 0 0), .v (.u e.k), .v (.b (decide (e.k > 5))), .v (.b (decide (e.k > 5)))] ?_
 refine za3 h (fun hc2 h => ?_) (fun hc2 h => ?_)
 refine zk [.v (.b false)] ?_
 exact zaj h
 refine zk [.v (.ptr 0 1), .v (.i e.c), .v (.b (e.c == 0))] ?_
 refine zaa h (fun hc3 h => ?_) (fun hc3 h => ?_)
 refine zar hc3 ?_
 refine w_r [.p, .p, .p, .p, .p] ?_
 refine w_r [.p, .p, .p, .p, .p] ?_
 refine w_r [.p, .p, .p, .v (.b true), .m _] ?_
 exact zaj h
 refine zar hc3 ?_
 refine w_r [.v (.ptr 0 0), .v (.u e.k), .v (.b (e.k == 2))] ?_
 refine zai rfl rfl ?_
 refine zaa h (fun hc4 h => ?_) (fun hc4 h => ?_)
 refine zar hc4 ?_
 refine w_r [.v (.ptr 0 1), .v (.i e.c), .v (.b (decide (e.c > 0))), .v (.b (decide (e.c > 0)))] ?_
 refine zai rfl rfl ?_
 refine zaa h (fun hc5 h => ?_) (fun hc5 h => ?_)
 refine zar hc5 ?_
 refine w_r [.v (.ptr 0 1), .v (.i e.c), .v (.b (decide (e.c < 256))), .v (.b (decide (e.c < 256))), .v (.b (decide (e.c < 256)))] ?_
 refine w_r [.m _] ?_
 exact zaj h
 refine zar hc5 ?_
 refine w_r [.p, .p, .p, .v (.b false), .v (.b false)] ?_
 refine w_r [.m _] ?_
 exact zaj h
 refine zar hc4 ?_
 refine w_r [.p, .p, .p, .v (.b false), .m _] ?_
 refine w_r [.p, .p, .p, .v (.b false), .v (.b false)] ?_
 refine w_r [.m _] ?_
 exact zaj h
def zrk (fuel : Nat) (l : (List En)) : Option Int :=
 (zcr (τ := Int) (zbh (β := Int × Int) (fun s1 => (bif (decide (s1.2 < (List.length l : Int))) then (zcr (τ := Int) (chk (0 ≤ s1.2 ∧ s1.2 < (List.length l : Int)) (za7 (ix l s1.2) (fun x1 => (bif (x1.k != 1) then (chk (0 ≤ s1.2 ∧ s1.2 < (List.length l : Int)) (za7 (ix l s1.2) (fun x2 => (some (Sum.inl (x2.to)))))) else (some (Sum.inl (s1.1))))))) (fun j2 => (chk (-9223372036854775808 ≤ (s1.2 + 1) ∧ (s1.2 + 1) < 9223372036854775808) (some (Sum.inl (j2, (s1.2 + 1))))))) else (some (Sum.inr (Sum.inl (s1.1)))))) fuel (0, 0)) (fun j1 => (some j1)))
theorem ent32 : Ent Tryz.prog 32 := enters_of Tryz.func32 (by kernel_rfl) rfl
theorem zxt (fuel : Nat) (l : (List En)) (r : Int) (h : zrk fuel l = some r) : Pure (ITP Tryz.prog) Tryz.prog 32 [.L (l : List En)] (.raw (.int .i64 r)) := by
 unfold zrk at h
 refine zah 22 mix Tryz.func32 ent32 ?_
 refine zk [.v (.i 0)] ?_
 refine zk [.v (.i 0)] ?_
 refine zaf h (bz 0 23 8388607) (fun j1 => [(3, .i j1)]) (fun j1 => (.B [])) ?_ ?_
 intro or1 h hr1
 refine zk [.v (.i 0)] ?_
 refine zr ?_
 refine zap h (bz 0 23 8388606) (fun s1 => [(3, .i s1.1), (4, .i s1.2)]) (fun s1 => (.B [])) ?_ ?_
 exact zao (bl 23 25)
 intro s1 p1 h
 refine zbn ?_
 refine zj ?_
 refine zk [.m _, .m _, .v (.i (List.length l : Int)), .v (.b (decide (s1.2 < (List.length l : Int))))] ?_
 refine za3 h (fun hc1 h => ?_) (fun hc1 h => ?_)
 refine zaf h (bz 0 22 4192744) (fun j2 => [(3, .i j2)]) (fun j2 => (.B [])) ?_ ?_
 intro or2 h hr2
 refine zr ?_
 refine zk [.m _, .m _] ?_
 obtain ⟨g1, h⟩ := zf h
 obtain ⟨x1, hx1, h⟩ := zo h
 refine zpi hx1 g1 ?_
 refine w_r [.v (.iptr (List.drop 0 (Enc.cells x1 ++ Enc.cellsL (List.drop (Int.toNat s1.2 + 1) l)))), .v (.u x1.k), .v (.b (x1.k != 1))] ?_
 refine za3 h (fun hc2 h => ?_) (fun hc2 h => ?_)
 refine zc (k0 := 0) (id := 6) ?_
 refine w_r [.m _, .m _] ?_
 obtain ⟨g2, h⟩ := zf h
 obtain ⟨x2, hx2, h⟩ := zo h
 refine zpi hx2 g2 ?_
 refine w_r [.v (.iptr (List.drop 2 (Enc.cells x2 ++ Enc.cellsL (List.drop (Int.toNat s1.2 + 1) l)))), .v (.i x2.to), .m _] ?_
 refine zg (o := or2) (x2.to) h ?_
 exact zao (bl 23 4195871)
 refine zg (o := or2) (s1.1) h ?_
 exact zao (bl 23 4195871)
 intro j2 h
 refine zbn ?_
 refine zc (k0 := 0) (id := 4) ?_
 refine zp ?_
 obtain ⟨g3, h⟩ := zf h
 refine zej g3 ?_
 refine zp ?_
 refine zz (p := p1) (j2, (s1.2 + 1)) h ?_
 exact zao (bl 23 25)
 refine zh h (fun h => ?_)
 refine zg (o := or1) (s1.1) h ?_
 exact zao (bl 23 8)
 intro j1 h
 refine zbn ?_
 refine zk [.m _, .m _] ?_
 exact zhx h
def zh7 (fuel : Nat) (e : En) : Option (List UInt8) :=
 (bif (e.k == 1) then (z1 (zi0 fuel e.b (RSet.mk false)) (fun x1 => (chk (List.length ([115, 101, 110, 100, 32, 34] : List UInt8) + List.length x1 ≤ 9223372036854775807) (chk (List.length (([115, 101, 110, 100, 32, 34] : List UInt8) ++ x1) + List.length ([34] : List UInt8) ≤ 9223372036854775807) (some ((([115, 101, 110, 100, 32, 34] : List UInt8) ++ x1) ++ ([34] : List UInt8))))))) else (bif (e.k == 2) then (chk (0 ≤ e.fr ∧ e.fr < 9223372036854775808) (za7 (Lib.itoa e.fr) (fun x2 => (chk (List.length ([116, 97, 107, 101, 32] : List UInt8) + List.length x2 ≤ 9223372036854775807) (chk (List.length (([116, 97, 107, 101, 32] : List UInt8) ++ x2) + List.length ([32] : List UInt8) ≤ 9223372036854775807) (chk (0 ≤ e.to ∧ e.to < 9223372036854775808) (za7 (Lib.itoa e.to) (fun x3 => (chk (List.length ((([116, 97, 107, 101, 32] : List UInt8) ++ x2) ++ ([32] : List UInt8)) + List.length x3 ≤ 9223372036854775807) (some (((([116, 97, 107, 101, 32] : List UInt8) ++ x2) ++ ([32] : List UInt8)) ++ x3))))))))))) else (chk (0 ≤ e.fr ∧ e.fr < 9223372036854775808) (za7 (Lib.itoa e.fr) (fun x4 => (chk (List.length ([108, 111, 115, 101, 32] : List UInt8) + List.length x4 ≤ 9223372036854775807) (chk (List.length (([108, 111, 115, 101, 32] : List UInt8) ++ x4) + List.length ([32] : List UInt8) ≤ 9223372036854775807) (chk (0 ≤ e.to ∧ e.to < 9223372036854775808) (za7 (Lib.itoa e.to) (fun x5 => (chk (List.length ((([108, 111, 115, 101, 32] : List UInt8) ++ x4) ++ ([32] : List UInt8)) + List.length x5 ≤ 9223372036854775807) (some (((([108, 111, 115, 101, 32] : List UInt8) ++ x4) ++ ([32] : List UInt8)) ++ x5)))))))))))))
theorem ent62 : Ent Tryz.prog 62 := enters_of Tryz.func62 (by kernel_rfl) rfl
theorem ziu (fuel : Nat) (e : En) (r : (List UInt8)) (h : zh7 fuel e = some r) : Pure (ITP Tryz.prog) Tryz.prog 62 [.A (e : En)] (.raw (.string (bs r))) := by
 unfold zh7 at h
 refine zah 33 mix Tryz.func62 ent62 ?_
 refine zj (zc ?_)
 refine zbr (a := .ptr 0 0) (σ'' := (.B [(67, (Enc.cells (e : En)))])) ?_
 refine w_o (a := .s ([] : List UInt8)) ?_
 refine zj ?_
 refine zk [.v (.ptr 0 0), .v (.u e.k), .v (.b (e.k == 1))] ?_
 refine za3 h (fun hc1 h => ?_) (fun hc1 h => ?_)
 refine zj ?_
 refine zb3 (k0 := 0) (id := 2) 4 (by kernel_rfl) (by kernel_rfl) ?_
 refine h_o (a := .ptr 0 3) ?_
 refine h_o (a := .s e.b) ?_
 refine h_o (a := .F (([34] : List UInt8) : List UInt8)) (h := zcs (α := UInt8) (l := ([34] : List UInt8)) (cs := [.u 34]) rfl rfl) ?_
 refine zgr (r := .A ((RSet.mk false) : RSet)) zuk ?_
 refine zbq ?_
 obtain ⟨x1, hx1, h⟩ := zl h
 refine zbc (zw6 fuel e.b (RSet.mk false) x1 hx1) ?_
 obtain ⟨g1, h⟩ := zf h
 refine w_o (a := .s (([115, 101, 110, 100, 32, 34] : List UInt8) ++ x1)) (h := zv (zad g1 rfl rfl rfl)) ?_
 obtain ⟨g2, h⟩ := zf h
 refine w_o (a := .s ((([115, 101, 110, 100, 32, 34] : List UInt8) ++ x1) ++ ([34] : List UInt8))) (h := zv (zad g2 rfl rfl rfl)) ?_
 refine zp ?_
 exact zd7 h
 refine zj ?_
 refine zk [.v (.ptr 0 0), .v (.u e.k), .v (.b (e.k == 2))] ?_
 refine za3 h (fun hc2 h => ?_) (fun hc2 h => ?_)
 refine zj ?_
 refine zb3 (k0 := 0) (id := 4) 8 (by kernel_rfl) (by kernel_rfl) ?_
 refine h_o (a := .ptr 0 1) ?_
 refine h_o (a := .i e.fr) ?_
 obtain ⟨g3, h⟩ := zf h
 obtain ⟨x2, hx2, h⟩ := zo h
 refine zgr (args' := [.i e.fr]) (r := .s x2) (by rw [← hx2]; exact (zi1 e.fr g3)) ?_
 obtain ⟨g4, h⟩ := zf h
 refine h_o (a := .s (([116, 97, 107, 101, 32] : List UInt8) ++ x2)) (h := zad g4 rfl rfl rfl) ?_
 obtain ⟨g5, h⟩ := zf h
 refine h_o (a := .s ((([116, 97, 107, 101, 32] : List UInt8) ++ x2) ++ ([32] : List UInt8))) (h := zad g5 rfl rfl rfl) ?_
 refine h_o (a := .ptr 0 2) ?_
 refine h_o (a := .i e.to) ?_
 obtain ⟨g6, h⟩ := zf h
 obtain ⟨x3, hx3, h⟩ := zo h
 refine zgr (args' := [.i e.to]) (r := .s x3) (by rw [← hx3]; exact (zi1 e.to g6)) ?_
 refine zbq ?_
 obtain ⟨g7, h⟩ := zf h
 refine w_o (a := .s (((([116, 97, 107, 101, 32] : List UInt8) ++ x2) ++ ([32] : List UInt8)) ++ x3)) (h := zv (zad g7 rfl rfl rfl)) ?_
 refine zp ?_
 exact zd7 h
 refine zj ?_
 refine zb3 (k0 := 0) (id := 5) 8 (by kernel_rfl) (by kernel_rfl) ?_
 refine h_o (a := .ptr 0 1) ?_
 refine h_o (a := .i e.fr) ?_
 obtain ⟨g8, h⟩ := zf h
 obtain ⟨x4, hx4, h⟩ := zo h
 refine zgr (args' := [.i e.fr]) (r := .s x4) (by rw [← hx4]; exact (zi1 e.fr g8)) ?_
 obtain ⟨g9, h⟩ := zf h
 refine h_o (a := .s (([108, 111, 115, 101, 32] : List UInt8) ++ x4)) (h := zad g9 rfl rfl rfl) ?_
 obtain ⟨g10, h⟩ := zf h
 refine h_o (a := .s ((([108, 111, 115, 101, 32] : List UInt8) ++ x4) ++ ([32] : List UInt8))) (h := zad g10 rfl rfl rfl) ?_
 refine h_o (a := .ptr 0 2) ?_
 refine h_o (a := .i e.to) ?_
 obtain ⟨g11, h⟩ := zf h
 obtain ⟨x5, hx5, h⟩ := zo h
 refine zgr (args' := [.i e.to]) (r := .s x5) (by rw [← hx5]; exact (zi1 e.to g11)) ?_
 refine zbq ?_
 obtain ⟨g12, h⟩ := zf h
 refine w_o (a := .s (((([108, 111, 115, 101, 32] : List UInt8) ++ x4) ++ ([32] : List UInt8)) ++ x5)) (h := zv (zad g12 rfl rfl rfl)) ?_
 refine zp ?_
 exact zd7 h
def znm (e : Ed) : Option (List UInt8) :=
 (bif (e.k == 2) then (chk (0 ≤ e.c ∧ e.c < 9223372036854775808) (za7 (Lib.itoa e.c) (fun x1 => (chk (List.length ([101, 120, 105, 116, 32] : List UInt8) + List.length x1 ≤ 9223372036854775807) (some (([101, 120, 105, 116, 32] : List UInt8) ++ x1)))))) else (chk (0 ≤ e.k ∧ e.k < 256) (za7 (zfr e.k) (fun x2 => (some x2)))))
theorem ent64 : Ent Tryz.prog 64 := enters_of Tryz.func64 (by kernel_rfl) rfl
theorem z0n (e : Ed) (r : (List UInt8)) (h : znm e = some r) : Pure (ITP Tryz.prog) Tryz.prog 64 [.A (e : Ed)] (.raw (.string (bs r))) := by
 unfold znm at h
 refine zah 12 mix Tryz.func64 ent64 ?_
 refine zj (zc ?_)
 refine zbr (a := .ptr 0 0) (σ'' := (.B [(32, (Enc.cells (e : Ed)))])) ?_
 refine w_o (a := .s ([] : List UInt8)) ?_
 refine zj ?_
 refine zk [.v (.ptr 0 0), .v (.u e.k), .v (.b (e.k == 2))] ?_
 refine za3 h (fun hc1 h => ?_) (fun hc1 h => ?_)
 refine zk [.v (.ptr 0 1), .v (.i e.c)] ?_
 obtain ⟨g1, h⟩ := zf h
 obtain ⟨x1, hx1, h⟩ := zo h
 refine zbc (args' := [.i e.c]) (r := .s x1) (by rw [← hx1]; exact (zi1 e.c g1)) ?_
 obtain ⟨g2, h⟩ := zf h
 refine w_o (a := .s (([101, 120, 105, 116, 32] : List UInt8) ++ x1)) (h := zv (zad g2 rfl rfl rfl)) ?_
 refine zp ?_
 exact zd7 h
 refine zk [.v (.ptr 0 0), .v (.u e.k)] ?_
 obtain ⟨g3, h⟩ := zf h
 obtain ⟨x2, hx2, h⟩ := zo h
 refine zbc (args' := [.u e.k]) (r := .s x2) (by rw [← hx2]; exact (zo1 e.k g3)) ?_
 refine zp ?_
 exact zd7 h
def zn3 (fuel : Nat) (s : (List UInt8)) : Option (Ed × Bool) :=
 (zcr (τ := Unit) (zbh (β := Int) (fun s1 => (bif (decide (s1 ≤ 5)) then (zcr (τ := Unit) (chk (0 ≤ s1 ∧ s1 < 256) (za7 (zfr s1) (fun x1 => (bif (s == x1) then (bif (s1 != 2) then (some (Sum.inr (Sum.inr (Sum.inr ((Ed.mk s1 0), true))))) else (some (Sum.inl ()))) else (some (Sum.inl ())))))) (fun j2 => (some (Sum.inl ((IntKind.u8.wrap (s1 + 1))))))) else (some (Sum.inr (Sum.inl ()))))) fuel (1)) (fun j1 => (bif (decide ((List.length s : Int) < 5)) then (some ((Ed.mk 0 0), false)) else (chk (0 ≤ 0 ∧ 0 ≤ (4 : Int) ∧ (4 : Int) ≤ (List.length s : Int)) (za7 (sub s 0 (4 : Int)) (fun x2 => (bif (!(x2 == ([101, 120, 105, 116] : List UInt8))) then (some ((Ed.mk 0 0), false)) else (chk (0 ≤ (4 : Int) ∧ (4 : Int) ≤ (List.length s : Int) ∧ (List.length s : Int) ≤ (List.length s : Int)) (za7 (sub s (4 : Int) (List.length s : Int)) (fun x3 => (z1 (zhb fuel x3) (fun x4 => (bif ((List.length x4 : Int) != 1) then (some ((Ed.mk 0 0), false)) else (chk (0 ≤ (0 : Int) ∧ (0 : Int) < (List.length x4 : Int)) (bif (decide ((ix x4 (0 : Int)) > 255)) then (some ((Ed.mk 0 0), false)) else (chk (0 ≤ (0 : Int) ∧ (0 : Int) < (List.length x4 : Int)) (some ((Ed.mk 2 (ix x4 (0 : Int))), true))))))))))))))))))
theorem ent30 : Ent Tryz.prog 30 := enters_of Tryz.func30 (by kernel_rfl) rfl
theorem rend_sh (fuel : Nat) (s : (List UInt8)) (r : (Ed × Bool)) (h : zn3 fuel s = some r) : Pure (ITP Tryz.prog) Tryz.prog 30 [.raw (.string (bs s))] (.tup [.A (r.1 : Ed), .raw (.bool r.2)]) := by
 unfold zn3 at h
 refine zah 45 mix Tryz.func30 ent30 ?_
 refine zj (zc ?_)
 refine zbr (a := .ptr 0 0) (σ'' := (.B [(32, (Enc.cells ((Ed.mk 0 0) : Ed)))])) ?_
 refine w_o (a := .b false) ?_
 refine zaf h (bz 0 46 70368744177658) (fun j1 => []) (fun j1 => (.B [(32, (Enc.cells ((Ed.mk 0 0) : Ed)))])) ?_ ?_
 intro or1 h hr1
 refine zk [.v (.u 1)] ?_
 refine zr ?_
 refine zap h (bz 0 46 70368744177658) (fun s1 => [(4, .u s1)]) (fun s1 => (.B [(32, (Enc.cells ((Ed.mk 0 0) : Ed)))])) ?_ ?_
 exact zao (bl 46 21)
 intro s1 p1 h
 refine zbn ?_
 refine zj ?_
 refine zk [.m _, .v (.b (decide (s1 ≤ 5)))] ?_
 refine za3 h (fun hc1 h => ?_) (fun hc1 h => ?_)
 refine zaf h (bz 0 20 1047752) (fun j2 => []) (fun j2 => (.B [(32, (Enc.cells ((Ed.mk 0 0) : Ed)))])) ?_ ?_
 intro or2 h hr2
 refine zr ?_
 refine zk [.m _, .m _] ?_
 obtain ⟨g1, h⟩ := zf h
 obtain ⟨x1, hx1, h⟩ := zo h
 refine zbc (args' := [.u s1]) (r := .s x1) (by rw [← hx1]; exact (zo1 s1 g1)) ?_
 refine w_o (a := .b (s == x1)) (h := zv (zb7 rfl rfl rfl)) ?_
 refine zaa h (fun hc2 h => ?_) (fun hc2 h => ?_)
 refine zar hc2 ?_
 refine w_r [.m _, .v (.b (s1 != 2)), .v (.b (s1 != 2))] ?_
 refine za3 h (fun hc3 h => ?_) (fun hc3 h => ?_)
 refine zk [.m _, .v (.A ((Ed.mk s1 0) : Ed))] ?_
 refine zcg 2 (.B [(32, (Enc.cells ((Ed.mk s1 0) : Ed)))]) ?_
 refine w_o (a := .b true) ?_
 replace h := zq h hr2
 refine zh h (fun h => ?_)
 replace h := zq h hr1
 exact zam (fun (r : (Ed × Bool)) => .tup [.A (r.1 : Ed), .b r.2]) h (.tup [.A ((Ed.mk s1 0) : Ed), .b true])
 refine zg (o := or2) () h ?_
 exact zao (bl 46 70368743129911)
 refine zar hc2 ?_
 refine w_r [.p, .p, .v (.b false)] ?_
 refine zbv rfl ?_
 refine zg (o := or2) () h ?_
 exact zao (bl 46 70368743129911)
 intro j2 h
 refine zbn ?_
 refine zc (k0 := 0) (id := 3) ?_
 refine w_r [.m _, .v (.u (IntKind.u8.wrap (s1 + 1))), .m _] ?_
 refine zz (p := p1) ((IntKind.u8.wrap (s1 + 1))) h ?_
 exact zao (bl 46 21)
 refine zh h (fun h => ?_)
 refine zg (o := or1) () h ?_
 exact zao (bl 46 5)
 intro j1 h
 refine zbn ?_
 refine zj ?_
 refine zk [.m _] ?_
 refine w_o (a := .i (List.length s : Int)) (h := zv (zba rfl rfl rfl)) ?_
 refine w_o (a := .b (decide ((List.length s : Int) < 5))) ?_
 refine zaa h (fun hc4 h => ?_) (fun hc4 h => ?_)
 refine zar hc4 ?_
 refine w_r [.p, .p, .p, .v (.b true)] ?_
 refine za6 rfl ?_
 refine zk [.v (.A ((Ed.mk 0 0) : Ed))] ?_
 refine zcg 2 (.B [(32, (Enc.cells ((Ed.mk 0 0) : Ed)))]) ?_
 refine w_o (a := .b false) ?_
 exact zam (fun (r : (Ed × Bool)) => .tup [.A (r.1 : Ed), .b r.2]) h (.tup [.A ((Ed.mk 0 0) : Ed), .b false])
 refine zar hc4 ?_
 refine zai rfl rfl ?_
 refine zp ?_
 refine zai rfl rfl ?_
 obtain ⟨g2, h⟩ := zf h
 obtain ⟨x2, hx2, h⟩ := zo h
 refine w_o (a := .s x2) (h := zv (by rw [← hx2]; exact (znr (l := s) g2 rfl rfl rfl rfl))) ?_
 refine zai rfl rfl ?_
 refine w_o (a := .b (!(x2 == ([101, 120, 105, 116] : List UInt8)))) (h := zv (zij rfl rfl rfl)) ?_
 refine w_o (a := .b (!(x2 == ([101, 120, 105, 116] : List UInt8)))) ?_
 refine za3 h (fun hc5 h => ?_) (fun hc5 h => ?_)
 refine zk [.v (.A ((Ed.mk 0 0) : Ed))] ?_
 refine zcg 2 (.B [(32, (Enc.cells ((Ed.mk 0 0) : Ed)))]) ?_
 refine w_o (a := .b false) ?_
 exact zam (fun (r : (Ed × Bool)) => .tup [.A (r.1 : Ed), .b r.2]) h (.tup [.A ((Ed.mk 0 0) : Ed), .b false])
 refine zk [.m _] ?_
 obtain ⟨g3, h⟩ := zf h
 obtain ⟨x3, hx3, h⟩ := zo h
 refine w_o (a := .s x3) (h := zv (by rw [← hx3]; exact (zmq (l := s) g3 rfl rfl rfl rfl))) ?_
 obtain ⟨x4, hx4, h⟩ := zl h
 refine zbc (zui fuel x3 x4 hx4) ?_
 refine zp ?_
 refine zj ?_
 refine zk [.m _, .v (.i (List.length x4 : Int)), .v (.b ((List.length x4 : Int) != 1))] ?_
 refine zaa h (fun hc6 h => ?_) (fun hc6 h => ?_)
 refine zar hc6 ?_
 refine w_r [.p, .p, .p, .p, .v (.b true)] ?_
 refine za6 rfl ?_
 refine zk [.v (.A ((Ed.mk 0 0) : Ed))] ?_
 refine zcg 2 (.B [(32, (Enc.cells ((Ed.mk 0 0) : Ed)))]) ?_
 refine w_o (a := .b false) ?_
 exact zam (fun (r : (Ed × Bool)) => .tup [.A (r.1 : Ed), .b r.2]) h (.tup [.A ((Ed.mk 0 0) : Ed), .b false])
 refine zar hc6 ?_
 refine zai rfl rfl ?_
 refine zp ?_
 refine zai rfl rfl ?_
 obtain ⟨g4, h⟩ := zf h
 refine w_o (a := .iptr (Enc.cells (ix x4 (0 : Int)) ++ Enc.cellsL (List.drop (Int.toNat (0 : Int) + 1) x4))) (h := zv (zgd (α := Int) (l := x4) g4 rfl rfl rfl rfl rfl)) ?_
 refine w_r [.v (.i (ix x4 (0 : Int))), .v (.b (decide ((ix x4 (0 : Int)) > 255))), .v (.b (decide ((ix x4 (0 : Int)) > 255)))] ?_
 refine za3 h (fun hc7 h => ?_) (fun hc7 h => ?_)
 refine zk [.v (.A ((Ed.mk 0 0) : Ed))] ?_
 refine zcg 2 (.B [(32, (Enc.cells ((Ed.mk 0 0) : Ed)))]) ?_
 refine w_o (a := .b false) ?_
 exact zam (fun (r : (Ed × Bool)) => .tup [.A (r.1 : Ed), .b r.2]) h (.tup [.A ((Ed.mk 0 0) : Ed), .b false])
 refine zk [.m _] ?_
 obtain ⟨g5, h⟩ := zf h
 refine w_o (a := .iptr (Enc.cells (ix x4 (0 : Int)) ++ Enc.cellsL (List.drop (Int.toNat (0 : Int) + 1) x4))) (h := zv (zgd (α := Int) (l := x4) g5 rfl rfl rfl rfl rfl)) ?_
 refine w_r [.v (.i (ix x4 (0 : Int))), .v (.A ((Ed.mk 2 (ix x4 (0 : Int))) : Ed))] ?_
 refine zcg 2 (.B [(32, (Enc.cells ((Ed.mk 2 (ix x4 (0 : Int))) : Ed)))]) ?_
 refine w_o (a := .b true) ?_
 exact zam (fun (r : (Ed × Bool)) => .tup [.A (r.1 : Ed), .b r.2]) h (.tup [.A ((Ed.mk 2 (ix x4 (0 : Int))) : Ed), .b true])
def zgj (fuel : Nat) (s : (List UInt8)) (a : Int) : Option (En × Bool) :=
 (bif (decide ((List.length s : Int) < 5)) then (some ((En.mk 0 0 0 []), false)) else (zcr (τ := En) (chk (0 ≤ 0 ∧ 0 ≤ (5 : Int) ∧ (5 : Int) ≤ (List.length s : Int)) (za7 (sub s 0 (5 : Int)) (fun x1 => (bif (x1 == ([115, 101, 110, 100, 32] : List UInt8)) then (chk (0 ≤ (5 : Int) ∧ (5 : Int) ≤ (List.length s : Int) ∧ (List.length s : Int) ≤ (List.length s : Int)) (za7 (sub s (5 : Int) (List.length s : Int)) (fun x2 => (z1 (zd8 fuel x2) (fun x3 => (bif (x3.2.2 == 0) then (chk (-9223372036854775808 ≤ ((List.length s : Int) - 5) ∧ ((List.length s : Int) - 5) < 9223372036854775808) (bif (x3.2.1 == ((List.length s : Int) - 5)) then (z1 (zf8 (En.mk 1 0 0 x3.1) a) (fun x4 => (bif x4 then (z1 (zh7 fuel (En.mk 1 0 0 x3.1)) (fun x5 => (some (Sum.inr ((En.mk 1 0 0 x3.1), (x5 == s)))))) else (some (Sum.inr ((En.mk 1 0 0 x3.1), false)))))) else (some (Sum.inr ((En.mk 1 0 0 x3.1), false))))) else (some (Sum.inr ((En.mk 1 0 0 x3.1), false))))))))) else (bif (x1 == ([116, 97, 107, 101, 32] : List UInt8)) then (some (Sum.inl ((En.mk 2 ((En.mk 0 0 0 []).fr) ((En.mk 0 0 0 []).to) ((En.mk 0 0 0 []).b))))) else (bif (x1 == ([108, 111, 115, 101, 32] : List UInt8)) then (some (Sum.inl ((En.mk 3 ((En.mk 0 0 0 []).fr) ((En.mk 0 0 0 []).to) ((En.mk 0 0 0 []).b))))) else (some (Sum.inl ((En.mk 0 0 0 [])))))))))) (fun j1 => (chk (0 ≤ (4 : Int) ∧ (4 : Int) ≤ (List.length s : Int) ∧ (List.length s : Int) ≤ (List.length s : Int)) (za7 (sub s (4 : Int) (List.length s : Int)) (fun x6 => (z1 (zhb fuel x6) (fun x7 => (bif ((List.length x7 : Int) != 2) then (some ((En.mk 0 0 0 []), false)) else (bif (j1.k == 0) then (some ((En.mk 0 0 0 []), false)) else (chk (0 ≤ (0 : Int) ∧ (0 : Int) < (List.length x7 : Int)) (chk (0 ≤ (1 : Int) ∧ (1 : Int) < (List.length x7 : Int)) (z1 (zf8 (En.mk ((En.mk j1.k (ix x7 (0 : Int)) j1.to j1.b).k) ((En.mk j1.k (ix x7 (0 : Int)) j1.to j1.b).fr) (ix x7 (1 : Int)) ((En.mk j1.k (ix x7 (0 : Int)) j1.to j1.b).b)) a) (fun x8 => (some ((En.mk ((En.mk j1.k (ix x7 (0 : Int)) j1.to j1.b).k) ((En.mk j1.k (ix x7 (0 : Int)) j1.to j1.b).fr) (ix x7 (1 : Int)) ((En.mk j1.k (ix x7 (0 : Int)) j1.to j1.b).b)), x8))))))))))))))))
theorem ent31 : Ent Tryz.prog 31 := enters_of Tryz.func31 (by kernel_rfl) rfl
theorem zxx (fuel : Nat) (s : (List UInt8)) (a : Int) (r : (En × Bool)) (h : zgj fuel s a = some r) : Pure (ITP Tryz.prog) Tryz.prog 31 [.raw (.string (bs s)), .raw (.int .i64 a)] (.tup [.A (r.1 : En), .raw (.bool r.2)]) := by
 unfold zgj at h
 refine zah 78 mix Tryz.func31 ent31 ?_
 refine zj (zc ?_)
 refine zbr (a := .ptr 0 0) (σ'' := (.B [(67, (Enc.cells ((En.mk 0 0 0 []) : En)))])) ?_
 refine w_o (a := .b false) ?_
 refine zj ?_
 refine zk [.m _] ?_
 refine w_o (a := .i (List.length s : Int)) (h := zv (zba rfl rfl rfl)) ?_
 refine w_o (a := .b (decide ((List.length s : Int) < 5))) ?_
 refine za3 h (fun hc1 h => ?_) (fun hc1 h => ?_)
 refine zk [.v (.A ((En.mk 0 0 0 []) : En))] ?_
 refine zcg 4 (.B [(67, (Enc.cells ((En.mk 0 0 0 []) : En)))]) ?_
 refine w_o (a := .b false) ?_
 exact zam (fun (r : (En × Bool)) => .tup [.A (r.1 : En), .b r.2]) h (.tup [.A ((En.mk 0 0 0 []) : En), .b false])
 refine zk [.v (.A ((En.mk 0 0 0 []) : En))] ?_
 refine zbr (a := .ptr 1 0) (σ'' := (.B [(67, (Enc.cells ((En.mk 0 0 0 []) : En))), (67, (Enc.cells ((En.mk 0 0 0 []) : En)))])) ?_
 refine zcg 4 (.B [(67, (Enc.cells ((En.mk 0 0 0 []) : En))), (67, (Enc.cells ((En.mk 0 0 0 []) : En)))]) ?_
 refine zaf h (bz 0 80 1208925819614629174706092) (fun j1 => []) (fun j1 => (.B [(67, (Enc.cells ((En.mk 0 0 0 []) : En))), (67, (Enc.cells (j1 : En)))])) ?_ ?_
 intro or1 h hr1
 refine zk [.m _] ?_
 obtain ⟨g1, h⟩ := zf h
 obtain ⟨x1, hx1, h⟩ := zo h
 refine w_o (a := .s x1) (h := zv (by rw [← hx1]; exact (znr (l := s) g1 rfl rfl rfl rfl))) ?_
 refine zr ?_
 refine zj (zc ?_)
 refine w_o (a := .b (x1 == ([115, 101, 110, 100, 32] : List UInt8))) (h := zv (zb7 rfl rfl rfl)) ?_
 refine zp ?_
 refine za3 h (fun hc2 h => ?_) (fun hc2 h => ?_)
 refine zk [.m _] ?_
 obtain ⟨g2, h⟩ := zf h
 obtain ⟨x2, hx2, h⟩ := zo h
 refine w_o (a := .s x2) (h := zv (by rw [← hx2]; exact (zmq (l := s) g2 rfl rfl rfl rfl))) ?_
 obtain ⟨x3, hx3, h⟩ := zl h
 refine zbc (zta fuel x2 x3 hx3) ?_
 refine w_r [.m _, .x _, .x _, .x _, .m _] ?_
 refine w_r [.m _, .m _] ?_
 refine zk [.m _, .v (.A ((En.mk 1 0 0 x3.1) : En))] ?_
 refine zcg 4 (.B [(67, (Enc.cells ((En.mk 0 0 0 []) : En))), (67, (Enc.cells ((En.mk 1 0 0 x3.1) : En)))]) ?_
 refine zaa h (fun hc3 h => ?_) (fun hc3 h => ?_)
 obtain ⟨g3, h⟩ := zf h
 refine zaa h (fun hc4 h => ?_) (fun hc4 h => ?_)
 obtain ⟨x4, hx4, h⟩ := zl h
 refine zaa h (fun hc5 h => ?_) (fun hc5 h => ?_)
 obtain ⟨x5, hx5, h⟩ := zl h
 refine zc8 (id := 8) [.s s, .i a, .raw undef, .raw undef, .ptr 0 0, .b (x5 == s), .ptr 1 0, .s x3.1, .i x3.2.1, .i x3.2.2, .raw undef, .s s, .i (List.length s : Int), .b (decide ((List.length s : Int) < 5)), .raw undef, .A ((En.mk 0 0 0 []) : En), .s s, .s x1, .b (x1 == ([115, 101, 110, 100, 32] : List UInt8)), .b (x1 == ([115, 101, 110, 100, 32] : List UInt8)), .tup [.s x3.1, .i x3.2.1, .i x3.2.2], .s s, .s x2, .tup [.s x3.1, .i x3.2.1, .i x3.2.2], .s x3.1, .i x3.2.1, .i x3.2.2, .s x3.1, .A ((En.mk 1 0 0 x3.1) : En), .A ((En.mk 1 0 0 x3.1) : En), .i x3.2.2, .b (x3.2.2 == 0), .b true, .i x3.2.1, .s s, .i (List.length s : Int), .i ((List.length s : Int) - 5), .b (x3.2.1 == ((List.length s : Int) - 5)), .b (x3.2.1 == ((List.length s : Int) - 5)), .b true, .A ((En.mk 1 0 0 x3.1) : En), .i a, .b x4, .b x4, .b true, .A ((En.mk 1 0 0 x3.1) : En), .s x5, .s s, .b (x5 == s), .b (x5 == s), .raw undef, .raw undef, .raw undef, .raw undef, .raw undef, .raw undef, .raw undef, .raw undef, .raw undef, .raw undef, .raw undef, .raw undef, .raw undef, .raw undef, .raw undef, .raw undef, .raw undef, .raw undef, .raw undef, .raw undef, .raw undef, .raw undef, .raw undef, .raw undef, .raw undef, .raw undef, .raw undef, .raw undef, .raw undef, .raw undef] (.B [(67, (Enc.cells ((En.mk 1 0 0 x3.1) : En))), (67, (Enc.cells ((En.mk 1 0 0 x3.1) : En)))]) ?_ ?_
 refine zbs (fun ops hops FIN hFIN S0 hS0 => ?_)
 let v29 : AV := .A ((En.mk 1 0 0 x3.1) : En)
 let v31 : AV := .b (x3.2.2 == 0)
 let v32 : AV := .b true
 let v35 : AV := .i (List.length s : Int)
 let v36 : AV := .i ((List.length s : Int) - 5)
 let v37 : AV := .b (x3.2.1 == ((List.length s : Int) - 5))
 let v38 : AV := .b (x3.2.1 == ((List.length s : Int) - 5))
 let v39 : AV := .b true
 let v40 : AV := .A ((En.mk 1 0 0 x3.1) : En)
 let v42 : AV := .b x4
 let v43 : AV := .b x4
 let v44 : AV := .b true
 let v45 : AV := .A ((En.mk 1 0 0 x3.1) : En)
 let v46 : AV := .s x5
 let v48 : AV := .b (x5 == s)
 let v49 : AV := .b (x5 == s)
 let G0 : St := (.B [(67, (Enc.cells ((En.mk 0 0 0 []) : En))), (67, (Enc.cells ((En.mk 1 0 0 x3.1) : En)))])
 let G1 : St := (.B [(67, (Enc.cells ((En.mk 1 0 0 x3.1) : En))), (67, (Enc.cells ((En.mk 1 0 0 x3.1) : En)))])
 obtain ⟨ps, hps⟩ : ∃ ps : List (Option (Nat × AV)), ps = [some (29, v29), some (30, .i x3.2.2), some (31, v31), some (32, v32), some (33, .i x3.2.1), some (34, .s s), some (35, v35), some (36, v36), some (37, v37), some (38, v38), some (39, v39), some (40, v40), some (41, .i a), some (42, v42), some (43, v43), some (44, v44), some (45, v45), some (46, v46), some (47, .s s), some (48, v48), some (49, v49), none, some (5, .b (x5 == s))] := ⟨_, rfl⟩
 let N : Nat → Nat → St → Prop := fun k m σ => aN (ITP Tryz.prog) Tryz.prog none ops FIN S0 ps 23 k m σ
 have n58 : N 0 8388607 G1 := by
  exact zu5 hops hS0 hps (hFIN _ _ (Wk.refl _ _ _))
 have n57 : N 1 4194303 G1 := by
  refine zan hops hS0 hps 22 ?_
  refine zp ?_
  exact zb n58 hS0 hps
 have n56 : N 2 3145727 G1 := by
  refine zan hops hS0 hps 20 ?_
  refine w_o (a := v49) ?_
  exact zb n57 hS0 hps
 have n55 : N 2 2097151 G0 := by
  refine zan hops hS0 hps 21 ?_
  refine zcg 4 G1 ?_
  exact zb n57 hS0 hps
 have n54 : N 3 2097150 G0 := by
  refine zan hops hS0 hps 0 ?_
  refine w_o (a := v29) ?_
  exact zb n55 hS0 hps
 have n53 : N 3 2621439 G1 := by
  refine zan hops hS0 hps 19 ?_
  refine zm hops rfl rfl ?_
  refine w_o (a := v48) (h := zv (zb7 rfl rfl rfl)) ?_
  exact zb n56 hS0 hps
 have n52 : N 3 1048575 G0 := by
  refine zab hops hS0 hps 20 21 ?_ ?_
  refine w_o (a := v49) ?_
  exact zb n55 hS0 hps
  refine zcg 4 G1 ?_
  exact zb n56 hS0 hps
 have n51 : N 4 1048574 G0 := by
  refine zab hops hS0 hps 0 20 ?_ ?_
  refine w_o (a := v29) ?_
  exact zb n52 hS0 hps
  refine w_o (a := v49) ?_
  exact zb n54 hS0 hps
 have n50 : N 4 2359295 G1 := by
  refine zan hops hS0 hps 18 ?_
  refine zm hops rfl rfl ?_
  refine zp ?_
  exact zb n53 hS0 hps
 have n49 : N 4 524287 G0 := by
  refine zab hops hS0 hps 19 21 ?_ ?_
  refine zm hops rfl rfl ?_
  refine w_o (a := v48) (h := zv (zb7 rfl rfl rfl)) ?_
  exact zb n52 hS0 hps
  refine zcg 4 G1 ?_
  exact zb n53 hS0 hps
 have n48 : N 5 524286 G0 := by
  refine zab hops hS0 hps 0 19 ?_ ?_
  refine w_o (a := v29) ?_
  exact zb n49 hS0 hps
  refine zm hops rfl rfl ?_
  refine w_o (a := v48) (h := zv (zb7 rfl rfl rfl)) ?_
  exact zb n51 hS0 hps
 have n47 : N 5 393215 G0 := by
  refine zan hops hS0 hps 17 ?_
  refine zm hops rfl rfl ?_
  refine zbc (ziu fuel (En.mk 1 0 0 x3.1) x5 hx5) ?_
  exact zb n49 hS0 hps
 have n46 : N 5 262143 G0 := by
  refine zab hops hS0 hps 18 21 ?_ ?_
  refine zm hops rfl rfl ?_
  refine zp ?_
  exact zb n49 hS0 hps
  refine zcg 4 G1 ?_
  exact zb n50 hS0 hps
 have n45 : N 6 393214 G0 := by
  refine zab hops hS0 hps 0 17 ?_ ?_
  refine w_o (a := v29) ?_
  exact zb n47 hS0 hps
  refine zm hops rfl rfl ?_
  refine zbc (ziu fuel (En.mk 1 0 0 x3.1) x5 hx5) ?_
  exact zb n48 hS0 hps
 have n44 : N 6 262142 G0 := by
  refine zab hops hS0 hps 0 18 ?_ ?_
  refine w_o (a := v29) ?_
  exact zb n46 hS0 hps
  refine zm hops rfl rfl ?_
  refine zp ?_
  exact zb n48 hS0 hps
 have n43 : N 6 327679 G0 := by
  refine zan hops hS0 hps 16 ?_
  refine zm hops rfl rfl ?_
  refine w_o (a := v45) ?_
  exact zb n47 hS0 hps
 have n42 : N 6 131071 G0 := by
  refine zab hops hS0 hps 17 18 ?_ ?_
  refine zm hops rfl rfl ?_
  refine zbc (ziu fuel (En.mk 1 0 0 x3.1) x5 hx5) ?_
  exact zb n46 hS0 hps
  refine zm hops rfl rfl ?_
  refine zp ?_
  exact zb n47 hS0 hps
 have n41 : N 7 327678 G0 := by
  refine zab hops hS0 hps 0 16 ?_ ?_
  refine w_o (a := v29) ?_
  exact zb n43 hS0 hps
  refine zm hops rfl rfl ?_
  refine w_o (a := v45) ?_
  exact zb n45 hS0 hps
 have n40 : N 7 131070 G0 := by
  refine zdy hops hS0 hps 0 17 18 ?_ ?_ ?_
  refine w_o (a := v29) ?_
  exact zb n42 hS0 hps
  refine zm hops rfl rfl ?_
  refine zbc (ziu fuel (En.mk 1 0 0 x3.1) x5 hx5) ?_
  exact zb n44 hS0 hps
  refine zm hops rfl rfl ?_
  refine zp ?_
  exact zb n45 hS0 hps
 have n39 : N 7 65535 G0 := by
  refine zab hops hS0 hps 16 18 ?_ ?_
  refine zm hops rfl rfl ?_
  refine w_o (a := v45) ?_
  exact zb n42 hS0 hps
  refine zm hops rfl rfl ?_
  refine zp ?_
  exact zb n43 hS0 hps
 have n38 : N 8 65534 G0 := by
  refine zdy hops hS0 hps 0 16 18 ?_ ?_ ?_
  refine w_o (a := v29) ?_
  exact zb n39 hS0 hps
  refine zm hops rfl rfl ?_
  refine w_o (a := v45) ?_
  exact zb n40 hS0 hps
  refine zm hops rfl rfl ?_
  refine zp ?_
  exact zb n41 hS0 hps
 have n37 : N 8 32767 G0 := by
  refine zan hops hS0 hps 15 ?_
  refine w_o (a := v44) (h := zv (zae rfl hc5)) ?_
  exact zb n39 hS0 hps
 have n36 : N 9 32766 G0 := by
  refine zab hops hS0 hps 0 15 ?_ ?_
  refine w_o (a := v29) ?_
  exact zb n37 hS0 hps
  refine w_o (a := v44) (h := zv (zae rfl hc5)) ?_
  exact zb n38 hS0 hps
 have n35 : N 9 16383 G0 := by
  refine zan hops hS0 hps 14 ?_
  refine w_o (a := v43) ?_
  exact zb n37 hS0 hps
 have n34 : N 10 16382 G0 := by
  refine zab hops hS0 hps 0 14 ?_ ?_
  refine w_o (a := v29) ?_
  exact zb n35 hS0 hps
  refine w_o (a := v43) ?_
  exact zb n36 hS0 hps
 have n33 : N 10 8191 G0 := by
  refine zan hops hS0 hps 13 ?_
  refine zm hops rfl rfl ?_
  refine zbc (zfa (En.mk 1 0 0 x3.1) a x4 hx4) ?_
  exact zb n35 hS0 hps
 have n32 : N 11 8190 G0 := by
  refine zab hops hS0 hps 0 13 ?_ ?_
  refine w_o (a := v29) ?_
  exact zb n33 hS0 hps
  refine zm hops rfl rfl ?_
  refine zbc (zfa (En.mk 1 0 0 x3.1) a x4 hx4) ?_
  exact zb n34 hS0 hps
 have n31 : N 11 6143 G0 := by
  refine zan hops hS0 hps 11 ?_
  refine zm hops rfl rfl ?_
  refine w_o (a := v40) ?_
  exact zb n33 hS0 hps
 have n30 : N 11 4095 G0 := by
  refine zan hops hS0 hps 12 ?_
  refine zm hops rfl rfl ?_
  refine zp ?_
  exact zb n33 hS0 hps
 have n29 : N 12 6142 G0 := by
  refine zab hops hS0 hps 0 11 ?_ ?_
  refine w_o (a := v29) ?_
  exact zb n31 hS0 hps
  refine zm hops rfl rfl ?_
  refine w_o (a := v40) ?_
  exact zb n32 hS0 hps
 have n28 : N 12 4094 G0 := by
  refine zab hops hS0 hps 0 12 ?_ ?_
  refine w_o (a := v29) ?_
  exact zb n30 hS0 hps
  refine zm hops rfl rfl ?_
  refine zp ?_
  exact zb n32 hS0 hps
 have n27 : N 12 2047 G0 := by
  refine zab hops hS0 hps 11 12 ?_ ?_
  refine zm hops rfl rfl ?_
  refine w_o (a := v40) ?_
  exact zb n30 hS0 hps
  refine zm hops rfl rfl ?_
  refine zp ?_
  exact zb n31 hS0 hps
 have n26 : N 13 2046 G0 := by
  refine zdy hops hS0 hps 0 11 12 ?_ ?_ ?_
  refine w_o (a := v29) ?_
  exact zb n27 hS0 hps
  refine zm hops rfl rfl ?_
  refine w_o (a := v40) ?_
  exact zb n28 hS0 hps
  refine zm hops rfl rfl ?_
  refine zp ?_
  exact zb n29 hS0 hps
 have n25 : N 13 1023 G0 := by
  refine zan hops hS0 hps 10 ?_
  refine w_o (a := v39) (h := zv (zae rfl hc4)) ?_
  exact zb n27 hS0 hps
 have n24 : N 14 1022 G0 := by
  refine zab hops hS0 hps 0 10 ?_ ?_
  refine w_o (a := v29) ?_
  exact zb n25 hS0 hps
  refine w_o (a := v39) (h := zv (zae rfl hc4)) ?_
  exact zb n26 hS0 hps
 have n23 : N 14 511 G0 := by
  refine zan hops hS0 hps 9 ?_
  refine w_o (a := v38) ?_
  exact zb n25 hS0 hps
 have n22 : N 15 510 G0 := by
  refine zab hops hS0 hps 0 9 ?_ ?_
  refine w_o (a := v29) ?_
  exact zb n23 hS0 hps
  refine w_o (a := v38) ?_
  exact zb n24 hS0 hps
 have n21 : N 15 255 G0 := by
  refine zan hops hS0 hps 8 ?_
  refine zm hops rfl rfl ?_
  refine w_o (a := v37) ?_
  exact zb n23 hS0 hps
 have n20 : N 16 254 G0 := by
  refine zab hops hS0 hps 0 8 ?_ ?_
  refine w_o (a := v29) ?_
  exact zb n21 hS0 hps
  refine zm hops rfl rfl ?_
  refine w_o (a := v37) ?_
  exact zb n22 hS0 hps
 have n19 : N 16 239 G0 := by
  refine zan hops hS0 hps 4 ?_
  refine zm hops rfl rfl ?_
  refine zp ?_
  exact zb n21 hS0 hps
 have n18 : N 16 127 G0 := by
  refine zan hops hS0 hps 7 ?_
  refine zm hops rfl rfl ?_
  refine w_o (a := v36) (h := zv (zkh rfl rfl rfl rfl g3.1 g3.2)) ?_
  exact zb n21 hS0 hps
 have n17 : N 17 238 G0 := by
  refine zab hops hS0 hps 0 4 ?_ ?_
  refine w_o (a := v29) ?_
  exact zb n19 hS0 hps
  refine zm hops rfl rfl ?_
  refine zp ?_
  exact zb n20 hS0 hps
 have n16 : N 17 126 G0 := by
  refine zab hops hS0 hps 0 7 ?_ ?_
  refine w_o (a := v29) ?_
  exact zb n18 hS0 hps
  refine zm hops rfl rfl ?_
  refine w_o (a := v36) (h := zv (zkh rfl rfl rfl rfl g3.1 g3.2)) ?_
  exact zb n20 hS0 hps
 have n15 : N 17 111 G0 := by
  refine zab hops hS0 hps 4 7 ?_ ?_
  refine zm hops rfl rfl ?_
  refine zp ?_
  exact zb n18 hS0 hps
  refine zm hops rfl rfl ?_
  refine w_o (a := v36) (h := zv (zkh rfl rfl rfl rfl g3.1 g3.2)) ?_
  exact zb n19 hS0 hps
 have n14 : N 17 63 G0 := by
  refine zan hops hS0 hps 6 ?_
  refine zm hops rfl rfl ?_
  refine w_o (a := v35) (h := zv (zba rfl rfl rfl)) ?_
  exact zb n18 hS0 hps
 have n13 : N 18 110 G0 := by
  refine zdy hops hS0 hps 0 4 7 ?_ ?_ ?_
  refine w_o (a := v29) ?_
  exact zb n15 hS0 hps
  refine zm hops rfl rfl ?_
  refine zp ?_
  exact zb n16 hS0 hps
  refine zm hops rfl rfl ?_
  refine w_o (a := v36) (h := zv (zkh rfl rfl rfl rfl g3.1 g3.2)) ?_
  exact zb n17 hS0 hps
 have n12 : N 18 62 G0 := by
  refine zab hops hS0 hps 0 6 ?_ ?_
  refine w_o (a := v29) ?_
  exact zb n14 hS0 hps
  refine zm hops rfl rfl ?_
  refine w_o (a := v35) (h := zv (zba rfl rfl rfl)) ?_
  exact zb n16 hS0 hps
 have n11 : N 18 47 G0 := by
  refine zab hops hS0 hps 4 6 ?_ ?_
  refine zm hops rfl rfl ?_
  refine zp ?_
  exact zb n14 hS0 hps
  refine zm hops rfl rfl ?_
  refine w_o (a := v35) (h := zv (zba rfl rfl rfl)) ?_
  exact zb n15 hS0 hps
 have n10 : N 18 31 G0 := by
  refine zan hops hS0 hps 5 ?_
  refine zm hops rfl rfl ?_
  refine zp ?_
  exact zb n14 hS0 hps
 have n9 : N 19 46 G0 := by
  refine zdy hops hS0 hps 0 4 6 ?_ ?_ ?_
  refine w_o (a := v29) ?_
  exact zb n11 hS0 hps
  refine zm hops rfl rfl ?_
  refine zp ?_
  exact zb n12 hS0 hps
  refine zm hops rfl rfl ?_
  refine w_o (a := v35) (h := zv (zba rfl rfl rfl)) ?_
  exact zb n13 hS0 hps
 have n8 : N 19 30 G0 := by
  refine zab hops hS0 hps 0 5 ?_ ?_
  refine w_o (a := v29) ?_
  exact zb n10 hS0 hps
  refine zm hops rfl rfl ?_
  refine zp ?_
  exact zb n12 hS0 hps
 have n7 : N 19 15 G0 := by
  refine zab hops hS0 hps 4 5 ?_ ?_
  refine zm hops rfl rfl ?_
  refine zp ?_
  exact zb n10 hS0 hps
  refine zm hops rfl rfl ?_
  refine zp ?_
  exact zb n11 hS0 hps
 have n6 : N 20 14 G0 := by
  refine zdy hops hS0 hps 0 4 5 ?_ ?_ ?_
  refine w_o (a := v29) ?_
  exact zb n7 hS0 hps
  refine zm hops rfl rfl ?_
  refine zp ?_
  exact zb n8 hS0 hps
  refine zm hops rfl rfl ?_
  refine zp ?_
  exact zb n9 hS0 hps
 have n5 : N 20 7 G0 := by
  refine zan hops hS0 hps 3 ?_
  refine w_o (a := v32) (h := zv (zae rfl hc3)) ?_
  exact zb n7 hS0 hps
 have n4 : N 21 6 G0 := by
  refine zab hops hS0 hps 0 3 ?_ ?_
  refine w_o (a := v29) ?_
  exact zb n5 hS0 hps
  refine w_o (a := v32) (h := zv (zae rfl hc3)) ?_
  exact zb n6 hS0 hps
 have n3 : N 21 3 G0 := by
  refine zan hops hS0 hps 2 ?_
  refine w_o (a := v31) ?_
  exact zb n5 hS0 hps
 have n2 : N 22 2 G0 := by
  refine zab hops hS0 hps 0 2 ?_ ?_
  refine w_o (a := v29) ?_
  exact zb n3 hS0 hps
  refine w_o (a := v31) ?_
  exact zb n4 hS0 hps
 have n1 : N 22 1 G0 := by
  refine zan hops hS0 hps 1 ?_
  refine zp ?_
  exact zb n3 hS0 hps
 have n0 : N 23 0 G0 := by
  refine zab hops hS0 hps 0 1 ?_ ?_
  refine w_o (a := v29) ?_
  exact zb n1 hS0 hps
  refine zp ?_
  exact zb n2 hS0 hps
 exact zc1 n0 hps
 replace h := zq h hr1
 exact zam (fun (r : (En × Bool)) => .tup [.A (r.1 : En), .b r.2]) h (.tup [.A ((En.mk 1 0 0 x3.1) : En), .b (x5 == s)])
 refine zc8 (id := 8) [.s s, .i a, .raw undef, .raw undef, .ptr 0 0, .b false, .ptr 1 0, .s x3.1, .i x3.2.1, .i x3.2.2, .raw undef, .s s, .i (List.length s : Int), .b (decide ((List.length s : Int) < 5)), .raw undef, .A ((En.mk 0 0 0 []) : En), .s s, .s x1, .b (x1 == ([115, 101, 110, 100, 32] : List UInt8)), .b (x1 == ([115, 101, 110, 100, 32] : List UInt8)), .tup [.s x3.1, .i x3.2.1, .i x3.2.2], .s s, .s x2, .tup [.s x3.1, .i x3.2.1, .i x3.2.2], .s x3.1, .i x3.2.1, .i x3.2.2, .s x3.1, .A ((En.mk 1 0 0 x3.1) : En), .A ((En.mk 1 0 0 x3.1) : En), .i x3.2.2, .b (x3.2.2 == 0), .b true, .i x3.2.1, .s s, .i (List.length s : Int), .i ((List.length s : Int) - 5), .b (x3.2.1 == ((List.length s : Int) - 5)), .b (x3.2.1 == ((List.length s : Int) - 5)), .b true, .A ((En.mk 1 0 0 x3.1) : En), .i a, .b x4, .b x4, .b false, .raw undef, .raw undef, .raw undef, .raw undef, .b false, .raw undef, .raw undef, .raw undef, .raw undef, .raw undef, .raw undef, .raw undef, .raw undef, .raw undef, .raw undef, .raw undef, .raw undef, .raw undef, .raw undef, .raw undef, .raw undef, .raw undef, .raw undef, .raw undef, .raw undef, .raw undef, .raw undef, .raw undef, .raw undef, .raw undef, .raw undef, .raw undef, .raw undef, .raw undef, .raw undef] (.B [(67, (Enc.cells ((En.mk 1 0 0 x3.1) : En))), (67, (Enc.cells ((En.mk 1 0 0 x3.1) : En)))]) ?_ ?_
 refine zbs (fun ops hops FIN hFIN S0 hS0 => ?_)
 let v29 : AV := .A ((En.mk 1 0 0 x3.1) : En)
 let v31 : AV := .b (x3.2.2 == 0)
 let v32 : AV := .b true
 let v35 : AV := .i (List.length s : Int)
 let v36 : AV := .i ((List.length s : Int) - 5)
 let v37 : AV := .b (x3.2.1 == ((List.length s : Int) - 5))
 let v38 : AV := .b (x3.2.1 == ((List.length s : Int) - 5))
 let v39 : AV := .b true
 let v40 : AV := .A ((En.mk 1 0 0 x3.1) : En)
 let v42 : AV := .b x4
 let v43 : AV := .b x4
 let v44 : AV := .b false
 let v49 : AV := .b false
 let G0 : St := (.B [(67, (Enc.cells ((En.mk 0 0 0 []) : En))), (67, (Enc.cells ((En.mk 1 0 0 x3.1) : En)))])
 let G1 : St := (.B [(67, (Enc.cells ((En.mk 1 0 0 x3.1) : En))), (67, (Enc.cells ((En.mk 1 0 0 x3.1) : En)))])
 obtain ⟨ps, hps⟩ : ∃ ps : List (Option (Nat × AV)), ps = [some (29, v29), some (30, .i x3.2.2), some (31, v31), some (32, v32), some (33, .i x3.2.1), some (34, .s s), some (35, v35), some (36, v36), some (37, v37), some (38, v38), some (39, v39), some (40, v40), some (41, .i a), some (42, v42), some (43, v43), some (44, v44), none, none, none, none, some (49, v49), none, some (5, .b false)] := ⟨_, rfl⟩
 let N : Nat → Nat → St → Prop := fun k m σ => aN (ITP Tryz.prog) Tryz.prog none ops FIN S0 ps 23 k m σ
 have n58 : N 0 8388607 G1 := by
  exact zu5 hops hS0 hps (hFIN _ _ (Wk.refl _ _ _))
 have n57 : N 1 4194303 G1 := by
  refine zan hops hS0 hps 22 ?_
  refine zp ?_
  exact zb n58 hS0 hps
 have n56 : N 2 3145727 G1 := by
  refine zan hops hS0 hps 20 ?_
  refine w_o (a := v49) ?_
  exact zb n57 hS0 hps
 have n55 : N 2 2097151 G0 := by
  refine zan hops hS0 hps 21 ?_
  refine zcg 4 G1 ?_
  exact zb n57 hS0 hps
 have n54 : N 3 2097150 G0 := by
  refine zan hops hS0 hps 0 ?_
  refine w_o (a := v29) ?_
  exact zb n55 hS0 hps
 have n53 : N 3 2621439 G1 := by
  refine zan hops hS0 hps 19 ?_
  refine zy hops ?_
  exact zb n56 hS0 hps
 have n52 : N 3 1048575 G0 := by
  refine zab hops hS0 hps 20 21 ?_ ?_
  refine w_o (a := v49) ?_
  exact zb n55 hS0 hps
  refine zcg 4 G1 ?_
  exact zb n56 hS0 hps
 have n51 : N 4 1048574 G0 := by
  refine zab hops hS0 hps 0 20 ?_ ?_
  refine w_o (a := v29) ?_
  exact zb n52 hS0 hps
  refine w_o (a := v49) ?_
  exact zb n54 hS0 hps
 have n50 : N 4 2359295 G1 := by
  refine zan hops hS0 hps 18 ?_
  refine zy hops ?_
  exact zb n53 hS0 hps
 have n49 : N 4 524287 G0 := by
  refine zab hops hS0 hps 19 21 ?_ ?_
  refine zy hops ?_
  exact zb n52 hS0 hps
  refine zcg 4 G1 ?_
  exact zb n53 hS0 hps
 have n48 : N 5 524286 G0 := by
  refine zab hops hS0 hps 0 19 ?_ ?_
  refine w_o (a := v29) ?_
  exact zb n49 hS0 hps
  refine zy hops ?_
  exact zb n51 hS0 hps
 have n47 : N 5 393215 G0 := by
  refine zan hops hS0 hps 17 ?_
  refine zy hops ?_
  exact zb n49 hS0 hps
 have n46 : N 5 262143 G0 := by
  refine zab hops hS0 hps 18 21 ?_ ?_
  refine zy hops ?_
  exact zb n49 hS0 hps
  refine zcg 4 G1 ?_
  exact zb n50 hS0 hps
 have n45 : N 6 393214 G0 := by
  refine zab hops hS0 hps 0 17 ?_ ?_
  refine w_o (a := v29) ?_
  exact zb n47 hS0 hps
  refine zy hops ?_
  exact zb n48 hS0 hps
 have n44 : N 6 262142 G0 := by
  refine zab hops hS0 hps 0 18 ?_ ?_
  refine w_o (a := v29) ?_
  exact zb n46 hS0 hps
  refine zy hops ?_
  exact zb n48 hS0 hps
 have n43 : N 6 327679 G0 := by
  refine zan hops hS0 hps 16 ?_
  refine zy hops ?_
  exact zb n47 hS0 hps
 have n42 : N 6 131071 G0 := by
  refine zab hops hS0 hps 17 18 ?_ ?_
  refine zy hops ?_
  exact zb n46 hS0 hps
  refine zy hops ?_
  exact zb n47 hS0 hps
 have n41 : N 7 327678 G0 := by
  refine zab hops hS0 hps 0 16 ?_ ?_
  refine w_o (a := v29) ?_
  exact zb n43 hS0 hps
  refine zy hops ?_
  exact zb n45 hS0 hps
 have n40 : N 7 131070 G0 := by
  refine zdy hops hS0 hps 0 17 18 ?_ ?_ ?_
  refine w_o (a := v29) ?_
  exact zb n42 hS0 hps
  refine zy hops ?_
  exact zb n44 hS0 hps
  refine zy hops ?_
  exact zb n45 hS0 hps
 have n39 : N 7 65535 G0 := by
  refine zab hops hS0 hps 16 18 ?_ ?_
  refine zy hops ?_
  exact zb n42 hS0 hps
  refine zy hops ?_
  exact zb n43 hS0 hps
 have n38 : N 8 65534 G0 := by
  refine zdy hops hS0 hps 0 16 18 ?_ ?_ ?_
  refine w_o (a := v29) ?_
  exact zb n39 hS0 hps
  refine zy hops ?_
  exact zb n40 hS0 hps
  refine zy hops ?_
  exact zb n41 hS0 hps
 have n37 : N 8 32767 G0 := by
  refine zan hops hS0 hps 15 ?_
  refine w_o (a := v44) (h := zv (zae rfl hc5)) ?_
  exact zb n39 hS0 hps
 have n36 : N 9 32766 G0 := by
  refine zab hops hS0 hps 0 15 ?_ ?_
  refine w_o (a := v29) ?_
  exact zb n37 hS0 hps
  refine w_o (a := v44) (h := zv (zae rfl hc5)) ?_
  exact zb n38 hS0 hps
 have n35 : N 9 16383 G0 := by
  refine zan hops hS0 hps 14 ?_
  refine w_o (a := v43) ?_
  exact zb n37 hS0 hps
 have n34 : N 10 16382 G0 := by
  refine zab hops hS0 hps 0 14 ?_ ?_
  refine w_o (a := v29) ?_
  exact zb n35 hS0 hps
  refine w_o (a := v43) ?_
  exact zb n36 hS0 hps
 have n33 : N 10 8191 G0 := by
  refine zan hops hS0 hps 13 ?_
  refine zm hops rfl rfl ?_
  refine zbc (zfa (En.mk 1 0 0 x3.1) a x4 hx4) ?_
  exact zb n35 hS0 hps
 have n32 : N 11 8190 G0 := by
  refine zab hops hS0 hps 0 13 ?_ ?_
  refine w_o (a := v29) ?_
  exact zb n33 hS0 hps
  refine zm hops rfl rfl ?_
  refine zbc (zfa (En.mk 1 0 0 x3.1) a x4 hx4) ?_
  exact zb n34 hS0 hps
 have n31 : N 11 6143 G0 := by
  refine zan hops hS0 hps 11 ?_
  refine zm hops rfl rfl ?_
  refine w_o (a := v40) ?_
  exact zb n33 hS0 hps
 have n30 : N 11 4095 G0 := by
  refine zan hops hS0 hps 12 ?_
  refine zm hops rfl rfl ?_
  refine zp ?_
  exact zb n33 hS0 hps
 have n29 : N 12 6142 G0 := by
  refine zab hops hS0 hps 0 11 ?_ ?_
  refine w_o (a := v29) ?_
  exact zb n31 hS0 hps
  refine zm hops rfl rfl ?_
  refine w_o (a := v40) ?_
  exact zb n32 hS0 hps
 have n28 : N 12 4094 G0 := by
  refine zab hops hS0 hps 0 12 ?_ ?_
  refine w_o (a := v29) ?_
  exact zb n30 hS0 hps
  refine zm hops rfl rfl ?_
  refine zp ?_
  exact zb n32 hS0 hps
 have n27 : N 12 2047 G0 := by
  refine zab hops hS0 hps 11 12 ?_ ?_
  refine zm hops rfl rfl ?_
  refine w_o (a := v40) ?_
  exact zb n30 hS0 hps
  refine zm hops rfl rfl ?_
  refine zp ?_
  exact zb n31 hS0 hps
 have n26 : N 13 2046 G0 := by
  refine zdy hops hS0 hps 0 11 12 ?_ ?_ ?_
  refine w_o (a := v29) ?_
  exact zb n27 hS0 hps
  refine zm hops rfl rfl ?_
  refine w_o (a := v40) ?_
  exact zb n28 hS0 hps
  refine zm hops rfl rfl ?_
  refine zp ?_
  exact zb n29 hS0 hps
 have n25 : N 13 1023 G0 := by
  refine zan hops hS0 hps 10 ?_
  refine w_o (a := v39) (h := zv (zae rfl hc4)) ?_
  exact zb n27 hS0 hps
 have n24 : N 14 1022 G0 := by
  refine zab hops hS0 hps 0 10 ?_ ?_
  refine w_o (a := v29) ?_
  exact zb n25 hS0 hps
  refine w_o (a := v39) (h := zv (zae rfl hc4)) ?_
  exact zb n26 hS0 hps
 have n23 : N 14 511 G0 := by
  refine zan hops hS0 hps 9 ?_
  refine w_o (a := v38) ?_
  exact zb n25 hS0 hps
 have n22 : N 15 510 G0 := by
  refine zab hops hS0 hps 0 9 ?_ ?_
  refine w_o (a := v29) ?_
  exact zb n23 hS0 hps
  refine w_o (a := v38) ?_
  exact zb n24 hS0 hps
 have n21 : N 15 255 G0 := by
  refine zan hops hS0 hps 8 ?_
  refine zm hops rfl rfl ?_
  refine w_o (a := v37) ?_
  exact zb n23 hS0 hps
 have n20 : N 16 254 G0 := by
  refine zab hops hS0 hps 0 8 ?_ ?_
  refine w_o (a := v29) ?_
  exact zb n21 hS0 hps
  refine zm hops rfl rfl ?_
  refine w_o (a := v37) ?_
  exact zb n22 hS0 hps
 have n19 : N 16 239 G0 := by
  refine zan hops hS0 hps 4 ?_
  refine zm hops rfl rfl ?_
  refine zp ?_
  exact zb n21 hS0 hps
 have n18 : N 16 127 G0 := by
  refine zan hops hS0 hps 7 ?_
  refine zm hops rfl rfl ?_
  refine w_o (a := v36) (h := zv (zkh rfl rfl rfl rfl g3.1 g3.2)) ?_
  exact zb n21 hS0 hps
 have n17 : N 17 238 G0 := by
  refine zab hops hS0 hps 0 4 ?_ ?_
  refine w_o (a := v29) ?_
  exact zb n19 hS0 hps
  refine zm hops rfl rfl ?_
  refine zp ?_
  exact zb n20 hS0 hps
 have n16 : N 17 126 G0 := by
  refine zab hops hS0 hps 0 7 ?_ ?_
  refine w_o (a := v29) ?_
  exact zb n18 hS0 hps
  refine zm hops rfl rfl ?_
  refine w_o (a := v36) (h := zv (zkh rfl rfl rfl rfl g3.1 g3.2)) ?_
  exact zb n20 hS0 hps
 have n15 : N 17 111 G0 := by
  refine zab hops hS0 hps 4 7 ?_ ?_
  refine zm hops rfl rfl ?_
  refine zp ?_
  exact zb n18 hS0 hps
  refine zm hops rfl rfl ?_
  refine w_o (a := v36) (h := zv (zkh rfl rfl rfl rfl g3.1 g3.2)) ?_
  exact zb n19 hS0 hps
 have n14 : N 17 63 G0 := by
  refine zan hops hS0 hps 6 ?_
  refine zm hops rfl rfl ?_
  refine w_o (a := v35) (h := zv (zba rfl rfl rfl)) ?_
  exact zb n18 hS0 hps
 have n13 : N 18 110 G0 := by
  refine zdy hops hS0 hps 0 4 7 ?_ ?_ ?_
  refine w_o (a := v29) ?_
  exact zb n15 hS0 hps
  refine zm hops rfl rfl ?_
  refine zp ?_
  exact zb n16 hS0 hps
  refine zm hops rfl rfl ?_
  refine w_o (a := v36) (h := zv (zkh rfl rfl rfl rfl g3.1 g3.2)) ?_
  exact zb n17 hS0 hps
 have n12 : N 18 62 G0 := by
  refine zab hops hS0 hps 0 6 ?_ ?_
  refine w_o (a := v29) ?_
  exact zb n14 hS0 hps
  refine zm hops rfl rfl ?_
  refine w_o (a := v35) (h := zv (zba rfl rfl rfl)) ?_
  exact zb n16 hS0 hps
 have n11 : N 18 47 G0 := by
  refine zab hops hS0 hps 4 6 ?_ ?_
  refine zm hops rfl rfl ?_
  refine zp ?_
  exact zb n14 hS0 hps
  refine zm hops rfl rfl ?_
  refine w_o (a := v35) (h := zv (zba rfl rfl rfl)) ?_
  exact zb n15 hS0 hps
 have n10 : N 18 31 G0 := by
  refine zan hops hS0 hps 5 ?_
  refine zm hops rfl rfl ?_
  refine zp ?_
  exact zb n14 hS0 hps
 have n9 : N 19 46 G0 := by
  refine zdy hops hS0 hps 0 4 6 ?_ ?_ ?_
  refine w_o (a := v29) ?_
  exact zb n11 hS0 hps
  refine zm hops rfl rfl ?_
  refine zp ?_
  exact zb n12 hS0 hps
  refine zm hops rfl rfl ?_
  refine w_o (a := v35) (h := zv (zba rfl rfl rfl)) ?_
  exact zb n13 hS0 hps
 have n8 : N 19 30 G0 := by
  refine zab hops hS0 hps 0 5 ?_ ?_
  refine w_o (a := v29) ?_
  exact zb n10 hS0 hps
  refine zm hops rfl rfl ?_
  refine zp ?_
  exact zb n12 hS0 hps
 have n7 : N 19 15 G0 := by
  refine zab hops hS0 hps 4 5 ?_ ?_
  refine zm hops rfl rfl ?_
  refine zp ?_
  exact zb n10 hS0 hps
  refine zm hops rfl rfl ?_
  refine zp ?_
  exact zb n11 hS0 hps
 have n6 : N 20 14 G0 := by
  refine zdy hops hS0 hps 0 4 5 ?_ ?_ ?_
  refine w_o (a := v29) ?_
  exact zb n7 hS0 hps
  refine zm hops rfl rfl ?_
  refine zp ?_
  exact zb n8 hS0 hps
  refine zm hops rfl rfl ?_
  refine zp ?_
  exact zb n9 hS0 hps
 have n5 : N 20 7 G0 := by
  refine zan hops hS0 hps 3 ?_
  refine w_o (a := v32) (h := zv (zae rfl hc3)) ?_
  exact zb n7 hS0 hps
 have n4 : N 21 6 G0 := by
  refine zab hops hS0 hps 0 3 ?_ ?_
  refine w_o (a := v29) ?_
  exact zb n5 hS0 hps
  refine w_o (a := v32) (h := zv (zae rfl hc3)) ?_
  exact zb n6 hS0 hps
 have n3 : N 21 3 G0 := by
  refine zan hops hS0 hps 2 ?_
  refine w_o (a := v31) ?_
  exact zb n5 hS0 hps
 have n2 : N 22 2 G0 := by
  refine zab hops hS0 hps 0 2 ?_ ?_
  refine w_o (a := v29) ?_
  exact zb n3 hS0 hps
  refine w_o (a := v31) ?_
  exact zb n4 hS0 hps
 have n1 : N 22 1 G0 := by
  refine zan hops hS0 hps 1 ?_
  refine zp ?_
  exact zb n3 hS0 hps
 have n0 : N 23 0 G0 := by
  refine zab hops hS0 hps 0 1 ?_ ?_
  refine w_o (a := v29) ?_
  exact zb n1 hS0 hps
  refine zp ?_
  exact zb n2 hS0 hps
 exact zc1 n0 hps
 replace h := zq h hr1
 exact zam (fun (r : (En × Bool)) => .tup [.A (r.1 : En), .b r.2]) h (.tup [.A ((En.mk 1 0 0 x3.1) : En), .b false])
 refine zc8 (id := 8) [.s s, .i a, .raw undef, .raw undef, .ptr 0 0, .b false, .ptr 1 0, .s x3.1, .i x3.2.1, .i x3.2.2, .raw undef, .s s, .i (List.length s : Int), .b (decide ((List.length s : Int) < 5)), .raw undef, .A ((En.mk 0 0 0 []) : En), .s s, .s x1, .b (x1 == ([115, 101, 110, 100, 32] : List UInt8)), .b (x1 == ([115, 101, 110, 100, 32] : List UInt8)), .tup [.s x3.1, .i x3.2.1, .i x3.2.2], .s s, .s x2, .tup [.s x3.1, .i x3.2.1, .i x3.2.2], .s x3.1, .i x3.2.1, .i x3.2.2, .s x3.1, .A ((En.mk 1 0 0 x3.1) : En), .A ((En.mk 1 0 0 x3.1) : En), .i x3.2.2, .b (x3.2.2 == 0), .b true, .i x3.2.1, .s s, .i (List.length s : Int), .i ((List.length s : Int) - 5), .b (x3.2.1 == ((List.length s : Int) - 5)), .b (x3.2.1 == ((List.length s : Int) - 5)), .b false, .raw undef, .raw undef, .raw undef, .b false, .b false, .raw undef, .raw undef, .raw undef, .raw undef, .b false, .raw undef, .raw undef, .raw undef, .raw undef, .raw undef, .raw undef, .raw undef, .raw undef, .raw undef, .raw undef, .raw undef, .raw undef, .raw undef, .raw undef, .raw undef, .raw undef, .raw undef, .raw undef, .raw undef, .raw undef, .raw undef, .raw undef, .raw undef, .raw undef, .raw undef, .raw undef, .raw undef, .raw undef, .raw undef, .raw undef] (.B [(67, (Enc.cells ((En.mk 1 0 0 x3.1) : En))), (67, (Enc.cells ((En.mk 1 0 0 x3.1) : En)))]) ?_ ?_
 refine zbs (fun ops hops FIN hFIN S0 hS0 => ?_)
 let v29 : AV := .A ((En.mk 1 0 0 x3.1) : En)
 let v31 : AV := .b (x3.2.2 == 0)
 let v32 : AV := .b true
 let v35 : AV := .i (List.length s : Int)
 let v36 : AV := .i ((List.length s : Int) - 5)
 let v37 : AV := .b (x3.2.1 == ((List.length s : Int) - 5))
 let v38 : AV := .b (x3.2.1 == ((List.length s : Int) - 5))
 let v39 : AV := .b false
 let v43 : AV := .b false
 let v49 : AV := .b false
 let G0 : St := (.B [(67, (Enc.cells ((En.mk 0 0 0 []) : En))), (67, (Enc.cells ((En.mk 1 0 0 x3.1) : En)))])
 let G1 : St := (.B [(67, (Enc.cells ((En.mk 1 0 0 x3.1) : En))), (67, (Enc.cells ((En.mk 1 0 0 x3.1) : En)))])
 obtain ⟨ps, hps⟩ : ∃ ps : List (Option (Nat × AV)), ps = [some (29, v29), some (30, .i x3.2.2), some (31, v31), some (32, v32), some (33, .i x3.2.1), some (34, .s s), some (35, v35), some (36, v36), some (37, v37), some (38, v38), some (39, v39), none, none, none, some (43, v43), some (44, .b false), none, none, none, none, some (49, v49), none, some (5, .b false)] := ⟨_, rfl⟩
 let N : Nat → Nat → St → Prop := fun k m σ => aN (ITP Tryz.prog) Tryz.prog none ops FIN S0 ps 23 k m σ
 have n58 : N 0 8388607 G1 := by
  exact zu5 hops hS0 hps (hFIN _ _ (Wk.refl _ _ _))
 have n57 : N 1 4194303 G1 := by
  refine zan hops hS0 hps 22 ?_
  refine zp ?_
  exact zb n58 hS0 hps
 have n56 : N 2 3145727 G1 := by
  refine zan hops hS0 hps 20 ?_
  refine w_o (a := v49) ?_
  exact zb n57 hS0 hps
 have n55 : N 2 2097151 G0 := by
  refine zan hops hS0 hps 21 ?_
  refine zcg 4 G1 ?_
  exact zb n57 hS0 hps
 have n54 : N 3 2097150 G0 := by
  refine zan hops hS0 hps 0 ?_
  refine w_o (a := v29) ?_
  exact zb n55 hS0 hps
 have n53 : N 3 2621439 G1 := by
  refine zan hops hS0 hps 19 ?_
  refine zy hops ?_
  exact zb n56 hS0 hps
 have n52 : N 3 1048575 G0 := by
  refine zab hops hS0 hps 20 21 ?_ ?_
  refine w_o (a := v49) ?_
  exact zb n55 hS0 hps
  refine zcg 4 G1 ?_
  exact zb n56 hS0 hps
 have n51 : N 4 1048574 G0 := by
  refine zab hops hS0 hps 0 20 ?_ ?_
  refine w_o (a := v29) ?_
  exact zb n52 hS0 hps
  refine w_o (a := v49) ?_
  exact zb n54 hS0 hps
 have n50 : N 4 2359295 G1 := by
  refine zan hops hS0 hps 18 ?_
  refine zy hops ?_
  exact zb n53 hS0 hps
 have n49 : N 4 524287 G0 := by
  refine zab hops hS0 hps 19 21 ?_ ?_
  refine zy hops ?_
  exact zb n52 hS0 hps
  refine zcg 4 G1 ?_
  exact zb n53 hS0 hps
 have n48 : N 5 524286 G0 := by
  refine zab hops hS0 hps 0 19 ?_ ?_
  refine w_o (a := v29) ?_
  exact zb n49 hS0 hps
  refine zy hops ?_
  exact zb n51 hS0 hps
 have n47 : N 5 393215 G0 := by
  refine zan hops hS0 hps 17 ?_
  refine zy hops ?_
  exact zb n49 hS0 hps
 have n46 : N 5 262143 G0 := by
  refine zab hops hS0 hps 18 21 ?_ ?_
  refine zy hops ?_
  exact zb n49 hS0 hps
  refine zcg 4 G1 ?_
  exact zb n50 hS0 hps
 have n45 : N 6 393214 G0 := by
  refine zab hops hS0 hps 0 17 ?_ ?_
  refine w_o (a := v29) ?_
  exact zb n47 hS0 hps
  refine zy hops ?_
  exact zb n48 hS0 hps
 have n44 : N 6 262142 G0 := by
  refine zab hops hS0 hps 0 18 ?_ ?_
  refine w_o (a := v29) ?_
  exact zb n46 hS0 hps
  refine zy hops ?_
  exact zb n48 hS0 hps
 have n43 : N 6 327679 G0 := by
  refine zan hops hS0 hps 16 ?_
  refine zy hops ?_
  exact zb n47 hS0 hps
 have n42 : N 6 131071 G0 := by
  refine zab hops hS0 hps 17 18 ?_ ?_
  refine zy hops ?_
  exact zb n46 hS0 hps
  refine zy hops ?_
  exact zb n47 hS0 hps
 have n41 : N 7 327678 G0 := by
  refine zab hops hS0 hps 0 16 ?_ ?_
  refine w_o (a := v29) ?_
  exact zb n43 hS0 hps
  refine zy hops ?_
  exact zb n45 hS0 hps
 have n40 : N 7 131070 G0 := by
  refine zdy hops hS0 hps 0 17 18 ?_ ?_ ?_
  refine w_o (a := v29) ?_
  exact zb n42 hS0 hps
  refine zy hops ?_
  exact zb n44 hS0 hps
  refine zy hops ?_
  exact zb n45 hS0 hps
 have n39 : N 7 65535 G0 := by
  refine zab hops hS0 hps 16 18 ?_ ?_
  refine zy hops ?_
  exact zb n42 hS0 hps
  refine zy hops ?_
  exact zb n43 hS0 hps
 have n38 : N 8 65534 G0 := by
  refine zdy hops hS0 hps 0 16 18 ?_ ?_ ?_
  refine w_o (a := v29) ?_
  exact zb n39 hS0 hps
  refine zy hops ?_
  exact zb n40 hS0 hps
  refine zy hops ?_
  exact zb n41 hS0 hps
 have n37 : N 8 32767 G0 := by
  refine zan hops hS0 hps 15 ?_
  refine zp ?_
  exact zb n39 hS0 hps
 have n36 : N 9 32766 G0 := by
  refine zab hops hS0 hps 0 15 ?_ ?_
  refine w_o (a := v29) ?_
  exact zb n37 hS0 hps
  refine zp ?_
  exact zb n38 hS0 hps
 have n35 : N 9 16383 G0 := by
  refine zan hops hS0 hps 14 ?_
  refine w_o (a := v43) ?_
  exact zb n37 hS0 hps
 have n34 : N 10 16382 G0 := by
  refine zab hops hS0 hps 0 14 ?_ ?_
  refine w_o (a := v29) ?_
  exact zb n35 hS0 hps
  refine w_o (a := v43) ?_
  exact zb n36 hS0 hps
 have n33 : N 10 8191 G0 := by
  refine zan hops hS0 hps 13 ?_
  refine zy hops ?_
  exact zb n35 hS0 hps
 have n32 : N 11 8190 G0 := by
  refine zab hops hS0 hps 0 13 ?_ ?_
  refine w_o (a := v29) ?_
  exact zb n33 hS0 hps
  refine zy hops ?_
  exact zb n34 hS0 hps
 have n31 : N 11 6143 G0 := by
  refine zan hops hS0 hps 11 ?_
  refine zy hops ?_
  exact zb n33 hS0 hps
 have n30 : N 11 4095 G0 := by
  refine zan hops hS0 hps 12 ?_
  refine zy hops ?_
  exact zb n33 hS0 hps
 have n29 : N 12 6142 G0 := by
  refine zab hops hS0 hps 0 11 ?_ ?_
  refine w_o (a := v29) ?_
  exact zb n31 hS0 hps
  refine zy hops ?_
  exact zb n32 hS0 hps
 have n28 : N 12 4094 G0 := by
  refine zab hops hS0 hps 0 12 ?_ ?_
  refine w_o (a := v29) ?_
  exact zb n30 hS0 hps
  refine zy hops ?_
  exact zb n32 hS0 hps
 have n27 : N 12 2047 G0 := by
  refine zab hops hS0 hps 11 12 ?_ ?_
  refine zy hops ?_
  exact zb n30 hS0 hps
  refine zy hops ?_
  exact zb n31 hS0 hps
 have n26 : N 13 2046 G0 := by
  refine zdy hops hS0 hps 0 11 12 ?_ ?_ ?_
  refine w_o (a := v29) ?_
  exact zb n27 hS0 hps
  refine zy hops ?_
  exact zb n28 hS0 hps
  refine zy hops ?_
  exact zb n29 hS0 hps
 have n25 : N 13 1023 G0 := by
  refine zan hops hS0 hps 10 ?_
  refine w_o (a := v39) (h := zv (zae rfl hc4)) ?_
  exact zb n27 hS0 hps
 have n24 : N 14 1022 G0 := by
  refine zab hops hS0 hps 0 10 ?_ ?_
  refine w_o (a := v29) ?_
  exact zb n25 hS0 hps
  refine w_o (a := v39) (h := zv (zae rfl hc4)) ?_
  exact zb n26 hS0 hps
 have n23 : N 14 511 G0 := by
  refine zan hops hS0 hps 9 ?_
  refine w_o (a := v38) ?_
  exact zb n25 hS0 hps
 have n22 : N 15 510 G0 := by
  refine zab hops hS0 hps 0 9 ?_ ?_
  refine w_o (a := v29) ?_
  exact zb n23 hS0 hps
  refine w_o (a := v38) ?_
  exact zb n24 hS0 hps
 have n21 : N 15 255 G0 := by
  refine zan hops hS0 hps 8 ?_
  refine zm hops rfl rfl ?_
  refine w_o (a := v37) ?_
  exact zb n23 hS0 hps
 have n20 : N 16 254 G0 := by
  refine zab hops hS0 hps 0 8 ?_ ?_
  refine w_o (a := v29) ?_
  exact zb n21 hS0 hps
  refine zm hops rfl rfl ?_
  refine w_o (a := v37) ?_
  exact zb n22 hS0 hps
 have n19 : N 16 239 G0 := by
  refine zan hops hS0 hps 4 ?_
  refine zm hops rfl rfl ?_
  refine zp ?_
  exact zb n21 hS0 hps
 have n18 : N 16 127 G0 := by
  refine zan hops hS0 hps 7 ?_
  refine zm hops rfl rfl ?_
  refine w_o (a := v36) (h := zv (zkh rfl rfl rfl rfl g3.1 g3.2)) ?_
  exact zb n21 hS0 hps
 have n17 : N 17 238 G0 := by
  refine zab hops hS0 hps 0 4 ?_ ?_
  refine w_o (a := v29) ?_
  exact zb n19 hS0 hps
  refine zm hops rfl rfl ?_
  refine zp ?_
  exact zb n20 hS0 hps
 have n16 : N 17 126 G0 := by
  refine zab hops hS0 hps 0 7 ?_ ?_
  refine w_o (a := v29) ?_
  exact zb n18 hS0 hps
  refine zm hops rfl rfl ?_
  refine w_o (a := v36) (h := zv (zkh rfl rfl rfl rfl g3.1 g3.2)) ?_
  exact zb n20 hS0 hps
 have n15 : N 17 111 G0 := by
  refine zab hops hS0 hps 4 7 ?_ ?_
  refine zm hops rfl rfl ?_
  refine zp ?_
  exact zb n18 hS0 hps
  refine zm hops rfl rfl ?_
  refine w_o (a := v36) (h := zv (zkh rfl rfl rfl rfl g3.1 g3.2)) ?_
  exact zb n19 hS0 hps
 have n14 : N 17 63 G0 := by
  refine zan hops hS0 hps 6 ?_
  refine zm hops rfl rfl ?_
  refine w_o (a := v35) (h := zv (zba rfl rfl rfl)) ?_
  exact zb n18 hS0 hps
 have n13 : N 18 110 G0 := by
  refine zdy hops hS0 hps 0 4 7 ?_ ?_ ?_
  refine w_o (a := v29) ?_
  exact zb n15 hS0 hps
  refine zm hops rfl rfl ?_
  refine zp ?_
  exact zb n16 hS0 hps
  refine zm hops rfl rfl ?_
  refine w_o (a := v36) (h := zv (zkh rfl rfl rfl rfl g3.1 g3.2)) ?_
  exact zb n17 hS0 hps
 have n12 : N 18 62 G0 := by
  refine zab hops hS0 hps 0 6 ?_ ?_
  refine w_o (a := v29) ?_
  exact zb n14 hS0 hps
  refine zm hops rfl rfl ?_
  refine w_o (a := v35) (h := zv (zba rfl rfl rfl)) ?_
  exact zb n16 hS0 hps
 have n11 : N 18 47 G0 := by
  refine zab hops hS0 hps 4 6 ?_ ?_
  refine zm hops rfl rfl ?_
  refine zp ?_
  exact zb n14 hS0 hps
  refine zm hops rfl rfl ?_
  refine w_o (a := v35) (h := zv (zba rfl rfl rfl)) ?_
  exact zb n15 hS0 hps
 have n10 : N 18 31 G0 := by
  refine zan hops hS0 hps 5 ?_
  refine zm hops rfl rfl ?_
  refine zp ?_
  exact zb n14 hS0 hps
 have n9 : N 19 46 G0 := by
  refine zdy hops hS0 hps 0 4 6 ?_ ?_ ?_
  refine w_o (a := v29) ?_
  exact zb n11 hS0 hps
  refine zm hops rfl rfl ?_
  refine zp ?_
  exact zb n12 hS0 hps
  refine zm hops rfl rfl ?_
  refine w_o (a := v35) (h := zv (zba rfl rfl rfl)) ?_
  exact zb n13 hS0 hps
 have n8 : N 19 30 G0 := by
  refine zab hops hS0 hps 0 5 ?_ ?_
  refine w_o (a := v29) ?_
  exact zb n10 hS0 hps
  refine zm hops rfl rfl ?_
  refine zp ?_
  exact zb n12 hS0 hps
 have n7 : N 19 15 G0 := by
  refine zab hops hS0 hps 4 5 ?_ ?_
  refine zm hops rfl rfl ?_
  refine zp ?_
  exact zb n10 hS0 hps
  refine zm hops rfl rfl ?_
  refine zp ?_
  exact zb n11 hS0 hps
 have n6 : N 20 14 G0 := by
  refine zdy hops hS0 hps 0 4 5 ?_ ?_ ?_
  refine w_o (a := v29) ?_
  exact zb n7 hS0 hps
  refine zm hops rfl rfl ?_
  refine zp ?_
  exact zb n8 hS0 hps
  refine zm hops rfl rfl ?_
  refine zp ?_
  exact zb n9 hS0 hps
 have n5 : N 20 7 G0 := by
  refine zan hops hS0 hps 3 ?_
  refine w_o (a := v32) (h := zv (zae rfl hc3)) ?_
  exact zb n7 hS0 hps
 have n4 : N 21 6 G0 := by
  refine zab hops hS0 hps 0 3 ?_ ?_
  refine w_o (a := v29) ?_
  exact zb n5 hS0 hps
  refine w_o (a := v32) (h := zv (zae rfl hc3)) ?_
  exact zb n6 hS0 hps
 have n3 : N 21 3 G0 := by
  refine zan hops hS0 hps 2 ?_
  refine w_o (a := v31) ?_
  exact zb n5 hS0 hps
 have n2 : N 22 2 G0 := by
  refine zab hops hS0 hps 0 2 ?_ ?_
  refine w_o (a := v29) ?_
  exact zb n3 hS0 hps
  refine w_o (a := v31) ?_
  exact zb n4 hS0 hps
 have n1 : N 22 1 G0 := by
  refine zan hops hS0 hps 1 ?_
  refine zp ?_
  exact zb n3 hS0 hps
 have n0 : N 23 0 G0 := by
  refine zab hops hS0 hps 0 1 ?_ ?_
  refine w_o (a := v29) ?_
  exact zb n1 hS0 hps
  refine zp ?_
  exact zb n2 hS0 hps
 exact zc1 n0 hps
 replace h := zq h hr1
 exact zam (fun (r : (En × Bool)) => .tup [.A (r.1 : En), .b r.2]) h (.tup [.A ((En.mk 1 0 0 x3.1) : En), .b false])
 refine zc8 (id := 8) [.s s, .i a, .raw undef, .raw undef, .ptr 0 0, .b false, .ptr 1 0, .s x3.1, .i x3.2.1, .i x3.2.2, .raw undef, .s s, .i (List.length s : Int), .b (decide ((List.length s : Int) < 5)), .raw undef, .A ((En.mk 0 0 0 []) : En), .s s, .s x1, .b (x1 == ([115, 101, 110, 100, 32] : List UInt8)), .b (x1 == ([115, 101, 110, 100, 32] : List UInt8)), .tup [.s x3.1, .i x3.2.1, .i x3.2.2], .s s, .s x2, .tup [.s x3.1, .i x3.2.1, .i x3.2.2], .s x3.1, .i x3.2.1, .i x3.2.2, .s x3.1, .A ((En.mk 1 0 0 x3.1) : En), .A ((En.mk 1 0 0 x3.1) : En), .i x3.2.2, .b (x3.2.2 == 0), .b false, .raw undef, .raw undef, .raw undef, .raw undef, .raw undef, .b false, .b false, .raw undef, .raw undef, .raw undef, .b false, .b false, .raw undef, .raw undef, .raw undef, .raw undef, .b false, .raw undef, .raw undef, .raw undef, .raw undef, .raw undef, .raw undef, .raw undef, .raw undef, .raw undef, .raw undef, .raw undef, .raw undef, .raw undef, .raw undef, .raw undef, .raw undef, .raw undef, .raw undef, .raw undef, .raw undef, .raw undef, .raw undef, .raw undef, .raw undef, .raw undef, .raw undef, .raw undef, .raw undef, .raw undef, .raw undef] (.B [(67, (Enc.cells ((En.mk 1 0 0 x3.1) : En))), (67, (Enc.cells ((En.mk 1 0 0 x3.1) : En)))]) ?_ ?_
 refine zbs (fun ops hops FIN hFIN S0 hS0 => ?_)
 let v29 : AV := .A ((En.mk 1 0 0 x3.1) : En)
 let v31 : AV := .b (x3.2.2 == 0)
 let v32 : AV := .b false
 let v38 : AV := .b false
 let v43 : AV := .b false
 let v49 : AV := .b false
 let G0 : St := (.B [(67, (Enc.cells ((En.mk 0 0 0 []) : En))), (67, (Enc.cells ((En.mk 1 0 0 x3.1) : En)))])
 let G1 : St := (.B [(67, (Enc.cells ((En.mk 1 0 0 x3.1) : En))), (67, (Enc.cells ((En.mk 1 0 0 x3.1) : En)))])
 obtain ⟨ps, hps⟩ : ∃ ps : List (Option (Nat × AV)), ps = [some (29, v29), some (30, .i x3.2.2), some (31, v31), some (32, v32), none, none, none, none, none, some (38, v38), some (39, .b false), none, none, none, some (43, v43), some (44, .b false), none, none, none, none, some (49, v49), none, some (5, .b false)] := ⟨_, rfl⟩
 let N : Nat → Nat → St → Prop := fun k m σ => aN (ITP Tryz.prog) Tryz.prog none ops FIN S0 ps 23 k m σ
 have n58 : N 0 8388607 G1 := by
  exact zu5 hops hS0 hps (hFIN _ _ (Wk.refl _ _ _))
 have n57 : N 1 4194303 G1 := by
  refine zan hops hS0 hps 22 ?_
  refine zp ?_
  exact zb n58 hS0 hps
 have n56 : N 2 3145727 G1 := by
  refine zan hops hS0 hps 20 ?_
  refine w_o (a := v49) ?_
  exact zb n57 hS0 hps
 have n55 : N 2 2097151 G0 := by
  refine zan hops hS0 hps 21 ?_
  refine zcg 4 G1 ?_
  exact zb n57 hS0 hps
 have n54 : N 3 2097150 G0 := by
  refine zan hops hS0 hps 0 ?_
  refine w_o (a := v29) ?_
  exact zb n55 hS0 hps
 have n53 : N 3 2621439 G1 := by
  refine zan hops hS0 hps 19 ?_
  refine zy hops ?_
  exact zb n56 hS0 hps
 have n52 : N 3 1048575 G0 := by
  refine zab hops hS0 hps 20 21 ?_ ?_
  refine w_o (a := v49) ?_
  exact zb n55 hS0 hps
  refine zcg 4 G1 ?_
  exact zb n56 hS0 hps
 have n51 : N 4 1048574 G0 := by
  refine zab hops hS0 hps 0 20 ?_ ?_
  refine w_o (a := v29) ?_
  exact zb n52 hS0 hps
  refine w_o (a := v49) ?_
  exact zb n54 hS0 hps
 have n50 : N 4 2359295 G1 := by
  refine zan hops hS0 hps 18 ?_
  refine zy hops ?_
  exact zb n53 hS0 hps
 have n49 : N 4 524287 G0 := by
  refine zab hops hS0 hps 19 21 ?_ ?_
  refine zy hops ?_
  exact zb n52 hS0 hps
  refine zcg 4 G1 ?_
  exact zb n53 hS0 hps
 have n48 : N 5 524286 G0 := by
  refine zab hops hS0 hps 0 19 ?_ ?_
  refine w_o (a := v29) ?_
  exact zb n49 hS0 hps
  refine zy hops ?_
  exact zb n51 hS0 hps
 have n47 : N 5 393215 G0 := by
  refine zan hops hS0 hps 17 ?_
  refine zy hops ?_
  exact zb n49 hS0 hps
 have n46 : N 5 262143 G0 := by
  refine zab hops hS0 hps 18 21 ?_ ?_
  refine zy hops ?_
  exact zb n49 hS0 hps
  refine zcg 4 G1 ?_
  exact zb n50 hS0 hps
 have n45 : N 6 393214 G0 := by
  refine zab hops hS0 hps 0 17 ?_ ?_
  refine w_o (a := v29) ?_
  exact zb n47 hS0 hps
  refine zy hops ?_
  exact zb n48 hS0 hps
 have n44 : N 6 262142 G0 := by
  refine zab hops hS0 hps 0 18 ?_ ?_
  refine w_o (a := v29) ?_
  exact zb n46 hS0 hps
  refine zy hops ?_
  exact zb n48 hS0 hps
 have n43 : N 6 327679 G0 := by
  refine zan hops hS0 hps 16 ?_
  refine zy hops ?_
  exact zb n47 hS0 hps
 have n42 : N 6 131071 G0 := by
  refine zab hops hS0 hps 17 18 ?_ ?_
  refine zy hops ?_
  exact zb n46 hS0 hps
  refine zy hops ?_
  exact zb n47 hS0 hps
 have n41 : N 7 327678 G0 := by
  refine zab hops hS0 hps 0 16 ?_ ?_
  refine w_o (a := v29) ?_
  exact zb n43 hS0 hps
  refine zy hops ?_
  exact zb n45 hS0 hps
 have n40 : N 7 131070 G0 := by
  refine zdy hops hS0 hps 0 17 18 ?_ ?_ ?_
  refine w_o (a := v29) ?_
  exact zb n42 hS0 hps
  refine zy hops ?_
  exact zb n44 hS0 hps
  refine zy hops ?_
  exact zb n45 hS0 hps
 have n39 : N 7 65535 G0 := by
  refine zab hops hS0 hps 16 18 ?_ ?_
  refine zy hops ?_
  exact zb n42 hS0 hps
  refine zy hops ?_
  exact zb n43 hS0 hps
 have n38 : N 8 65534 G0 := by
  refine zdy hops hS0 hps 0 16 18 ?_ ?_ ?_
  refine w_o (a := v29) ?_
  exact zb n39 hS0 hps
  refine zy hops ?_
  exact zb n40 hS0 hps
  refine zy hops ?_
  exact zb n41 hS0 hps
 have n37 : N 8 32767 G0 := by
  refine zan hops hS0 hps 15 ?_
  refine zp ?_
  exact zb n39 hS0 hps
 have n36 : N 9 32766 G0 := by
  refine zab hops hS0 hps 0 15 ?_ ?_
  refine w_o (a := v29) ?_
  exact zb n37 hS0 hps
  refine zp ?_
  exact zb n38 hS0 hps
 have n35 : N 9 16383 G0 := by
  refine zan hops hS0 hps 14 ?_
  refine w_o (a := v43) ?_
  exact zb n37 hS0 hps
 have n34 : N 10 16382 G0 := by
  refine zab hops hS0 hps 0 14 ?_ ?_
  refine w_o (a := v29) ?_
  exact zb n35 hS0 hps
  refine w_o (a := v43) ?_
  exact zb n36 hS0 hps
 have n33 : N 10 8191 G0 := by
  refine zan hops hS0 hps 13 ?_
  refine zy hops ?_
  exact zb n35 hS0 hps
 have n32 : N 11 8190 G0 := by
  refine zab hops hS0 hps 0 13 ?_ ?_
  refine w_o (a := v29) ?_
  exact zb n33 hS0 hps
  refine zy hops ?_
  exact zb n34 hS0 hps
 have n31 : N 11 6143 G0 := by
  refine zan hops hS0 hps 11 ?_
  refine zy hops ?_
  exact zb n33 hS0 hps
 have n30 : N 11 4095 G0 := by
  refine zan hops hS0 hps 12 ?_
  refine zy hops ?_
  exact zb n33 hS0 hps
 have n29 : N 12 6142 G0 := by
  refine zab hops hS0 hps 0 11 ?_ ?_
  refine w_o (a := v29) ?_
  exact zb n31 hS0 hps
  refine zy hops ?_
  exact zb n32 hS0 hps
 have n28 : N 12 4094 G0 := by
  refine zab hops hS0 hps 0 12 ?_ ?_
  refine w_o (a := v29) ?_
  exact zb n30 hS0 hps
  refine zy hops ?_
  exact zb n32 hS0 hps
 have n27 : N 12 2047 G0 := by
  refine zab hops hS0 hps 11 12 ?_ ?_
  refine zy hops ?_
  exact zb n30 hS0 hps
  refine zy hops ?_
  exact zb n31 hS0 hps
 have n26 : N 13 2046 G0 := by
  refine zdy hops hS0 hps 0 11 12 ?_ ?_ ?_
  refine w_o (a := v29) ?_
  exact zb n27 hS0 hps
  refine zy hops ?_
  exact zb n28 hS0 hps
  refine zy hops ?_
  exact zb n29 hS0 hps
 have n25 : N 13 1023 G0 := by
  refine zan hops hS0 hps 10 ?_
  refine zp ?_
  exact zb n27 hS0 hps
 have n24 : N 14 1022 G0 := by
  refine zab hops hS0 hps 0 10 ?_ ?_
  refine w_o (a := v29) ?_
  exact zb n25 hS0 hps
  refine zp ?_
  exact zb n26 hS0 hps
 have n23 : N 14 511 G0 := by
  refine zan hops hS0 hps 9 ?_
  refine w_o (a := v38) ?_
  exact zb n25 hS0 hps
 have n22 : N 15 510 G0 := by
  refine zab hops hS0 hps 0 9 ?_ ?_
  refine w_o (a := v29) ?_
  exact zb n23 hS0 hps
  refine w_o (a := v38) ?_
  exact zb n24 hS0 hps
 have n21 : N 15 255 G0 := by
  refine zan hops hS0 hps 8 ?_
  refine zy hops ?_
  exact zb n23 hS0 hps
 have n20 : N 16 254 G0 := by
  refine zab hops hS0 hps 0 8 ?_ ?_
  refine w_o (a := v29) ?_
  exact zb n21 hS0 hps
  refine zy hops ?_
  exact zb n22 hS0 hps
 have n19 : N 16 239 G0 := by
  refine zan hops hS0 hps 4 ?_
  refine zy hops ?_
  exact zb n21 hS0 hps
 have n18 : N 16 127 G0 := by
  refine zan hops hS0 hps 7 ?_
  refine zy hops ?_
  exact zb n21 hS0 hps
 have n17 : N 17 238 G0 := by
  refine zab hops hS0 hps 0 4 ?_ ?_
  refine w_o (a := v29) ?_
  exact zb n19 hS0 hps
  refine zy hops ?_
  exact zb n20 hS0 hps
 have n16 : N 17 126 G0 := by
  refine zab hops hS0 hps 0 7 ?_ ?_
  refine w_o (a := v29) ?_
  exact zb n18 hS0 hps
  refine zy hops ?_
  exact zb n20 hS0 hps
 have n15 : N 17 111 G0 := by
  refine zab hops hS0 hps 4 7 ?_ ?_
  refine zy hops ?_
  exact zb n18 hS0 hps
  refine zy hops ?_
  exact zb n19 hS0 hps
 have n14 : N 17 63 G0 := by
  refine zan hops hS0 hps 6 ?_
  refine zy hops ?_
  exact zb n18 hS0 hps
 have n13 : N 18 110 G0 := by
  refine zdy hops hS0 hps 0 4 7 ?_ ?_ ?_
  refine w_o (a := v29) ?_
  exact zb n15 hS0 hps
  refine zy hops ?_
  exact zb n16 hS0 hps
  refine zy hops ?_
  exact zb n17 hS0 hps
 have n12 : N 18 62 G0 := by
  refine zab hops hS0 hps 0 6 ?_ ?_
  refine w_o (a := v29) ?_
  exact zb n14 hS0 hps
  refine zy hops ?_
  exact zb n16 hS0 hps
 have n11 : N 18 47 G0 := by
  refine zab hops hS0 hps 4 6 ?_ ?_
  refine zy hops ?_
  exact zb n14 hS0 hps
  refine zy hops ?_
  exact zb n15 hS0 hps
 have n10 : N 18 31 G0 := by
  refine zan hops hS0 hps 5 ?_
  refine zy hops ?_
  exact zb n14 hS0 hps
 have n9 : N 19 46 G0 := by
  refine zdy hops hS0 hps 0 4 6 ?_ ?_ ?_
  refine w_o (a := v29) ?_
  exact zb n11 hS0 hps
  refine zy hops ?_
  exact zb n12 hS0 hps
  refine zy hops ?_
  exact zb n13 hS0 hps
 have n8 : N 19 30 G0 := by
  refine zab hops hS0 hps 0 5 ?_ ?_
  refine w_o (a := v29) ?_
  exact zb n10 hS0 hps
  refine zy hops ?_
  exact zb n12 hS0 hps
 have n7 : N 19 15 G0 := by
  refine zab hops hS0 hps 4 5 ?_ ?_
  refine zy hops ?_
  exact zb n10 hS0 hps
  refine zy hops ?_
  exact zb n11 hS0 hps
 have n6 : N 20 14 G0 := by
  refine zdy hops hS0 hps 0 4 5 ?_ ?_ ?_
  refine w_o (a := v29) ?_
  exact zb n7 hS0 hps
  refine zy hops ?_
  exact zb n8 hS0 hps
  refine zy hops ?_
  exact zb n9 hS0 hps
 have n5 : N 20 7 G0 := by
  refine zan hops hS0 hps 3 ?_
  refine w_o (a := v32) (h := zv (zae rfl hc3)) ?_
  exact zb n7 hS0 hps
 have n4 : N 21 6 G0 := by
  refine zab hops hS0 hps 0 3 ?_ ?_
  refine w_o (a := v29) ?_
  exact zb n5 hS0 hps
  refine w_o (a := v32) (h := zv (zae rfl hc3)) ?_
  exact zb n6 hS0 hps
 have n3 : N 21 3 G0 := by
  refine zan hops hS0 hps 2 ?_
  refine w_o (a := v31) ?_
  exact zb n5 hS0 hps
 have n2 : N 22 2 G0 := by
  refine zab hops hS0 hps 0 2 ?_ ?_
  refine w_o (a := v29) ?_
  exact zb n3 hS0 hps
  refine w_o (a := v31) ?_
  exact zb n4 hS0 hps
 have n1 : N 22 1 G0 := by
  refine zan hops hS0 hps 1 ?_
  refine zp ?_
  exact zb n3 hS0 hps
 have n0 : N 23 0 G0 := by
  refine zab hops hS0 hps 0 1 ?_ ?_
  refine w_o (a := v29) ?_
  exact zb n1 hS0 hps
  refine zp ?_
  exact zb n2 hS0 hps
 exact zc1 n0 hps
 replace h := zq h hr1
 exact zam (fun (r : (En × Bool)) => .tup [.A (r.1 : En), .b r.2]) h (.tup [.A ((En.mk 1 0 0 x3.1) : En), .b false])
 refine zj (zc ?_)
 refine w_o (a := .b (x1 == ([116, 97, 107, 101, 32] : List UInt8))) (h := zv (zb7 rfl rfl rfl)) ?_
 refine zp ?_
 refine za3 h (fun hc6 h => ?_) (fun hc6 h => ?_)
 refine zc (k0 := 0) (id := 10) ?_
 refine w_o (a := .ptr 1 0) ?_
 refine zbr (σ'' := (.B [(67, (Enc.cells ((En.mk 0 0 0 []) : En))), (67, (Enc.cells ((En.mk 2 ((En.mk 0 0 0 []).fr) ((En.mk 0 0 0 []).to) ((En.mk 0 0 0 []).b)) : En)))])) (h := zca (n := 1) rfl rfl rfl rfl rfl ⟨rfl, rfl, Nat.le_of_ble_eq_true rfl, by decide⟩) ?_
 refine zg (o := or1) ((En.mk 2 ((En.mk 0 0 0 []).fr) ((En.mk 0 0 0 []).to) ((En.mk 0 0 0 []).b))) h ?_
 exact zao (bl 80 83)
 refine zj (zc ?_)
 refine w_o (a := .b (x1 == ([108, 111, 115, 101, 32] : List UInt8))) (h := zv (zb7 rfl rfl rfl)) ?_
 refine zp ?_
 refine za3 h (fun hc7 h => ?_) (fun hc7 h => ?_)
 refine zc (k0 := 0) (id := 12) ?_
 refine w_o (a := .ptr 1 0) ?_
 refine zbr (σ'' := (.B [(67, (Enc.cells ((En.mk 0 0 0 []) : En))), (67, (Enc.cells ((En.mk 3 ((En.mk 0 0 0 []).fr) ((En.mk 0 0 0 []).to) ((En.mk 0 0 0 []).b)) : En)))])) (h := zca (n := 1) rfl rfl rfl rfl rfl ⟨rfl, rfl, Nat.le_of_ble_eq_true rfl, by decide⟩) ?_
 refine zg (o := or1) ((En.mk 3 ((En.mk 0 0 0 []).fr) ((En.mk 0 0 0 []).to) ((En.mk 0 0 0 []).b))) h ?_
 exact zao (bl 80 83)
 refine zg (o := or1) ((En.mk 0 0 0 [])) h ?_
 exact zao (bl 80 83)
 intro j1 h
 refine zbn ?_
 refine zk [.m _] ?_
 obtain ⟨g4, h⟩ := zf h
 obtain ⟨x6, hx6, h⟩ := zo h
 refine w_o (a := .s x6) (h := zv (by rw [← hx6]; exact (zmq (l := s) g4 rfl rfl rfl rfl))) ?_
 obtain ⟨x7, hx7, h⟩ := zl h
 refine zbc (zui fuel x6 x7 hx7) ?_
 refine zp ?_
 refine zj ?_
 refine zk [.m _, .v (.i (List.length x7 : Int)), .v (.b ((List.length x7 : Int) != 2))] ?_
 refine zaa h (fun hc8 h => ?_) (fun hc8 h => ?_)
 refine zar hc8 ?_
 refine w_r [.p, .p, .p, .v (.b true)] ?_
 refine za6 rfl ?_
 refine zk [.v (.A ((En.mk 0 0 0 []) : En))] ?_
 refine zcg 4 (.B [(67, (Enc.cells ((En.mk 0 0 0 []) : En))), (67, (Enc.cells (j1 : En)))]) ?_
 refine w_o (a := .b false) ?_
 exact zam (fun (r : (En × Bool)) => .tup [.A (r.1 : En), .b r.2]) h (.tup [.A ((En.mk 0 0 0 []) : En), .b false])
 refine zar hc8 ?_
 refine w_r [.v (.ptr 1 0), .v (.u j1.k), .v (.b (j1.k == 0)), .v (.b (j1.k == 0))] ?_
 refine za3 h (fun hc9 h => ?_) (fun hc9 h => ?_)
 refine zk [.v (.A ((En.mk 0 0 0 []) : En))] ?_
 refine zcg 4 (.B [(67, (Enc.cells ((En.mk 0 0 0 []) : En))), (67, (Enc.cells (j1 : En)))]) ?_
 refine w_o (a := .b false) ?_
 exact zam (fun (r : (En × Bool)) => .tup [.A (r.1 : En), .b r.2]) h (.tup [.A ((En.mk 0 0 0 []) : En), .b false])
 obtain ⟨g5, h⟩ := zf h
 obtain ⟨g6, h⟩ := zf h
 refine zc8 (id := 16) [.s s, .i a, .top, .top, .ptr 0 0, .top, .ptr 1 0, .top, .top, .top, .L (x7 : List Int), .top, .top, .top, .top, .top, .top, .top, .top, .top, .top, .top, .top, .top, .top, .top, .top, .top, .top, .top, .top, .top, .top, .top, .top, .top, .top, .top, .top, .top, .top, .top, .top, .top, .top, .top, .top, .top, .top, .top, .top, .top, .top, .top, .top, .top, .s s, .s x6, .L (x7 : List Int), .L (x7 : List Int), .i (List.length x7 : Int), .b ((List.length x7 : Int) != 2), .b false, .ptr 1 0, .u j1.k, .b (j1.k == 0), .b (j1.k == 0), .top, .L (x7 : List Int), .iptr (Enc.cells (ix x7 (0 : Int)) ++ Enc.cellsL (List.drop (Int.toNat (0 : Int) + 1) x7)), .i (ix x7 (0 : Int)), .L (x7 : List Int), .iptr (Enc.cells (ix x7 (1 : Int)) ++ Enc.cellsL (List.drop (Int.toNat (1 : Int) + 1) x7)), .i (ix x7 (1 : Int)), .ptr 1 1, .ptr 1 2, .top, .top, .top, .top] (.B [(67, (Enc.cells ((En.mk 0 0 0 []) : En))), (67, (Enc.cells ((En.mk ((En.mk j1.k (ix x7 (0 : Int)) j1.to j1.b).k) ((En.mk j1.k (ix x7 (0 : Int)) j1.to j1.b).fr) (ix x7 (1 : Int)) ((En.mk j1.k (ix x7 (0 : Int)) j1.to j1.b).b)) : En)))]) ?_ ?_
 refine zbs (fun ops hops FIN hFIN S0 hS0 => ?_)
 let v69 : AV := .iptr (Enc.cells (ix x7 (0 : Int)) ++ Enc.cellsL (List.drop (Int.toNat (0 : Int) + 1) x7))
 let v72 : AV := .iptr (Enc.cells (ix x7 (1 : Int)) ++ Enc.cellsL (List.drop (Int.toNat (1 : Int) + 1) x7))
 let v70 : AV := .i (ix x7 (0 : Int))
 let v73 : AV := .i (ix x7 (1 : Int))
 let v74 : AV := .ptr 1 1
 let v75 : AV := .ptr 1 2
 let G0 : St := (.B [(67, (Enc.cells ((En.mk 0 0 0 []) : En))), (67, (Enc.cells (j1 : En)))])
 let G1 : St := (.B [(67, (Enc.cells ((En.mk 0 0 0 []) : En))), (67, (Enc.cells ((En.mk j1.k (ix x7 (0 : Int)) j1.to j1.b) : En)))])
 let G2 : St := (.B [(67, (Enc.cells ((En.mk 0 0 0 []) : En))), (67, (Enc.cells ((En.mk ((En.mk j1.k (ix x7 (0 : Int)) j1.to j1.b).k) ((En.mk j1.k (ix x7 (0 : Int)) j1.to j1.b).fr) (ix x7 (1 : Int)) ((En.mk j1.k (ix x7 (0 : Int)) j1.to j1.b).b)) : En)))])
 obtain ⟨ps, hps⟩ : ∃ ps : List (Option (Nat × AV)), ps = [some (68, .L (x7 : List Int)), some (69, v69), some (70, v70), some (71, .L (x7 : List Int)), some (72, v72), some (73, v73), some (74, v74), none, some (75, v75), none] := ⟨_, rfl⟩
 let N : Nat → Nat → St → Prop := fun k m σ => aN (ITP Tryz.prog) Tryz.prog none ops FIN S0 ps 10 k m σ
 have n25 : N 0 1023 G2 := by
  exact zu5 hops hS0 hps (hFIN _ _ (Wk.refl _ _ _))
 have n24 : N 1 511 G1 := by
  refine zan hops hS0 hps 9 ?_
  refine zbr (σ'' := G2) (h := zca (n := 1) rfl rfl rfl rfl rfl ⟨rfl, rfl, Nat.le_of_ble_eq_true rfl, by decide⟩) ?_
  exact zb n25 hS0 hps
 have n23 : N 2 255 G1 := by
  refine zan hops hS0 hps 8 ?_
  refine w_o (a := v75) ?_
  exact zb n24 hS0 hps
 have n22 : N 3 223 G1 := by
  refine zan hops hS0 hps 5 ?_
  refine w_o (a := v73) ?_
  exact zb n23 hS0 hps
 have n21 : N 3 127 G0 := by
  refine zan hops hS0 hps 7 ?_
  refine zbr (σ'' := G1) (h := zca (n := 1) rfl rfl rfl rfl rfl ⟨rfl, rfl, Nat.le_of_ble_eq_true rfl, by decide⟩) ?_
  exact zb n23 hS0 hps
 have n20 : N 4 207 G1 := by
  refine zan hops hS0 hps 4 ?_
  refine w_o (a := v72) (h := zv (zgd (α := Int) (l := x7) g6 rfl rfl rfl rfl rfl)) ?_
  exact zb n22 hS0 hps
 have n19 : N 4 95 G0 := by
  refine zab hops hS0 hps 5 7 ?_ ?_
  refine w_o (a := v73) ?_
  exact zb n21 hS0 hps
  refine zbr (σ'' := G1) (h := zca (n := 1) rfl rfl rfl rfl rfl ⟨rfl, rfl, Nat.le_of_ble_eq_true rfl, by decide⟩) ?_
  exact zb n22 hS0 hps
 have n18 : N 4 63 G0 := by
  refine zan hops hS0 hps 6 ?_
  refine w_o (a := v74) ?_
  exact zb n21 hS0 hps
 have n17 : N 5 59 G0 := by
  refine zan hops hS0 hps 2 ?_
  refine w_o (a := v70) ?_
  exact zb n18 hS0 hps
 have n16 : N 5 199 G1 := by
  refine zan hops hS0 hps 3 ?_
  refine zp ?_
  exact zb n20 hS0 hps
 have n15 : N 5 79 G0 := by
  refine zab hops hS0 hps 4 7 ?_ ?_
  refine w_o (a := v72) (h := zv (zgd (α := Int) (l := x7) g6 rfl rfl rfl rfl rfl)) ?_
  exact zb n19 hS0 hps
  refine zbr (σ'' := G1) (h := zca (n := 1) rfl rfl rfl rfl rfl ⟨rfl, rfl, Nat.le_of_ble_eq_true rfl, by decide⟩) ?_
  exact zb n20 hS0 hps
 have n14 : N 5 31 G0 := by
  refine zab hops hS0 hps 5 6 ?_ ?_
  refine w_o (a := v73) ?_
  exact zb n18 hS0 hps
  refine w_o (a := v74) ?_
  exact zb n19 hS0 hps
 have n13 : N 6 57 G0 := by
  refine zan hops hS0 hps 1 ?_
  refine w_o (a := v69) (h := zv (zgd (α := Int) (l := x7) g5 rfl rfl rfl rfl rfl)) ?_
  exact zb n17 hS0 hps
 have n12 : N 6 27 G0 := by
  refine zab hops hS0 hps 2 5 ?_ ?_
  refine w_o (a := v70) ?_
  exact zb n14 hS0 hps
  refine w_o (a := v73) ?_
  exact zb n17 hS0 hps
 have n11 : N 6 71 G0 := by
  refine zab hops hS0 hps 3 7 ?_ ?_
  refine zp ?_
  exact zb n15 hS0 hps
  refine zbr (σ'' := G1) (h := zca (n := 1) rfl rfl rfl rfl rfl ⟨rfl, rfl, Nat.le_of_ble_eq_true rfl, by decide⟩) ?_
  exact zb n16 hS0 hps
 have n10 : N 6 15 G0 := by
  refine zab hops hS0 hps 4 6 ?_ ?_
  refine w_o (a := v72) (h := zv (zgd (α := Int) (l := x7) g6 rfl rfl rfl rfl rfl)) ?_
  exact zb n14 hS0 hps
  refine w_o (a := v74) ?_
  exact zb n15 hS0 hps
 have n9 : N 7 56 G0 := by
  refine zan hops hS0 hps 0 ?_
  refine zp ?_
  exact zb n13 hS0 hps
 have n8 : N 7 25 G0 := by
  refine zab hops hS0 hps 1 5 ?_ ?_
  refine w_o (a := v69) (h := zv (zgd (α := Int) (l := x7) g5 rfl rfl rfl rfl rfl)) ?_
  exact zb n12 hS0 hps
  refine w_o (a := v73) ?_
  exact zb n13 hS0 hps
 have n7 : N 7 11 G0 := by
  refine zab hops hS0 hps 2 4 ?_ ?_
  refine w_o (a := v70) ?_
  exact zb n10 hS0 hps
  refine w_o (a := v72) (h := zv (zgd (α := Int) (l := x7) g6 rfl rfl rfl rfl rfl)) ?_
  exact zb n12 hS0 hps
 have n6 : N 7 7 G0 := by
  refine zab hops hS0 hps 3 6 ?_ ?_
  refine zp ?_
  exact zb n10 hS0 hps
  refine w_o (a := v74) ?_
  exact zb n11 hS0 hps
 have n5 : N 8 24 G0 := by
  refine zab hops hS0 hps 0 5 ?_ ?_
  refine zp ?_
  exact zb n8 hS0 hps
  refine w_o (a := v73) ?_
  exact zb n9 hS0 hps
 have n4 : N 8 9 G0 := by
  refine zab hops hS0 hps 1 4 ?_ ?_
  refine w_o (a := v69) (h := zv (zgd (α := Int) (l := x7) g5 rfl rfl rfl rfl rfl)) ?_
  exact zb n7 hS0 hps
  refine w_o (a := v72) (h := zv (zgd (α := Int) (l := x7) g6 rfl rfl rfl rfl rfl)) ?_
  exact zb n8 hS0 hps
 have n3 : N 8 3 G0 := by
  refine zab hops hS0 hps 2 3 ?_ ?_
  refine w_o (a := v70) ?_
  exact zb n6 hS0 hps
  refine zp ?_
  exact zb n7 hS0 hps
 have n2 : N 9 8 G0 := by
  refine zab hops hS0 hps 0 4 ?_ ?_
  refine zp ?_
  exact zb n4 hS0 hps
  refine w_o (a := v72) (h := zv (zgd (α := Int) (l := x7) g6 rfl rfl rfl rfl rfl)) ?_
  exact zb n5 hS0 hps
 have n1 : N 9 1 G0 := by
  refine zab hops hS0 hps 1 3 ?_ ?_
  refine w_o (a := v69) (h := zv (zgd (α := Int) (l := x7) g5 rfl rfl rfl rfl rfl)) ?_
  exact zb n3 hS0 hps
  refine zp ?_
  exact zb n4 hS0 hps
 have n0 : N 10 0 G0 := by
  refine zab hops hS0 hps 0 3 ?_ ?_
  refine zp ?_
  exact zb n1 hS0 hps
  refine zp ?_
  exact zb n2 hS0 hps
 exact zc1 n0 hps
 obtain ⟨x8, hx8, h⟩ := zl h
 refine zc8 (id := 17) [.s s, .i a, .top, .top, .ptr 0 0, .b x8, .ptr 1 0, .top, .top, .top, .L (x7 : List Int), .top, .top, .top, .top, .top, .top, .top, .top, .top, .top, .top, .top, .top, .top, .top, .top, .top, .top, .top, .top, .top, .top, .top, .top, .top, .top, .top, .top, .top, .top, .top, .top, .top, .top, .top, .top, .top, .top, .top, .top, .top, .top, .top, .top, .top, .s s, .s x6, .L (x7 : List Int), .L (x7 : List Int), .i (List.length x7 : Int), .b ((List.length x7 : Int) != 2), .b false, .ptr 1 0, .u j1.k, .b (j1.k == 0), .b (j1.k == 0), .top, .L (x7 : List Int), .iptr (Enc.cells (ix x7 (0 : Int)) ++ Enc.cellsL (List.drop (Int.toNat (0 : Int) + 1) x7)), .i (ix x7 (0 : Int)), .L (x7 : List Int), .iptr (Enc.cells (ix x7 (1 : Int)) ++ Enc.cellsL (List.drop (Int.toNat (1 : Int) + 1) x7)), .i (ix x7 (1 : Int)), .ptr 1 1, .ptr 1 2, .A ((En.mk ((En.mk j1.k (ix x7 (0 : Int)) j1.to j1.b).k) ((En.mk j1.k (ix x7 (0 : Int)) j1.to j1.b).fr) (ix x7 (1 : Int)) ((En.mk j1.k (ix x7 (0 : Int)) j1.to j1.b).b)) : En), .A ((En.mk ((En.mk j1.k (ix x7 (0 : Int)) j1.to j1.b).k) ((En.mk j1.k (ix x7 (0 : Int)) j1.to j1.b).fr) (ix x7 (1 : Int)) ((En.mk j1.k (ix x7 (0 : Int)) j1.to j1.b).b)) : En), .i a, .b x8] (.B [(67, (Enc.cells ((En.mk ((En.mk j1.k (ix x7 (0 : Int)) j1.to j1.b).k) ((En.mk j1.k (ix x7 (0 : Int)) j1.to j1.b).fr) (ix x7 (1 : Int)) ((En.mk j1.k (ix x7 (0 : Int)) j1.to j1.b).b)) : En))), (67, (Enc.cells ((En.mk ((En.mk j1.k (ix x7 (0 : Int)) j1.to j1.b).k) ((En.mk j1.k (ix x7 (0 : Int)) j1.to j1.b).fr) (ix x7 (1 : Int)) ((En.mk j1.k (ix x7 (0 : Int)) j1.to j1.b).b)) : En)))]) ?_ ?_
 refine zbs (fun ops hops FIN hFIN S0 hS0 => ?_)
 let v76 : AV := .A ((En.mk ((En.mk j1.k (ix x7 (0 : Int)) j1.to j1.b).k) ((En.mk j1.k (ix x7 (0 : Int)) j1.to j1.b).fr) (ix x7 (1 : Int)) ((En.mk j1.k (ix x7 (0 : Int)) j1.to j1.b).b)) : En)
 let v77 : AV := .A ((En.mk ((En.mk j1.k (ix x7 (0 : Int)) j1.to j1.b).k) ((En.mk j1.k (ix x7 (0 : Int)) j1.to j1.b).fr) (ix x7 (1 : Int)) ((En.mk j1.k (ix x7 (0 : Int)) j1.to j1.b).b)) : En)
 let v79 : AV := .b x8
 let G0 : St := (.B [(67, (Enc.cells ((En.mk 0 0 0 []) : En))), (67, (Enc.cells ((En.mk ((En.mk j1.k (ix x7 (0 : Int)) j1.to j1.b).k) ((En.mk j1.k (ix x7 (0 : Int)) j1.to j1.b).fr) (ix x7 (1 : Int)) ((En.mk j1.k (ix x7 (0 : Int)) j1.to j1.b).b)) : En)))])
 let G1 : St := (.B [(67, (Enc.cells ((En.mk ((En.mk j1.k (ix x7 (0 : Int)) j1.to j1.b).k) ((En.mk j1.k (ix x7 (0 : Int)) j1.to j1.b).fr) (ix x7 (1 : Int)) ((En.mk j1.k (ix x7 (0 : Int)) j1.to j1.b).b)) : En))), (67, (Enc.cells ((En.mk ((En.mk j1.k (ix x7 (0 : Int)) j1.to j1.b).k) ((En.mk j1.k (ix x7 (0 : Int)) j1.to j1.b).fr) (ix x7 (1 : Int)) ((En.mk j1.k (ix x7 (0 : Int)) j1.to j1.b).b)) : En)))])
 obtain ⟨ps, hps⟩ : ∃ ps : List (Option (Nat × AV)), ps = [some (76, v76), some (77, v77), some (78, .i a), some (79, v79), none, some (5, .b x8)] := ⟨_, rfl⟩
 let N : Nat → Nat → St → Prop := fun k m σ => aN (ITP Tryz.prog) Tryz.prog none ops FIN S0 ps 6 k m σ
 have n11 : N 0 63 G1 := by
  exact zu5 hops hS0 hps (hFIN _ _ (Wk.refl _ _ _))
 have n10 : N 1 31 G1 := by
  refine zan hops hS0 hps 5 ?_
  refine zp ?_
  exact zb n11 hS0 hps
 have n9 : N 2 15 G0 := by
  refine zan hops hS0 hps 4 ?_
  refine zcg 4 G1 ?_
  exact zb n10 hS0 hps
 have n8 : N 3 14 G0 := by
  refine zan hops hS0 hps 0 ?_
  refine w_o (a := v76) ?_
  exact zb n9 hS0 hps
 have n7 : N 3 7 G0 := by
  refine zan hops hS0 hps 3 ?_
  refine zbc (zfa (En.mk ((En.mk j1.k (ix x7 (0 : Int)) j1.to j1.b).k) ((En.mk j1.k (ix x7 (0 : Int)) j1.to j1.b).fr) (ix x7 (1 : Int)) ((En.mk j1.k (ix x7 (0 : Int)) j1.to j1.b).b)) a x8 hx8) ?_
  exact zb n9 hS0 hps
 have n6 : N 4 6 G0 := by
  refine zab hops hS0 hps 0 3 ?_ ?_
  refine w_o (a := v76) ?_
  exact zb n7 hS0 hps
  refine zbc (zfa (En.mk ((En.mk j1.k (ix x7 (0 : Int)) j1.to j1.b).k) ((En.mk j1.k (ix x7 (0 : Int)) j1.to j1.b).fr) (ix x7 (1 : Int)) ((En.mk j1.k (ix x7 (0 : Int)) j1.to j1.b).b)) a x8 hx8) ?_
  exact zb n8 hS0 hps
 have n5 : N 4 5 G0 := by
  refine zan hops hS0 hps 1 ?_
  refine w_o (a := v77) ?_
  exact zb n7 hS0 hps
 have n4 : N 4 3 G0 := by
  refine zan hops hS0 hps 2 ?_
  refine zp ?_
  exact zb n7 hS0 hps
 have n3 : N 5 4 G0 := by
  refine zab hops hS0 hps 0 1 ?_ ?_
  refine w_o (a := v76) ?_
  exact zb n5 hS0 hps
  refine w_o (a := v77) ?_
  exact zb n6 hS0 hps
 have n2 : N 5 2 G0 := by
  refine zab hops hS0 hps 0 2 ?_ ?_
  refine w_o (a := v76) ?_
  exact zb n4 hS0 hps
  refine zp ?_
  exact zb n6 hS0 hps
 have n1 : N 5 1 G0 := by
  refine zab hops hS0 hps 1 2 ?_ ?_
  refine w_o (a := v77) ?_
  exact zb n4 hS0 hps
  refine zp ?_
  exact zb n5 hS0 hps
 have n0 : N 6 0 G0 := by
  refine zdy hops hS0 hps 0 1 2 ?_ ?_ ?_
  refine w_o (a := v76) ?_
  exact zb n1 hS0 hps
  refine w_o (a := v77) ?_
  exact zb n2 hS0 hps
  refine zp ?_
  exact zb n3 hS0 hps
 exact zc1 n0 hps
 exact zam (fun (r : (En × Bool)) => .tup [.A (r.1 : En), .b r.2]) h (.tup [.A ((En.mk ((En.mk j1.k (ix x7 (0 : Int)) j1.to j1.b).k) ((En.mk j1.k (ix x7 (0 : Int)) j1.to j1.b).fr) (ix x7 (1 : Int)) ((En.mk j1.k (ix x7 (0 : Int)) j1.to j1.b).b)) : En), .b x8])
def zmk (fuel : Nat) (s : (List UInt8)) : Option (Trc × Int × Int) :=
 (bif (decide ((List.length s : Int) > 1048576)) then (some ((Trc.mk [] (Ed.mk 0 0)), 0, 3)) else (zcr (τ := Int × Trc) (zbh (β := Int × Int × Int × Trc) (fun s1 => (bif (decide (s1.2.2.1 < (List.length s : Int))) then (zcr (τ := Int × Int × Trc) (chk (0 ≤ s1.2.2.1 ∧ s1.2.2.1 < (List.length s : Int)) (za7 (ix s s1.2.2.1) (fun x1 => (bif ((((x1).toNat : Nat) : Int) != 10) then (some (Sum.inl (s1.1, s1.2.1, (Trc.mk s1.2.2.2.l (Ed.mk s1.2.2.2.e.k s1.2.2.2.e.c))))) else (chk (0 ≤ s1.2.1 ∧ s1.2.1 ≤ s1.2.2.1 ∧ s1.2.2.1 ≤ (List.length s : Int)) (za7 (sub s s1.2.1 s1.2.2.1) (fun x2 => (chk (-9223372036854775808 ≤ (s1.2.2.1 + 1) ∧ (s1.2.2.1 + 1) < 9223372036854775808) (z1 (zn3 fuel x2) (fun x3 => (bif x3.2 then (bif (decide ((s1.2.2.1 + 1) < (List.length s : Int))) then (chk (-9223372036854775808 ≤ (s1.1 + 1) ∧ (s1.1 + 1) < 9223372036854775808) (some (Sum.inr (Sum.inr (Sum.inr ((Trc.mk [] (Ed.mk 0 0)), (s1.1 + 1), 332)))))) else (some (Sum.inr (Sum.inr (Sum.inr ((Trc.mk s1.2.2.2.l (Ed.mk x3.1.k x3.1.c)), 0, 0)))))) else (z1 (zrk fuel s1.2.2.2.l) (fun x4 => (z1 (zgj fuel x2 x4) (fun x5 => (bif (!x5.2) then (some (Sum.inr (Sum.inr (Sum.inr ((Trc.mk [] (Ed.mk 0 0)), s1.1, 332))))) else (bif (decide ((List.length s1.2.2.2.l : Int) ≥ 65536)) then (some (Sum.inr (Sum.inr (Sum.inr ((Trc.mk [] (Ed.mk 0 0)), s1.1, 332))))) else (chk ((List.length s1.2.2.2.l + List.length [x5.1]) * 40 ≤ 140737488355328) (chk (-9223372036854775808 ≤ (s1.1 + 1) ∧ (s1.1 + 1) < 9223372036854775808) (some (Sum.inl ((s1.1 + 1), (s1.2.2.1 + 1), (Trc.mk (s1.2.2.2.l ++ [x5.1]) (Ed.mk s1.2.2.2.e.k s1.2.2.2.e.c)))))))))))))))))))))))) (fun j2 => (chk (-9223372036854775808 ≤ (s1.2.2.1 + 1) ∧ (s1.2.2.1 + 1) < 9223372036854775808) (some (Sum.inl (j2.1, j2.2.1, (s1.2.2.1 + 1), (Trc.mk j2.2.2.l (Ed.mk j2.2.2.e.k j2.2.2.e.c)))))))) else (some (Sum.inr (Sum.inl (s1.1, (Trc.mk s1.2.2.2.l (Ed.mk s1.2.2.2.e.k s1.2.2.2.e.c)))))))) fuel (1, 0, 0, (Trc.mk ([] : List En) (Ed.mk 0 0)))) (fun j1 => (some ((Trc.mk [] (Ed.mk 0 0)), j1.1, 332)))))
theorem ent8 : Ent Tryz.prog 8 := enters_of Tryz.func8 (by kernel_rfl) rfl
theorem z05 (fuel : Nat) (s : (List UInt8)) (r : (Trc × Int × Int)) (h : zmk fuel s = some r) : Pure (ITP Tryz.prog) Tryz.prog 8 [.raw (.string (bs s))] (.tup [.A (r.1 : Trc), .raw (.int .i64 r.2.1), .raw (.int .i64 r.2.2)]) := by
 unfold zmk at h
 refine zah 77 mix Tryz.func8 ent8 ?_
 refine zj (zc ?_)
 refine zbr (a := .ptr 0 0) (σ'' := (.B [(34, [.list 0 [] .full, .u 0, .i 0])])) ?_
 refine w_r [.v (.i 0), .v (.i 0)] ?_
 refine zj ?_
 refine zk [.m _] ?_
 refine w_o (a := .i (List.length s : Int)) (h := zv (zba rfl rfl rfl)) ?_
 refine w_o (a := .b (decide ((List.length s : Int) > 1048576))) ?_
 refine za3 h (fun hc1 h => ?_) (fun hc1 h => ?_)
 refine zj (zc ?_)
 refine zvh (.A ((Trc.mk [] (Ed.mk 0 0)) : Trc)) (a0 := (zqq (Trc.mk [] (Ed.mk 0 0)) .full)) rfl rfl rfl (by kernel_rfl) (zbf _ _) (by dsimp only [z6, List.set]) ?_
 refine zcg 3 (.B [(34, (Enc.cells ((Trc.mk [] (Ed.mk 0 0)) : Trc)))]) ?_
 refine w_r [.v (.i 0), .v (.i 3)] ?_
 exact zam (fun (r : (Trc × Int × Int)) => .tup [.A (r.1 : Trc), .i r.2.1, .i r.2.2]) h (.tup [.A ((Trc.mk [] (Ed.mk 0 0)) : Trc), .i 0, .i 3])
 refine zj (zc ?_)
 refine zbr (a := .ptr 1 0) (σ'' := (.B [(34, [.list 0 [] .full, .u 0, .i 0]), (34, [.F (([] : List En) : List En), .u 0, .i 0])])) ?_
 refine zk [.v (.i 1), .v (.i 0)] ?_
 refine zaf h (bz 0 78 302231454903657293676539) (fun j1 => [(6, .i j1.1)]) (fun j1 => (z7 [(34, [.list 0 [] .full, .u 0, .i 0]), (34, [(.O (j1.2.l : List En)), .u j1.2.e.k, .i j1.2.e.c])] 67 (List.length (j1.2.l : List En)) 4)) ?_ ?_
 intro or1 h hr1
 refine zk [.v (.i 0)] ?_
 refine zr ?_
 refine zap h (bz 0 78 302231454903657293676506) (fun s1 => [(6, .i s1.1), (7, .i s1.2.1), (8, .i s1.2.2.1)]) (fun s1 => (z7 [(34, [.list 0 [] .full, .u 0, .i 0]), (34, [(.O (s1.2.2.2.l : List En)), .u s1.2.2.2.e.k, .i s1.2.2.2.e.c])] 67 (List.length (s1.2.2.2.l : List En)) 4)) ?_ ?_
 exact zao (bl 78 485)
 intro s1 p1 h
 refine zbn ?_
 refine zj ?_
 refine zk [.m _, .m _] ?_
 refine w_o (a := .i (List.length s : Int)) (h := zv (zba rfl rfl rfl)) ?_
 refine w_o (a := .b (decide (s1.2.2.1 < (List.length s : Int)))) ?_
 refine za3 h (fun hc2 h => ?_) (fun hc2 h => ?_)
 refine zaf h (bz 0 76 75557863725914310590168) (fun j2 => [(6, .i j2.1), (7, .i j2.2.1)]) (fun j2 => (z7 [(34, [.list 0 [] .full, .u 0, .i 0]), (34, [(.O (j2.2.2.l : List En)), .u j2.2.2.e.k, .i j2.2.2.e.c])] 67 (List.length (j2.2.2.l : List En)) 4)) ?_ ?_
 intro or2 h hr2
 refine zr ?_
 refine zj ?_
 refine zk [.m _, .m _] ?_
 obtain ⟨g1, h⟩ := zf h
 obtain ⟨x1, hx1, h⟩ := zo h
 refine w_o (a := .u (((x1).toNat : Nat) : Int)) (h := zv (by rw [← hx1]; exact (zbi (l := s) (n := s1.2.2.1) g1 rfl rfl rfl rfl))) ?_
 refine w_o (a := .b ((((x1).toNat : Nat) : Int) != 10)) ?_
 refine za3 h (fun hc3 h => ?_) (fun hc3 h => ?_)
 refine zg (o := or2) (s1.1, s1.2.1, (Trc.mk s1.2.2.2.l (Ed.mk s1.2.2.2.e.k s1.2.2.2.e.c))) h ?_
 exact zao (bl 78 226673591177742983086567)
 refine zk [.m _, .m _, .m _] ?_
 obtain ⟨g2, h⟩ := zf h
 obtain ⟨x2, hx2, h⟩ := zo h
 refine w_o (a := .s x2) (h := zv (by rw [← hx2]; exact (zuf (l := s) g2 rfl rfl rfl rfl rfl))) ?_
 refine zp ?_
 refine zk [.m _] ?_
 obtain ⟨g3, h⟩ := zf h
 refine zej g3 ?_
 refine zp ?_
 refine zj ?_
 refine zk [.m _] ?_
 obtain ⟨x3, hx3, h⟩ := zl h
 refine zbc (rend_sh fuel x2 x3 hx3) ?_
 refine w_r [.m _, .x _, .x _] ?_
 refine zbr (a := .ptr 2 0) (σ'' := (z7 [(34, [.list 0 [] .full, .u 0, .i 0]), (34, [(.O (s1.2.2.2.l : List En)), .u s1.2.2.2.e.k, .i s1.2.2.2.e.c]), (32, (Enc.cells ((Ed.mk 0 0) : Ed)))] 67 (List.length (s1.2.2.2.l : List En)) 4)) ?_
 refine zcg 2 (z7 [(34, [.list 0 [] .full, .u 0, .i 0]), (34, [(.O (s1.2.2.2.l : List En)), .u s1.2.2.2.e.k, .i s1.2.2.2.e.c]), (32, (Enc.cells (x3.1 : Ed)))] 67 (List.length (s1.2.2.2.l : List En)) 4) ?_
 refine zp ?_
 refine zk [.m _] ?_
 refine za3 h (fun hc4 h => ?_) (fun hc4 h => ?_)
 refine zj ?_
 refine zk [.m _, .m _] ?_
 refine w_o (a := .i (List.length s : Int)) (h := zv (zba rfl rfl rfl)) ?_
 refine w_o (a := .b (decide ((s1.2.2.1 + 1) < (List.length s : Int)))) ?_
 refine za3 h (fun hc5 h => ?_) (fun hc5 h => ?_)
 refine zj (zc ?_)
 refine zvh (.A ((Trc.mk [] (Ed.mk 0 0)) : Trc)) (a0 := (zqq (Trc.mk [] (Ed.mk 0 0)) .full)) rfl rfl rfl (by kernel_rfl) (zbf _ _) (by dsimp only [z6, List.set]) ?_
 refine zp ?_
 obtain ⟨g4, h⟩ := zf h
 refine zej g4 ?_
 refine zcg 3 (z7 [(34, (Enc.cells ((Trc.mk [] (Ed.mk 0 0)) : Trc))), (34, [(.O (s1.2.2.2.l : List En)), .u s1.2.2.2.e.k, .i s1.2.2.2.e.c]), (32, (Enc.cells (x3.1 : Ed)))] 67 (List.length (s1.2.2.2.l : List En)) 4) ?_
 refine w_r [.m _, .v (.i 332)] ?_
 replace h := zq h hr2
 refine zh h (fun h => ?_)
 replace h := zq h hr1
 exact zam (fun (r : (Trc × Int × Int)) => .tup [.A (r.1 : Trc), .i r.2.1, .i r.2.2]) h (.tup [.A ((Trc.mk [] (Ed.mk 0 0)) : Trc), .i (s1.1 + 1), .i 332])
 refine zk [.v (.A (x3.1 : Ed)), .v (.ptr 1 1)] ?_
 refine zbr (σ'' := (z7 [(34, [.list 0 [] .full, .u 0, .i 0]), (34, [(.O (s1.2.2.2.l : List En)), .u x3.1.k, .i x3.1.c]), (32, (Enc.cells (x3.1 : Ed)))] 67 (List.length (s1.2.2.2.l : List En)) 4)) (h := zca (n := 2) rfl rfl rfl rfl rfl ⟨rfl, rfl, Nat.le_of_ble_eq_true rfl, by decide⟩) ?_
 refine zk [.v (.agg [(.O (s1.2.2.2.l : List En)), .u x3.1.k, .i x3.1.c])] ?_
 refine zcg 3 (z7 [(34, [(.O (s1.2.2.2.l : List En)), .u x3.1.k, .i x3.1.c]), (34, [(.O (s1.2.2.2.l : List En)), .u x3.1.k, .i x3.1.c]), (32, (Enc.cells (x3.1 : Ed)))] 67 (List.length (s1.2.2.2.l : List En)) 4) ?_
 refine w_r [.v (.i 0), .v (.i 0)] ?_
 replace h := zq h hr2
 refine zh h (fun h => ?_)
 replace h := zq h hr1
 exact zdt (fun (r : (Trc × Int × Int)) => (.tup [.A (r.1 : Trc), .i r.2.1, .i r.2.2] : AV)) h (a := .tup [.agg [(.O (s1.2.2.2.l : List En)), .u x3.1.k, .i x3.1.c], .i 0, .i 0]) rfl (show zx _ _ = true from (za (show zx _ _ = true from (za (zb6 (Enc.cloL _)) (by kernel_rfl))) (by kernel_rfl))) (show AV.tup (stripL _) = _ from congrArg AV.tup (zac (show AV.agg (stripL _) = _ from congrArg AV.agg (zac (zkk (Enc.cloL _) Enc.z) (zac rfl (zac rfl rfl)))) (zac rfl (zac rfl rfl))))
 refine zk [.m _, .v (.ptr 1 0), .v (.O (s1.2.2.2.l : List En))] ?_
 obtain ⟨x4, hx4, h⟩ := zl h
 refine zbc (zxt fuel s1.2.2.2.l x4 hx4) ?_
 obtain ⟨x5, hx5, h⟩ := zl h
 refine zbc (zxx fuel x2 x4 x5 hx5) ?_
 refine w_r [.m _, .x _, .x _] ?_
 refine zbr (a := .ptr 3 0) (σ'' := (z7 [(34, [.list 0 [] .full, .u 0, .i 0]), (34, [(.O (s1.2.2.2.l : List En)), .u s1.2.2.2.e.k, .i s1.2.2.2.e.c]), (32, (Enc.cells (x3.1 : Ed))), (67, (Enc.cells ((En.mk 0 0 0 []) : En)))] 67 (List.length (s1.2.2.2.l : List En)) 4)) ?_
 refine zcg 4 (z7 [(34, [.list 0 [] .full, .u 0, .i 0]), (34, [(.O (s1.2.2.2.l : List En)), .u s1.2.2.2.e.k, .i s1.2.2.2.e.c]), (32, (Enc.cells (x3.1 : Ed))), (67, (Enc.cells (x5.1 : En)))] 67 (List.length (s1.2.2.2.l : List En)) 4) ?_
 refine zp ?_
 refine zj ?_
 refine zk [.m _, .v (.b (!x5.2))] ?_
 refine zaa h (fun hc6 h => ?_) (fun hc6 h => ?_)
 refine zar hc6 ?_
 refine w_r [.p, .p, .p, .p, .v (.b true)] ?_
 refine za6 rfl ?_
 refine zj (zc ?_)
 refine zvh (.A ((Trc.mk [] (Ed.mk 0 0)) : Trc)) (a0 := (zqq (Trc.mk [] (Ed.mk 0 0)) .full)) rfl rfl rfl (by kernel_rfl) (zbf _ _) (by dsimp only [z6, List.set]) ?_
 refine zp ?_
 refine zcg 3 (z7 [(34, (Enc.cells ((Trc.mk [] (Ed.mk 0 0)) : Trc))), (34, [(.O (s1.2.2.2.l : List En)), .u s1.2.2.2.e.k, .i s1.2.2.2.e.c]), (32, (Enc.cells (x3.1 : Ed))), (67, (Enc.cells (x5.1 : En)))] 67 (List.length (s1.2.2.2.l : List En)) 4) ?_
 refine w_r [.m _, .v (.i 332)] ?_
 replace h := zq h hr2
 refine zh h (fun h => ?_)
 replace h := zq h hr1
 exact zam (fun (r : (Trc × Int × Int)) => .tup [.A (r.1 : Trc), .i r.2.1, .i r.2.2]) h (.tup [.A ((Trc.mk [] (Ed.mk 0 0)) : Trc), .i s1.1, .i 332])
 refine zar hc6 ?_
 refine w_r [.v (.ptr 1 0), .v (.O (s1.2.2.2.l : List En))] ?_
 refine zai rfl rfl ?_
 refine w_o (a := .i (List.length s1.2.2.2.l : Int)) (h := zv (z2l (α := En) (l := s1.2.2.2.l) rfl rfl rfl rfl rfl rfl)) ?_
 refine w_r [.v (.b (decide ((List.length s1.2.2.2.l : Int) ≥ 65536))), .v (.b (decide ((List.length s1.2.2.2.l : Int) ≥ 65536)))] ?_
 refine za3 h (fun hc7 h => ?_) (fun hc7 h => ?_)
 refine zj (zc ?_)
 refine zvh (.A ((Trc.mk [] (Ed.mk 0 0)) : Trc)) (a0 := (zqq (Trc.mk [] (Ed.mk 0 0)) .full)) rfl rfl rfl (by kernel_rfl) (zbf _ _) (by dsimp only [z6, List.set]) ?_
 refine zp ?_
 refine zcg 3 (z7 [(34, (Enc.cells ((Trc.mk [] (Ed.mk 0 0)) : Trc))), (34, [(.O (s1.2.2.2.l : List En)), .u s1.2.2.2.e.k, .i s1.2.2.2.e.c]), (32, (Enc.cells (x3.1 : Ed))), (67, (Enc.cells (x5.1 : En)))] 67 (List.length (s1.2.2.2.l : List En)) 4) ?_
 refine w_r [.m _, .v (.i 332)] ?_
 replace h := zq h hr2
 refine zh h (fun h => ?_)
 replace h := zq h hr1
 exact zam (fun (r : (Trc × Int × Int)) => .tup [.A (r.1 : Trc), .i r.2.1, .i r.2.2]) h (.tup [.A ((Trc.mk [] (Ed.mk 0 0)) : Trc), .i s1.1, .i 332])
 refine zk [.v (.ptr 1 0), .v (.O (s1.2.2.2.l : List En)), .v (.A (x5.1 : En))] ?_
 refine w_o (a := .F ([x5.1] : List En)) (h := zv (zcs (α := En) (l := [x5.1]) (cs := Enc.cells (x5.1 : En) ++ []) rfl (by rw [Enc.cons, Enc.nil]))) ?_
 obtain ⟨g5, h⟩ := zf h
 refine zga (a := (.O ((s1.2.2.2.l ++ [x5.1]) : List En))) (σ'' := (z7 [(34, [.list 0 [] .full, .u 0, .i 0]), (34, [(.O (s1.2.2.2.l : List En)), .u s1.2.2.2.e.k, .i s1.2.2.2.e.c]), (32, (Enc.cells (x3.1 : Ed))), (67, (Enc.cells (x5.1 : En)))] 67 (List.length ((s1.2.2.2.l ++ [x5.1]) : List En)) 4)) rfl rfl rfl (zce rfl rfl rfl rfl (zbu (α := En) (bs := [(34, [.list 0 [] .full, .u 0, .i 0]), (34, [(.O (s1.2.2.2.l : List En)), .u s1.2.2.2.e.k, .i s1.2.2.2.e.c]), (32, (Enc.cells (x3.1 : Ed))), (67, (Enc.cells (x5.1 : En)))]) (a := s1.2.2.2.l) (b := [x5.1]) g5 rfl rfl rfl rfl rfl ⟨rfl, by decide⟩)) (by dsimp only [z6, List.set]) rfl ?_
 refine w_o (a := .ptr 1 0) ?_
 refine zbr (σ'' := (z7 [(34, [.list 0 [] .full, .u 0, .i 0]), (34, [(.O ((s1.2.2.2.l ++ [x5.1]) : List En)), .u s1.2.2.2.e.k, .i s1.2.2.2.e.c]), (32, (Enc.cells (x3.1 : Ed))), (67, (Enc.cells (x5.1 : En)))] 67 (List.length ((s1.2.2.2.l ++ [x5.1]) : List En)) 4)) (h := zn4 rfl rfl rfl rfl rfl (Nat.le_of_ble_eq_true rfl)) ?_
 refine zc (k0 := 0) (id := 21) ?_
 refine zp ?_
 obtain ⟨g6, h⟩ := zf h
 refine zej g6 ?_
 refine zp ?_
 refine zg (o := or2) ((s1.1 + 1), (s1.2.2.1 + 1), (Trc.mk (s1.2.2.2.l ++ [x5.1]) (Ed.mk s1.2.2.2.e.k s1.2.2.2.e.c))) h ?_
 exact zcq (bl 78 226673591177742983086567) 2 (by kernel_rfl) (Nat.le_of_ble_eq_true rfl) (zco (za0 rfl (za0 (za (zb6 (Enc.cloL _)) (by kernel_rfl)) rfl))) (by dsimp only [zbb, zb5, List.foldl, List.set, bz, bzc, Nat.reduceMod, Nat.reduceDiv, Nat.reduceBEq, Nat.reduceAdd]; exact (za rfl (za rfl (za (by decide) (za rfl (za rfl (za (by decide) (by kernel_rfl)))))))) (by kernel_rfl)
 intro j2 h
 refine zbn ?_
 refine zc (k0 := 0) (id := 7) ?_
 refine zp ?_
 obtain ⟨g7, h⟩ := zf h
 refine zej g7 ?_
 refine zp ?_
 refine zz (p := p1) (j2.1, j2.2.1, (s1.2.2.1 + 1), (Trc.mk j2.2.2.l (Ed.mk j2.2.2.e.k j2.2.2.e.c))) h ?_
 exact zao (bl 78 485)
 refine zh h (fun h => ?_)
 refine zg (o := or1) (s1.1, (Trc.mk s1.2.2.2.l (Ed.mk s1.2.2.2.e.k s1.2.2.2.e.c))) h ?_
 exact zao (bl 78 68)
 intro j1 h
 refine zbn ?_
 refine zj (zc ?_)
 refine zvh (.A ((Trc.mk [] (Ed.mk 0 0)) : Trc)) (a0 := (zqq (Trc.mk [] (Ed.mk 0 0)) .full)) rfl rfl rfl (by kernel_rfl) (zbf _ _) (by dsimp only [z6, List.set]) ?_
 refine zp ?_
 refine zcg 3 (z7 [(34, (Enc.cells ((Trc.mk [] (Ed.mk 0 0)) : Trc))), (34, [(.O (j1.2.l : List En)), .u j1.2.e.k, .i j1.2.e.c])] 67 (List.length (j1.2.l : List En)) 4) ?_
 refine w_r [.m _, .v (.i 332)] ?_
 exact zam (fun (r : (Trc × Int × Int)) => .tup [.A (r.1 : Trc), .i r.2.1, .i r.2.2]) h (.tup [.A ((Trc.mk [] (Ed.mk 0 0)) : Trc), .i j1.1, .i 332])
end Go.Ab
