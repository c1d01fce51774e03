/-
  trace: Write, Read.
-/
import Derived.Test.YtcdmdnadilafhaaGreatDoorZyWa
import Derived.Test.YtcdmdnadilafhaaGreatDoorZyW7
import Derived.Test.YtcdmdnadilafhaaGreatDoorZdQr
set_option linter.unusedSimpArgs false
set_option linter.unusedVariables false
set_option maxRecDepth 100000
set_option maxHeartbeats 4000000
namespace Go.Ab
open Go Go.RowKit Go.Fwd Go.Proofs
def zgy (fuel : Nat) (t : Trc) : Option ((List UInt8) × Int) :=
 (z1 (zem fuel t) (fun x1 => (bif (x1.2 != 0) then (some (([] : List UInt8), x1.2)) else (zcr (τ := (Bool × List UInt8)) (zbh (β := Int × (Bool × List UInt8)) (fun s1 => (bif (decide (s1.1 < (List.length t.l : Int))) then (chk (0 ≤ s1.1 ∧ s1.1 < (List.length t.l : Int)) (za7 (ix t.l s1.1) (fun x2 => (z1 (zng fuel x2) (fun x3 => (chk (List.length x3 + List.length ([10] : List UInt8) ≤ 9223372036854775807) (chk ((List.length s1.2.2 + List.length (x3 ++ ([10] : List UInt8))) * 1 ≤ 140737488355328) (chk (-9223372036854775808 ≤ (s1.1 + 1) ∧ (s1.1 + 1) < 9223372036854775808) (some (Sum.inl ((s1.1 + 1), (true, (s1.2.2 ++ (x3 ++ ([10] : List UInt8))))))))))))))) else (some (Sum.inr (Sum.inl ((s1.2.1, s1.2.2))))))) fuel (0, (false, ([] : List UInt8)))) (fun j1 => (z1 (zo5 t.e) (fun x4 => (chk (List.length x4 + List.length ([10] : List UInt8) ≤ 9223372036854775807) (chk ((List.length j1.2 + List.length (x4 ++ ([10] : List UInt8))) * 1 ≤ 140737488355328) (some ((j1.2 ++ (x4 ++ ([10] : List UInt8))), 0)))))))))))
theorem ent19 : Ent Tryz.prog 19 := enters_of Tryz.func19 (by kernel_rfl) rfl
theorem z1s (fuel : Nat) (t : Trc) (r : ((List UInt8) × Int)) (h : zgy fuel t = some r) : Pure (ITP Tryz.prog) Tryz.prog 19 [.A (t : Trc)] (.tup [.raw (.string (bs r.1)), .raw (.int .i64 r.2)]) := by
 unfold zgy at h
 refine zah 34 mix Tryz.func19 ent19 ?_
 refine zj (zc ?_)
 refine zbr (a := .ptr 0 0) (σ'' := (.B [(27, (Enc.cells (t : Trc)))])) ?_
 refine w_r [.v (.s ([] : List UInt8)), .v (.i 0)] ?_
 refine zj ?_
 refine zk [.v (.A (t : Trc))] ?_
 obtain ⟨x1, hx1, h⟩ := zl h
 refine zbc (zgh fuel t x1 hx1) ?_
 refine w_r [.m _, .x _, .x _, .m _, .m _] ?_
 refine zk [.m _, .v (.b (x1.2 != 0))] ?_
 refine za3 h (fun hc1 h => ?_) (fun hc1 h => ?_)
 refine zk [.m _, .v (.s ([] : List UInt8)), .m _] ?_
 exact zam (fun (r : ((List UInt8) × Int)) => .tup [.s r.1, .i r.2]) h (.tup [.s ([] : List UInt8), .i x1.2])
 refine zj (zc ?_)
 refine zmn (a := .ptr 1 0) (σ'' := (z7 [(27, (Enc.cells (t : Trc))), (87, (zjn 1 false ([] : List UInt8)))] 5 (List.length (([] : List UInt8) : List UInt8)) 1)) rfl rfl rfl rfl (by dsimp only [z6, List.set]) rfl ?_
 refine zaf h (bz 0 35 34359738301) (fun j1 => []) (fun j1 => (z7 [(27, (Enc.cells (t : Trc))), (87, (zjn 1 j1.1 j1.2))] 5 (List.length (j1.2 : List UInt8)) 1)) ?_ ?_
 intro or1 h hr1
 refine zk [.v (.ptr 0 0), .v (.L (t.l : List En)), .v (.i (List.length t.l : Int)), .v (.i 0)] ?_
 refine zr ?_
 refine zap h (bz 0 35 34358951869) (fun s1 => [(20, .i s1.1)]) (fun s1 => (z7 [(27, (Enc.cells (t : Trc))), (87, (zjn 1 s1.2.1 s1.2.2))] 5 (List.length (s1.2.2 : List UInt8)) 1)) ?_ ?_
 exact zao (bl 35 1835074)
 intro s1 p1 h
 refine zbn ?_
 refine zk [.v (.b (decide (s1.1 < (List.length t.l : Int))))] ?_
 refine zj ?_
 refine za3 h (fun hc2 h => ?_) (fun hc2 h => ?_)
 refine zj ?_
 refine zr ?_
 refine zj (zc ?_)
 obtain ⟨g1, h⟩ := zf h
 obtain ⟨x2, hx2, h⟩ := zo h
 refine zpi hx2 g1 ?_
 refine w_o (a := .A (x2 : En)) ?_
 refine zbr (a := .ptr 2 0) (σ'' := (z7 [(27, (Enc.cells (t : Trc))), (87, (zjn 1 s1.2.1 s1.2.2)), (41, (Enc.cells ((En.mk 0 0 0 []) : En)))] 5 (List.length (s1.2.2 : List UInt8)) 1)) ?_
 refine zcg 4 (z7 [(27, (Enc.cells (t : Trc))), (87, (zjn 1 s1.2.1 s1.2.2)), (41, (Enc.cells (x2 : En)))] 5 (List.length (s1.2.2 : List UInt8)) 1) ?_
 refine zc (k0 := 0) (id := 8) ?_
 refine w_o (a := .A (x2 : En)) ?_
 obtain ⟨x3, hx3, h⟩ := zl h
 refine zbc (zf7 fuel x2 x3 hx3) ?_
 obtain ⟨g2, h⟩ := zf h
 refine w_o (a := .s (x3 ++ ([10] : List UInt8))) (h := zv (zad g2 rfl rfl rfl)) ?_
 obtain ⟨g3, h⟩ := zf h
 refine zlp (r := .tup [.i (List.length (x3 ++ ([10] : List UInt8)) : Int), .raw .nilIface]) (σ' := (z7 [(27, (Enc.cells (t : Trc))), (87, (zjn 1 true (s1.2.2 ++ (x3 ++ ([10] : List UInt8))))), (41, (Enc.cells (x2 : En)))] 5 (List.length ((s1.2.2 ++ (x3 ++ ([10] : List UInt8))) : List UInt8)) 1)) (zjm (u := s1.2.1) (l := s1.2.2) (b := (x3 ++ ([10] : List UInt8))) g3 rfl) rfl rfl ⟨rfl, rfl⟩ (by dsimp only [z6, List.set]) ?_
 refine zc (k0 := 0) (id := 9) ?_
 obtain ⟨g4, h⟩ := zf h
 refine zej g4 ?_
 refine zp ?_
 refine zz (p := p1) ((s1.1 + 1), (true, (s1.2.2 ++ (x3 ++ ([10] : List UInt8))))) h ?_
 exact zcq (bl 35 1835074) 2 (by kernel_rfl) (Nat.le_of_ble_eq_true rfl) (zco (za0 (zak _ _ (Enc.clo _)) (za0 (zub (by decide)) rfl))) (by dsimp only [zbb, zb5, List.foldl, List.set, bz, bzc, Nat.reduceMod, Nat.reduceDiv, Nat.reduceBEq, Nat.reduceAdd]; exact (za rfl (za (by decide) (za rfl (za rfl (za rfl (za rfl (za (by decide) (za rfl (za rfl (za rfl (za rfl (za rfl (za rfl (za rfl (za rfl (za rfl (za rfl (za rfl (za (zb1 (Enc.cloL _)) (by kernel_rfl))))))))))))))))))))) (by kernel_rfl)
 refine zh h (fun h => ?_)
 refine zg (o := or1) ((s1.2.1, s1.2.2)) h ?_
 exact zao (bl 35 66)
 intro j1 h
 refine zbn ?_
 refine zk [.v (.ptr 0 1), .v (.A (t.e : Ed))] ?_
 obtain ⟨x4, hx4, h⟩ := zl h
 refine zbc (znp t.e x4 hx4) ?_
 obtain ⟨g5, h⟩ := zf h
 refine w_o (a := .s (x4 ++ ([10] : List UInt8))) (h := zv (zad g5 rfl rfl rfl)) ?_
 obtain ⟨g6, h⟩ := zf h
 refine zlp (r := .tup [.i (List.length (x4 ++ ([10] : List UInt8)) : Int), .raw .nilIface]) (σ' := (z7 [(27, (Enc.cells (t : Trc))), (87, (zjn 1 true (j1.2 ++ (x4 ++ ([10] : List UInt8)))))] 5 (List.length ((j1.2 ++ (x4 ++ ([10] : List UInt8))) : List UInt8)) 1)) (zjm (u := j1.1) (l := j1.2) (b := (x4 ++ ([10] : List UInt8))) g6 rfl) rfl rfl ⟨rfl, rfl⟩ (by dsimp only [z6, List.set]) ?_
 refine zj (zc ?_)
 refine zlp (r := .s (j1.2 ++ (x4 ++ ([10] : List UInt8)))) (σ' := (z7 [(27, (Enc.cells (t : Trc))), (87, (zjn 1 true (j1.2 ++ (x4 ++ ([10] : List UInt8)))))] 5 (List.length ((j1.2 ++ (x4 ++ ([10] : List UInt8))) : List UInt8)) 1)) (zj3 (u := true) (l := (j1.2 ++ (x4 ++ ([10] : List UInt8)))) rfl) rfl rfl ⟨rfl, rfl⟩ (by dsimp only [z6, List.set]) ?_
 refine w_r [.m _, .v (.i 0)] ?_
 exact zam (fun (r : ((List UInt8) × Int)) => .tup [.s r.1, .i r.2]) h (.tup [.s (j1.2 ++ (x4 ++ ([10] : List UInt8))), .i 0])
def zli (fuel : Nat) (t : (List UInt8)) : Option (Ed × Bool) :=
 (chk (List.length t < 4294967281) (za7 (Lib.cut t ([32] : List UInt8)) (fun x1 => (zcr (τ := Unit) (zbh (β := Int) (fun s1 => (bif (decide (s1 ≤ 5)) then (chk (0 ≤ s1 ∧ s1 < 256) (za7 (zfr s1) (fun x2 => (bif (x2 == x1.1) then (chk (List.length x1.2.1 ≤ 281474976710656) (za7 (zmv x1.2.1) (fun x3 => (z1 (zjz (Ed.mk s1 x3)) (fun x4 => (bif x4 then (z1 (zo5 (Ed.mk s1 x3)) (fun x5 => (some (Sum.inr (Sum.inr ((Ed.mk s1 x3), (x5 == t))))))) else (some (Sum.inr (Sum.inr ((Ed.mk s1 x3), false)))))))))) else (some (Sum.inl ((IntKind.u8.wrap (s1 + 1))))))))) else (some (Sum.inr (Sum.inl ()))))) fuel (1)) (fun j1 => (some ((Ed.mk 0 0), false)))))))
theorem ent27 : Ent Tryz.prog 27 := enters_of Tryz.func27 (by kernel_rfl) rfl
theorem ends_sh (fuel : Nat) (t : (List UInt8)) (r : (Ed × Bool)) (h : zli fuel t = some r) : Pure (ITP Tryz.prog) Tryz.prog 27 [.raw (.string (bs t))] (.tup [.A (r.1 : Ed), .raw (.bool r.2)]) := by
 unfold zli at h
 refine zah 42 mix Tryz.func27 ent27 ?_
 refine zj (zc ?_)
 refine zbr (a := .ptr 0 0) (σ'' := (.B [(25, (Enc.cells ((Ed.mk 0 0) : Ed)))])) ?_
 refine w_o (a := .b false) ?_
 refine zk [.m _] ?_
 obtain ⟨g1, h⟩ := zf h
 obtain ⟨x1, hx1, h⟩ := zo h
 refine zbc (args' := [.s t, .s ([32] : List UInt8)]) (r := .tup [.s x1.1, .s x1.2.1, .b x1.2.2]) (by rw [← hx1]; exact (zmb t ([32] : List UInt8) g1)) ?_
 refine w_r [.m _, .x _, .x _, .x _, .m _] ?_
 refine w_r [.m _, .m _] ?_
 refine zaf h (bz 0 43 8796093022203) (fun j1 => []) (fun j1 => (.B [(25, (Enc.cells ((Ed.mk 0 0) : Ed)))])) ?_ ?_
 intro or1 h hr1
 refine zk [.v (.u 1)] ?_
 refine zr ?_
 refine zap h (bz 0 43 8796093022154) (fun s1 => [(7, .u s1)]) (fun s1 => (.B [(25, (Enc.cells ((Ed.mk 0 0) : Ed)))])) ?_ ?_
 exact zao (bl 43 181)
 intro s1 p1 h
 refine zbn ?_
 refine zj ?_
 refine zk [.m _, .v (.b (decide (s1 ≤ 5)))] ?_
 refine za3 h (fun hc1 h => ?_) (fun hc1 h => ?_)
 refine zj ?_
 refine zr ?_
 refine zk [.m _] ?_
 obtain ⟨g2, h⟩ := zf h
 obtain ⟨x2, hx2, h⟩ := zo h
 refine zbc (args' := [.u s1]) (r := .s x2) (by rw [← hx2]; exact (znb s1 g2)) ?_
 refine zp ?_
 refine w_o (a := .b (x2 == x1.1)) (h := zv (zb7 rfl rfl rfl)) ?_
 refine za3 h (fun hc2 h => ?_) (fun hc2 h => ?_)
 refine zk [.m _] ?_
 obtain ⟨g3, h⟩ := zf h
 obtain ⟨x3, hx3, h⟩ := zo h
 refine zbc (args' := [.s x1.2.1]) (r := .tup [.i x3, .top]) (by rw [← hx3]; exact (zn7 x1.2.1 g3)) ?_
 refine w_r [.m _, .x _, .x _, .m _, .m _] ?_
 refine zk [.m _, .m _, .v (.A ((Ed.mk s1 x3) : Ed))] ?_
 refine zbr (a := .ptr 1 0) (σ'' := (.B [(25, (Enc.cells ((Ed.mk 0 0) : Ed))), (25, (Enc.cells ((Ed.mk 0 0) : Ed)))])) ?_
 refine zcg 2 (.B [(25, (Enc.cells ((Ed.mk 0 0) : Ed))), (25, (Enc.cells ((Ed.mk s1 x3) : Ed)))]) ?_
 obtain ⟨x4, hx4, h⟩ := zl h
 refine zaa h (fun hc3 h => ?_) (fun hc3 h => ?_)
 obtain ⟨x5, hx5, h⟩ := zl h
 refine zc8 (id := 8) [.s t, .top, .ptr 0 0, .b (x5 == t), .s x1.1, .s x1.2.1, .top, .u s1, .i x3, .top, .ptr 1 0, .top, .top, .top, .top, .top, .top, .u s1, .b (decide (s1 ≤ 5)), .top, .top, .u s1, .s x2, .s x1.1, .b (x2 == x1.1), .tup [.i x3, .top], .s x1.2.1, .tup [.i x3, .top], .i x3, .top, .u s1, .i x3, .A ((Ed.mk s1 x3) : Ed), .A ((Ed.mk s1 x3) : Ed), .A ((Ed.mk s1 x3) : Ed), .b x4, .b true, .A ((Ed.mk s1 x3) : Ed), .s x5, .s t, .b (x5 == t), .b (x5 == t), .top] (.B [(25, (Enc.cells ((Ed.mk s1 x3) : Ed))), (25, (Enc.cells ((Ed.mk s1 x3) : Ed)))]) ?_ ?_
 refine zbs (fun ops hops FIN hFIN S0 hS0 => ?_)
 let v33 : AV := .A ((Ed.mk s1 x3) : Ed)
 let v34 : AV := .A ((Ed.mk s1 x3) : Ed)
 let v35 : AV := .b x4
 let v36 : AV := .b true
 let v37 : AV := .A ((Ed.mk s1 x3) : Ed)
 let v38 : AV := .s x5
 let v40 : AV := .b (x5 == t)
 let v41 : AV := .b (x5 == t)
 let G0 : St := (.B [(25, (Enc.cells ((Ed.mk 0 0) : Ed))), (25, (Enc.cells ((Ed.mk s1 x3) : Ed)))])
 let G1 : St := (.B [(25, (Enc.cells ((Ed.mk s1 x3) : Ed))), (25, (Enc.cells ((Ed.mk s1 x3) : Ed)))])
 obtain ⟨ps, hps⟩ : ∃ ps : List (Option (Nat × AV)), ps = [some (33, v33), some (34, v34), some (35, v35), some (36, v36), some (37, v37), some (38, v38), some (39, .s t), some (40, v40), some (41, v41), none, some (3, .b (x5 == t))] := ⟨_, rfl⟩
 let N : Nat → Nat → St → Prop := fun k m σ => aN (ITP Tryz.prog) Tryz.prog none ops FIN S0 ps 11 k m σ
 have n26 : N 0 2047 G1 := by
  exact zu5 hops hS0 hps (hFIN _ _ (Wk.refl _ _ _))
 have n25 : N 1 1023 G1 := by
  refine zan hops hS0 hps 10 ?_
  refine zp ?_
  exact zb n26 hS0 hps
 have n24 : N 2 767 G1 := by
  refine zan hops hS0 hps 8 ?_
  refine w_o (a := v41) ?_
  exact zb n25 hS0 hps
 have n23 : N 2 511 G0 := by
  refine zan hops hS0 hps 9 ?_
  refine zcg 2 G1 ?_
  exact zb n25 hS0 hps
 have n22 : N 3 510 G0 := by
  refine zan hops hS0 hps 0 ?_
  refine w_o (a := v33) ?_
  exact zb n23 hS0 hps
 have n21 : N 3 639 G1 := by
  refine zan hops hS0 hps 7 ?_
  refine zm hops rfl rfl ?_
  refine w_o (a := v40) (h := zv (zb7 rfl rfl rfl)) ?_
  exact zb n24 hS0 hps
 have n20 : N 3 255 G0 := by
  refine zab hops hS0 hps 8 9 ?_ ?_
  refine w_o (a := v41) ?_
  exact zb n23 hS0 hps
  refine zcg 2 G1 ?_
  exact zb n24 hS0 hps
 have n19 : N 4 254 G0 := by
  refine zab hops hS0 hps 0 8 ?_ ?_
  refine w_o (a := v33) ?_
  exact zb n20 hS0 hps
  refine w_o (a := v41) ?_
  exact zb n22 hS0 hps
 have n18 : N 4 575 G1 := by
  refine zan hops hS0 hps 6 ?_
  refine zm hops rfl rfl ?_
  refine zp ?_
  exact zb n21 hS0 hps
 have n17 : N 4 127 G0 := by
  refine zab hops hS0 hps 7 9 ?_ ?_
  refine zm hops rfl rfl ?_
  refine w_o (a := v40) (h := zv (zb7 rfl rfl rfl)) ?_
  exact zb n20 hS0 hps
  refine zcg 2 G1 ?_
  exact zb n21 hS0 hps
 have n16 : N 5 126 G0 := by
  refine zab hops hS0 hps 0 7 ?_ ?_
  refine w_o (a := v33) ?_
  exact zb n17 hS0 hps
  refine zm hops rfl rfl ?_
  refine w_o (a := v40) (h := zv (zb7 rfl rfl rfl)) ?_
  exact zb n19 hS0 hps
 have n15 : N 5 95 G0 := by
  refine zan hops hS0 hps 5 ?_
  refine zm hops rfl rfl ?_
  refine zbc (znp (Ed.mk s1 x3) x5 hx5) ?_
  exact zb n17 hS0 hps
 have n14 : N 5 63 G0 := by
  refine zab hops hS0 hps 6 9 ?_ ?_
  refine zm hops rfl rfl ?_
  refine zp ?_
  exact zb n17 hS0 hps
  refine zcg 2 G1 ?_
  exact zb n18 hS0 hps
 have n13 : N 6 94 G0 := by
  refine zab hops hS0 hps 0 5 ?_ ?_
  refine w_o (a := v33) ?_
  exact zb n15 hS0 hps
  refine zm hops rfl rfl ?_
  refine zbc (znp (Ed.mk s1 x3) x5 hx5) ?_
  exact zb n16 hS0 hps
 have n12 : N 6 62 G0 := by
  refine zab hops hS0 hps 0 6 ?_ ?_
  refine w_o (a := v33) ?_
  exact zb n14 hS0 hps
  refine zm hops rfl rfl ?_
  refine zp ?_
  exact zb n16 hS0 hps
 have n11 : N 6 79 G0 := by
  refine zan hops hS0 hps 4 ?_
  refine zm hops rfl rfl ?_
  refine w_o (a := v37) ?_
  exact zb n15 hS0 hps
 have n10 : N 6 31 G0 := by
  refine zab hops hS0 hps 5 6 ?_ ?_
  refine zm hops rfl rfl ?_
  refine zbc (znp (Ed.mk s1 x3) x5 hx5) ?_
  exact zb n14 hS0 hps
  refine zm hops rfl rfl ?_
  refine zp ?_
  exact zb n15 hS0 hps
 have n9 : N 7 78 G0 := by
  refine zab hops hS0 hps 0 4 ?_ ?_
  refine w_o (a := v33) ?_
  exact zb n11 hS0 hps
  refine zm hops rfl rfl ?_
  refine w_o (a := v37) ?_
  exact zb n13 hS0 hps
 have n8 : N 7 30 G0 := by
  refine zdy hops hS0 hps 0 5 6 ?_ ?_ ?_
  refine w_o (a := v33) ?_
  exact zb n10 hS0 hps
  refine zm hops rfl rfl ?_
  refine zbc (znp (Ed.mk s1 x3) x5 hx5) ?_
  exact zb n12 hS0 hps
  refine zm hops rfl rfl ?_
  refine zp ?_
  exact zb n13 hS0 hps
 have n7 : N 7 15 G0 := by
  refine zab hops hS0 hps 4 6 ?_ ?_
  refine zm hops rfl rfl ?_
  refine w_o (a := v37) ?_
  exact zb n10 hS0 hps
  refine zm hops rfl rfl ?_
  refine zp ?_
  exact zb n11 hS0 hps
 have n6 : N 8 14 G0 := by
  refine zdy hops hS0 hps 0 4 6 ?_ ?_ ?_
  refine w_o (a := v33) ?_
  exact zb n7 hS0 hps
  refine zm hops rfl rfl ?_
  refine w_o (a := v37) ?_
  exact zb n8 hS0 hps
  refine zm hops rfl rfl ?_
  refine zp ?_
  exact zb n9 hS0 hps
 have n5 : N 8 7 G0 := by
  refine zan hops hS0 hps 3 ?_
  refine w_o (a := v36) (h := zv (zae rfl hc3)) ?_
  exact zb n7 hS0 hps
 have n4 : N 9 6 G0 := by
  refine zab hops hS0 hps 0 3 ?_ ?_
  refine w_o (a := v33) ?_
  exact zb n5 hS0 hps
  refine w_o (a := v36) (h := zv (zae rfl hc3)) ?_
  exact zb n6 hS0 hps
 have n3 : N 9 3 G0 := by
  refine zan hops hS0 hps 2 ?_
  refine zbc (zjg (Ed.mk s1 x3) x4 hx4) ?_
  exact zb n5 hS0 hps
 have n2 : N 10 2 G0 := by
  refine zab hops hS0 hps 0 2 ?_ ?_
  refine w_o (a := v33) ?_
  exact zb n3 hS0 hps
  refine zbc (zjg (Ed.mk s1 x3) x4 hx4) ?_
  exact zb n4 hS0 hps
 have n1 : N 10 1 G0 := by
  refine zan hops hS0 hps 1 ?_
  refine w_o (a := v34) ?_
  exact zb n3 hS0 hps
 have n0 : N 11 0 G0 := by
  refine zab hops hS0 hps 0 1 ?_ ?_
  refine w_o (a := v33) ?_
  exact zb n1 hS0 hps
  refine w_o (a := v34) ?_
  exact zb n2 hS0 hps
 exact zc1 n0 hps
 refine zh h (fun h => ?_)
 replace h := zq h hr1
 exact zam (fun (r : (Ed × Bool)) => .tup [.A (r.1 : Ed), .b r.2]) h (.tup [.A ((Ed.mk s1 x3) : Ed), .b (x5 == t)])
 refine zc8 (id := 8) [.s t, .top, .ptr 0 0, .b false, .s x1.1, .s x1.2.1, .top, .u s1, .i x3, .top, .ptr 1 0, .top, .top, .top, .top, .top, .top, .u s1, .b (decide (s1 ≤ 5)), .top, .top, .u s1, .s x2, .s x1.1, .b (x2 == x1.1), .tup [.i x3, .top], .s x1.2.1, .tup [.i x3, .top], .i x3, .top, .u s1, .i x3, .A ((Ed.mk s1 x3) : Ed), .A ((Ed.mk s1 x3) : Ed), .A ((Ed.mk s1 x3) : Ed), .b x4, .b false, .raw undef, .raw undef, .raw undef, .raw undef, .b false, .top] (.B [(25, (Enc.cells ((Ed.mk s1 x3) : Ed))), (25, (Enc.cells ((Ed.mk s1 x3) : Ed)))]) ?_ ?_
 refine zbs (fun ops hops FIN hFIN S0 hS0 => ?_)
 let v33 : AV := .A ((Ed.mk s1 x3) : Ed)
 let v34 : AV := .A ((Ed.mk s1 x3) : Ed)
 let v35 : AV := .b x4
 let v36 : AV := .b false
 let v41 : AV := .b false
 let G0 : St := (.B [(25, (Enc.cells ((Ed.mk 0 0) : Ed))), (25, (Enc.cells ((Ed.mk s1 x3) : Ed)))])
 let G1 : St := (.B [(25, (Enc.cells ((Ed.mk s1 x3) : Ed))), (25, (Enc.cells ((Ed.mk s1 x3) : Ed)))])
 obtain ⟨ps, hps⟩ : ∃ ps : List (Option (Nat × AV)), ps = [some (33, v33), some (34, v34), some (35, v35), some (36, v36), some (37, .raw undef), some (38, .raw undef), some (39, .raw undef), some (40, .raw undef), some (41, v41), none, some (3, .b false)] := ⟨_, rfl⟩
 let N : Nat → Nat → St → Prop := fun k m σ => aN (ITP Tryz.prog) Tryz.prog none ops FIN S0 ps 11 k m σ
 have n26 : N 0 2047 G1 := by
  exact zu5 hops hS0 hps (hFIN _ _ (Wk.refl _ _ _))
 have n25 : N 1 1023 G1 := by
  refine zan hops hS0 hps 10 ?_
  refine zp ?_
  exact zb n26 hS0 hps
 have n24 : N 2 767 G1 := by
  refine zan hops hS0 hps 8 ?_
  refine w_o (a := v41) ?_
  exact zb n25 hS0 hps
 have n23 : N 2 511 G0 := by
  refine zan hops hS0 hps 9 ?_
  refine zcg 2 G1 ?_
  exact zb n25 hS0 hps
 have n22 : N 3 510 G0 := by
  refine zan hops hS0 hps 0 ?_
  refine w_o (a := v33) ?_
  exact zb n23 hS0 hps
 have n21 : N 3 639 G1 := by
  refine zan hops hS0 hps 7 ?_
  refine zy hops ?_
  exact zb n24 hS0 hps
 have n20 : N 3 255 G0 := by
  refine zab hops hS0 hps 8 9 ?_ ?_
  refine w_o (a := v41) ?_
  exact zb n23 hS0 hps
  refine zcg 2 G1 ?_
  exact zb n24 hS0 hps
 have n19 : N 4 254 G0 := by
  refine zab hops hS0 hps 0 8 ?_ ?_
  refine w_o (a := v33) ?_
  exact zb n20 hS0 hps
  refine w_o (a := v41) ?_
  exact zb n22 hS0 hps
 have n18 : N 4 575 G1 := by
  refine zan hops hS0 hps 6 ?_
  refine zy hops ?_
  exact zb n21 hS0 hps
 have n17 : N 4 127 G0 := by
  refine zab hops hS0 hps 7 9 ?_ ?_
  refine zy hops ?_
  exact zb n20 hS0 hps
  refine zcg 2 G1 ?_
  exact zb n21 hS0 hps
 have n16 : N 5 126 G0 := by
  refine zab hops hS0 hps 0 7 ?_ ?_
  refine w_o (a := v33) ?_
  exact zb n17 hS0 hps
  refine zy hops ?_
  exact zb n19 hS0 hps
 have n15 : N 5 95 G0 := by
  refine zan hops hS0 hps 5 ?_
  refine zy hops ?_
  exact zb n17 hS0 hps
 have n14 : N 5 63 G0 := by
  refine zab hops hS0 hps 6 9 ?_ ?_
  refine zy hops ?_
  exact zb n17 hS0 hps
  refine zcg 2 G1 ?_
  exact zb n18 hS0 hps
 have n13 : N 6 94 G0 := by
  refine zab hops hS0 hps 0 5 ?_ ?_
  refine w_o (a := v33) ?_
  exact zb n15 hS0 hps
  refine zy hops ?_
  exact zb n16 hS0 hps
 have n12 : N 6 62 G0 := by
  refine zab hops hS0 hps 0 6 ?_ ?_
  refine w_o (a := v33) ?_
  exact zb n14 hS0 hps
  refine zy hops ?_
  exact zb n16 hS0 hps
 have n11 : N 6 79 G0 := by
  refine zan hops hS0 hps 4 ?_
  refine zy hops ?_
  exact zb n15 hS0 hps
 have n10 : N 6 31 G0 := by
  refine zab hops hS0 hps 5 6 ?_ ?_
  refine zy hops ?_
  exact zb n14 hS0 hps
  refine zy hops ?_
  exact zb n15 hS0 hps
 have n9 : N 7 78 G0 := by
  refine zab hops hS0 hps 0 4 ?_ ?_
  refine w_o (a := v33) ?_
  exact zb n11 hS0 hps
  refine zy hops ?_
  exact zb n13 hS0 hps
 have n8 : N 7 30 G0 := by
  refine zdy hops hS0 hps 0 5 6 ?_ ?_ ?_
  refine w_o (a := v33) ?_
  exact zb n10 hS0 hps
  refine zy hops ?_
  exact zb n12 hS0 hps
  refine zy hops ?_
  exact zb n13 hS0 hps
 have n7 : N 7 15 G0 := by
  refine zab hops hS0 hps 4 6 ?_ ?_
  refine zy hops ?_
  exact zb n10 hS0 hps
  refine zy hops ?_
  exact zb n11 hS0 hps
 have n6 : N 8 14 G0 := by
  refine zdy hops hS0 hps 0 4 6 ?_ ?_ ?_
  refine w_o (a := v33) ?_
  exact zb n7 hS0 hps
  refine zy hops ?_
  exact zb n8 hS0 hps
  refine zy hops ?_
  exact zb n9 hS0 hps
 have n5 : N 8 7 G0 := by
  refine zan hops hS0 hps 3 ?_
  refine w_o (a := v36) (h := zv (zae rfl hc3)) ?_
  exact zb n7 hS0 hps
 have n4 : N 9 6 G0 := by
  refine zab hops hS0 hps 0 3 ?_ ?_
  refine w_o (a := v33) ?_
  exact zb n5 hS0 hps
  refine w_o (a := v36) (h := zv (zae rfl hc3)) ?_
  exact zb n6 hS0 hps
 have n3 : N 9 3 G0 := by
  refine zan hops hS0 hps 2 ?_
  refine zbc (zjg (Ed.mk s1 x3) x4 hx4) ?_
  exact zb n5 hS0 hps
 have n2 : N 10 2 G0 := by
  refine zab hops hS0 hps 0 2 ?_ ?_
  refine w_o (a := v33) ?_
  exact zb n3 hS0 hps
  refine zbc (zjg (Ed.mk s1 x3) x4 hx4) ?_
  exact zb n4 hS0 hps
 have n1 : N 10 1 G0 := by
  refine zan hops hS0 hps 1 ?_
  refine w_o (a := v34) ?_
  exact zb n3 hS0 hps
 have n0 : N 11 0 G0 := by
  refine zab hops hS0 hps 0 1 ?_ ?_
  refine w_o (a := v33) ?_
  exact zb n1 hS0 hps
  refine w_o (a := v34) ?_
  exact zb n2 hS0 hps
 exact zc1 n0 hps
 refine zh h (fun h => ?_)
 replace h := zq h hr1
 exact zam (fun (r : (Ed × Bool)) => .tup [.A (r.1 : Ed), .b r.2]) h (.tup [.A ((Ed.mk s1 x3) : Ed), .b false])
 refine zc (k0 := 0) (id := 4) ?_
 refine w_r [.m _, .v (.u (IntKind.u8.wrap (s1 + 1))), .m _] ?_
 refine zz (p := p1) ((IntKind.u8.wrap (s1 + 1))) h ?_
 exact zao (bl 43 181)
 refine zh h (fun h => ?_)
 refine zg (o := or1) () h ?_
 exact zao (bl 43 4)
 intro j1 h
 refine zbn ?_
 refine zk [.v (.A ((Ed.mk 0 0) : Ed))] ?_
 refine zcg 2 (.B [(25, (Enc.cells ((Ed.mk 0 0) : Ed)))]) ?_
 refine w_o (a := .b false) ?_
 exact zam (fun (r : (Ed × Bool)) => .tup [.A (r.1 : Ed), .b r.2]) h (.tup [.A ((Ed.mk 0 0) : Ed), .b false])
def zio (fuel : Nat) (t : (List UInt8)) : Option (En × Bool) :=
 (chk (List.length t < 4294967281) (za7 (Lib.cut t ([32] : List UInt8)) (fun x1 => (zcr (τ := En) (zbh (β := Int × En) (fun s1 => (bif (decide (s1.1 ≤ 3)) then (zcr (τ := En) (chk (1 ≤ s1.1 ∧ s1.1 ≤ 3) (bif ((zbe s1.1).w == x1.1) then (some (Sum.inl ((En.mk s1.1 s1.2.fr s1.2.to s1.2.b)))) else (some (Sum.inl (s1.2))))) (fun j2 => (some (Sum.inl ((IntKind.u8.wrap (s1.1 + 1)), j2))))) else (some (Sum.inr (Sum.inl (s1.2)))))) fuel (1, (En.mk 0 0 0 []))) (fun j1 => (bif (j1.k == 0) then (some (j1, false)) else (bif (j1.k == 1) then (z1 (zfh fuel x1.2.1) (fun x2 => (bif (x2.2.2 == 0) then (z1 (zng fuel (En.mk j1.k j1.fr j1.to x2.1)) (fun x3 => (some ((En.mk j1.k j1.fr j1.to x2.1), (x3 == t))))) else (some ((En.mk j1.k j1.fr j1.to x2.1), false))))) else (chk (List.length x1.2.1 < 4294967281) (za7 (Lib.cut x1.2.1 ([32] : List UInt8)) (fun x4 => (chk (List.length x4.1 ≤ 281474976710656) (za7 (zmv x4.1) (fun x5 => (chk (List.length x4.2.1 ≤ 281474976710656) (za7 (zmv x4.2.1) (fun x6 => (z1 (zng fuel (En.mk ((En.mk j1.k x5 j1.to j1.b).k) ((En.mk j1.k x5 j1.to j1.b).fr) x6 ((En.mk j1.k x5 j1.to j1.b).b))) (fun x7 => (some ((En.mk ((En.mk j1.k x5 j1.to j1.b).k) ((En.mk j1.k x5 j1.to j1.b).fr) x6 ((En.mk j1.k x5 j1.to j1.b).b)), (x7 == t)))))))))))))))))))))
theorem ent28 : Ent Tryz.prog 28 := enters_of Tryz.func28 (by kernel_rfl) rfl
theorem z0h (fuel : Nat) (t : (List UInt8)) (r : (En × Bool)) (h : zio fuel t = some r) : Pure (ITP Tryz.prog) Tryz.prog 28 [.raw (.string (bs t))] (.tup [.A (r.1 : En), .raw (.bool r.2)]) := by
 unfold zio at h
 refine zah 80 mix Tryz.func28 ent28 ?_
 refine zj (zc ?_)
 refine zbr (a := .ptr 0 0) (σ'' := (.B [(41, (Enc.cells ((En.mk 0 0 0 []) : En)))])) ?_
 refine w_o (a := .b false) ?_
 refine zk [.m _] ?_
 obtain ⟨g1, h⟩ := zf h
 obtain ⟨x1, hx1, h⟩ := zo h
 refine zbc (args' := [.s t, .s ([32] : List UInt8)]) (r := .tup [.s x1.1, .s x1.2.1, .b x1.2.2]) (by rw [← hx1]; exact (zmb t ([32] : List UInt8) g1)) ?_
 refine w_r [.m _, .x _, .x _, .x _, .m _] ?_
 refine w_r [.m _, .m _] ?_
 refine zk [.v (.A ((En.mk 0 0 0 []) : En))] ?_
 refine zbr (a := .ptr 1 0) (σ'' := (.B [(41, (Enc.cells ((En.mk 0 0 0 []) : En))), (41, (Enc.cells ((En.mk 0 0 0 []) : En)))])) ?_
 refine zcg 4 (.B [(41, (Enc.cells ((En.mk 0 0 0 []) : En))), (41, (Enc.cells ((En.mk 0 0 0 []) : En)))]) ?_
 refine zaf h (bz 0 81 2417851639229258349412186) (fun j1 => []) (fun j1 => (.B [(41, (Enc.cells ((En.mk 0 0 0 []) : En))), (41, (Enc.cells (j1 : En)))])) ?_ ?_
 intro or1 h hr1
 refine zk [.v (.u 1)] ?_
 refine zr ?_
 refine zap h (bz 0 81 2417851639229258349412170) (fun s1 => [(8, .u s1.1)]) (fun s1 => (.B [(41, (Enc.cells ((En.mk 0 0 0 []) : En))), (41, (Enc.cells (s1.2 : En)))])) ?_ ?_
 exact zao (bl 81 437)
 intro s1 p1 h
 refine zbn ?_
 refine zj ?_
 refine zk [.m _, .v (.b (decide (s1.1 ≤ 3)))] ?_
 refine za3 h (fun hc1 h => ?_) (fun hc1 h => ?_)
 refine zaf h (bz 0 34 17125343232) (fun j2 => []) (fun j2 => (.B [(41, (Enc.cells ((En.mk 0 0 0 []) : En))), (41, (Enc.cells (j2 : En)))])) ?_ ?_
 intro or2 h hr2
 refine zr ?_
 refine zj (zc ?_)
 refine zbc (r := kindsA) zo6 ?_
 refine zp ?_
 obtain ⟨g2, h⟩ := zf h
 refine w_o (a := .A ((zbe s1.1) : Kd)) (h := zv (z2c g2 rfl rfl rfl)) ?_
 refine w_r [.v (.s ((zbe s1.1).w)), .m _] ?_
 refine w_o (a := .b ((zbe s1.1).w == x1.1)) (h := zv (zb7 rfl rfl rfl)) ?_
 refine za3 h (fun hc2 h => ?_) (fun hc2 h => ?_)
 refine zc (k0 := 0) (id := 7) ?_
 refine w_r [.m _, .v (.ptr 1 0)] ?_
 refine zbr (σ'' := (.B [(41, (Enc.cells ((En.mk 0 0 0 []) : En))), (41, (Enc.cells ((En.mk s1.1 s1.2.fr s1.2.to s1.2.b) : En)))])) (h := zca (n := 1) rfl rfl rfl rfl rfl ⟨rfl, rfl, Nat.le_of_ble_eq_true rfl, by decide⟩) ?_
 refine zg (o := or2) ((En.mk s1.1 s1.2.fr s1.2.to s1.2.b)) h ?_
 exact zao (bl 81 2417851639229241224069119)
 refine zg (o := or2) (s1.2) h ?_
 exact zao (bl 81 2417851639229241224069119)
 intro j2 h
 refine zbn ?_
 refine zc (k0 := 0) (id := 5) ?_
 refine w_r [.m _, .v (.u (IntKind.u8.wrap (s1.1 + 1))), .m _] ?_
 refine zz (p := p1) ((IntKind.u8.wrap (s1.1 + 1)), j2) h ?_
 exact zao (bl 81 437)
 refine zh h (fun h => ?_)
 refine zg (o := or1) (s1.2) h ?_
 exact zao (bl 81 165)
 intro j1 h
 refine zbn ?_
 refine zj ?_
 refine zk [.v (.ptr 1 0), .v (.u j1.k), .v (.b (j1.k == 0))] ?_
 refine za3 h (fun hc3 h => ?_) (fun hc3 h => ?_)
 refine zk [.v (.A (j1 : En))] ?_
 refine zcg 4 (.B [(41, (Enc.cells (j1 : En))), (41, (Enc.cells (j1 : En)))]) ?_
 refine w_o (a := .b false) ?_
 exact zam (fun (r : (En × Bool)) => .tup [.A (r.1 : En), .b r.2]) h (.tup [.A (j1 : En), .b false])
 refine zj ?_
 refine zk [.v (.ptr 1 0), .v (.u j1.k), .v (.b (j1.k == 1))] ?_
 refine za3 h (fun hc4 h => ?_) (fun hc4 h => ?_)
 refine zk [.m _] ?_
 obtain ⟨x2, hx2, h⟩ := zl h
 refine zbc (zwv fuel x1.2.1 x2 hx2) ?_
 refine w_r [.m _, .x _, .x _, .x _, .m _] ?_
 refine w_r [.m _, .m _] ?_
 refine zk [.m _, .v (.ptr 1 3)] ?_
 refine zbr (σ'' := (.B [(41, (Enc.cells ((En.mk 0 0 0 []) : En))), (41, (Enc.cells ((En.mk j1.k j1.fr j1.to x2.1) : En)))])) (h := zca (n := 1) rfl rfl rfl rfl rfl ⟨rfl, rfl, Nat.le_of_ble_eq_true rfl, by decide⟩) ?_
 refine zaa h (fun hc5 h => ?_) (fun hc5 h => ?_)
 obtain ⟨x3, hx3, h⟩ := zl h
 refine zc8 (id := 13) [.s t, .top, .ptr 0 0, .b (x3 == t), .top, .s x1.2.1, .top, .ptr 1 0, .top, .s x2.1, .i x2.2.1, .i x2.2.2, .top, .top, .top, .top, .top, .top, .top, .top, .top, .top, .top, .top, .top, .top, .top, .top, .top, .top, .top, .top, .top, .top, .ptr 1 0, .u j1.k, .b (j1.k == 0), .top, .ptr 1 0, .u j1.k, .b (j1.k == 1), .tup [.s x2.1, .i x2.2.1, .i x2.2.2], .s x1.2.1, .tup [.s x2.1, .i x2.2.1, .i x2.2.2], .s x2.1, .i x2.2.1, .i x2.2.2, .s x2.1, .ptr 1 3, .A ((En.mk j1.k j1.fr j1.to x2.1) : En), .i x2.2.2, .b (x2.2.2 == 0), .b true, .A ((En.mk j1.k j1.fr j1.to x2.1) : En), .s x3, .s t, .b (x3 == t), .b (x3 == t), .top, .top, .top, .top, .top, .top, .top, .top, .top, .top, .top, .top, .top, .top, .top, .top, .top, .top, .top, .top, .top, .top, .top] (.B [(41, (Enc.cells ((En.mk j1.k j1.fr j1.to x2.1) : En))), (41, (Enc.cells ((En.mk j1.k j1.fr j1.to x2.1) : En)))]) ?_ ?_
 refine zbs (fun ops hops FIN hFIN S0 hS0 => ?_)
 let v49 : AV := .A ((En.mk j1.k j1.fr j1.to x2.1) : En)
 let v51 : AV := .b (x2.2.2 == 0)
 let v52 : AV := .b true
 let v53 : AV := .A ((En.mk j1.k j1.fr j1.to x2.1) : En)
 let v54 : AV := .s x3
 let v56 : AV := .b (x3 == t)
 let v57 : AV := .b (x3 == t)
 let G0 : St := (.B [(41, (Enc.cells ((En.mk 0 0 0 []) : En))), (41, (Enc.cells ((En.mk j1.k j1.fr j1.to x2.1) : En)))])
 let G1 : St := (.B [(41, (Enc.cells ((En.mk j1.k j1.fr j1.to x2.1) : En))), (41, (Enc.cells ((En.mk j1.k j1.fr j1.to x2.1) : En)))])
 obtain ⟨ps, hps⟩ : ∃ ps : List (Option (Nat × AV)), ps = [some (49, v49), some (50, .i x2.2.2), some (51, v51), some (52, v52), some (53, v53), some (54, v54), some (55, .s t), some (56, v56), some (57, v57), none, some (3, .b (x3 == t))] := ⟨_, rfl⟩
 let N : Nat → Nat → St → Prop := fun k m σ => aN (ITP Tryz.prog) Tryz.prog none ops FIN S0 ps 11 k m σ
 have n26 : N 0 2047 G1 := by
  exact zu5 hops hS0 hps (hFIN _ _ (Wk.refl _ _ _))
 have n25 : N 1 1023 G1 := by
  refine zan hops hS0 hps 10 ?_
  refine zp ?_
  exact zb n26 hS0 hps
 have n24 : N 2 767 G1 := by
  refine zan hops hS0 hps 8 ?_
  refine w_o (a := v57) ?_
  exact zb n25 hS0 hps
 have n23 : N 2 511 G0 := by
  refine zan hops hS0 hps 9 ?_
  refine zcg 4 G1 ?_
  exact zb n25 hS0 hps
 have n22 : N 3 510 G0 := by
  refine zan hops hS0 hps 0 ?_
  refine w_o (a := v49) ?_
  exact zb n23 hS0 hps
 have n21 : N 3 639 G1 := by
  refine zan hops hS0 hps 7 ?_
  refine zm hops rfl rfl ?_
  refine w_o (a := v56) (h := zv (zb7 rfl rfl rfl)) ?_
  exact zb n24 hS0 hps
 have n20 : N 3 255 G0 := by
  refine zab hops hS0 hps 8 9 ?_ ?_
  refine w_o (a := v57) ?_
  exact zb n23 hS0 hps
  refine zcg 4 G1 ?_
  exact zb n24 hS0 hps
 have n19 : N 4 254 G0 := by
  refine zab hops hS0 hps 0 8 ?_ ?_
  refine w_o (a := v49) ?_
  exact zb n20 hS0 hps
  refine w_o (a := v57) ?_
  exact zb n22 hS0 hps
 have n18 : N 4 575 G1 := by
  refine zan hops hS0 hps 6 ?_
  refine zm hops rfl rfl ?_
  refine zp ?_
  exact zb n21 hS0 hps
 have n17 : N 4 127 G0 := by
  refine zab hops hS0 hps 7 9 ?_ ?_
  refine zm hops rfl rfl ?_
  refine w_o (a := v56) (h := zv (zb7 rfl rfl rfl)) ?_
  exact zb n20 hS0 hps
  refine zcg 4 G1 ?_
  exact zb n21 hS0 hps
 have n16 : N 5 126 G0 := by
  refine zab hops hS0 hps 0 7 ?_ ?_
  refine w_o (a := v49) ?_
  exact zb n17 hS0 hps
  refine zm hops rfl rfl ?_
  refine w_o (a := v56) (h := zv (zb7 rfl rfl rfl)) ?_
  exact zb n19 hS0 hps
 have n15 : N 5 95 G0 := by
  refine zan hops hS0 hps 5 ?_
  refine zm hops rfl rfl ?_
  refine zbc (zf7 fuel (En.mk j1.k j1.fr j1.to x2.1) x3 hx3) ?_
  exact zb n17 hS0 hps
 have n14 : N 5 63 G0 := by
  refine zab hops hS0 hps 6 9 ?_ ?_
  refine zm hops rfl rfl ?_
  refine zp ?_
  exact zb n17 hS0 hps
  refine zcg 4 G1 ?_
  exact zb n18 hS0 hps
 have n13 : N 6 94 G0 := by
  refine zab hops hS0 hps 0 5 ?_ ?_
  refine w_o (a := v49) ?_
  exact zb n15 hS0 hps
  refine zm hops rfl rfl ?_
  refine zbc (zf7 fuel (En.mk j1.k j1.fr j1.to x2.1) x3 hx3) ?_
  exact zb n16 hS0 hps
 have n12 : N 6 62 G0 := by
  refine zab hops hS0 hps 0 6 ?_ ?_
  refine w_o (a := v49) ?_
  exact zb n14 hS0 hps
  refine zm hops rfl rfl ?_
  refine zp ?_
  exact zb n16 hS0 hps
 have n11 : N 6 79 G0 := by
  refine zan hops hS0 hps 4 ?_
  refine zm hops rfl rfl ?_
  refine w_o (a := v53) ?_
  exact zb n15 hS0 hps
 have n10 : N 6 31 G0 := by
  refine zab hops hS0 hps 5 6 ?_ ?_
  refine zm hops rfl rfl ?_
  refine zbc (zf7 fuel (En.mk j1.k j1.fr j1.to x2.1) x3 hx3) ?_
  exact zb n14 hS0 hps
  refine zm hops rfl rfl ?_
  refine zp ?_
  exact zb n15 hS0 hps
 have n9 : N 7 78 G0 := by
  refine zab hops hS0 hps 0 4 ?_ ?_
  refine w_o (a := v49) ?_
  exact zb n11 hS0 hps
  refine zm hops rfl rfl ?_
  refine w_o (a := v53) ?_
  exact zb n13 hS0 hps
 have n8 : N 7 30 G0 := by
  refine zdy hops hS0 hps 0 5 6 ?_ ?_ ?_
  refine w_o (a := v49) ?_
  exact zb n10 hS0 hps
  refine zm hops rfl rfl ?_
  refine zbc (zf7 fuel (En.mk j1.k j1.fr j1.to x2.1) x3 hx3) ?_
  exact zb n12 hS0 hps
  refine zm hops rfl rfl ?_
  refine zp ?_
  exact zb n13 hS0 hps
 have n7 : N 7 15 G0 := by
  refine zab hops hS0 hps 4 6 ?_ ?_
  refine zm hops rfl rfl ?_
  refine w_o (a := v53) ?_
  exact zb n10 hS0 hps
  refine zm hops rfl rfl ?_
  refine zp ?_
  exact zb n11 hS0 hps
 have n6 : N 8 14 G0 := by
  refine zdy hops hS0 hps 0 4 6 ?_ ?_ ?_
  refine w_o (a := v49) ?_
  exact zb n7 hS0 hps
  refine zm hops rfl rfl ?_
  refine w_o (a := v53) ?_
  exact zb n8 hS0 hps
  refine zm hops rfl rfl ?_
  refine zp ?_
  exact zb n9 hS0 hps
 have n5 : N 8 7 G0 := by
  refine zan hops hS0 hps 3 ?_
  refine w_o (a := v52) (h := zv (zae rfl hc5)) ?_
  exact zb n7 hS0 hps
 have n4 : N 9 6 G0 := by
  refine zab hops hS0 hps 0 3 ?_ ?_
  refine w_o (a := v49) ?_
  exact zb n5 hS0 hps
  refine w_o (a := v52) (h := zv (zae rfl hc5)) ?_
  exact zb n6 hS0 hps
 have n3 : N 9 3 G0 := by
  refine zan hops hS0 hps 2 ?_
  refine w_o (a := v51) ?_
  exact zb n5 hS0 hps
 have n2 : N 10 2 G0 := by
  refine zab hops hS0 hps 0 2 ?_ ?_
  refine w_o (a := v49) ?_
  exact zb n3 hS0 hps
  refine w_o (a := v51) ?_
  exact zb n4 hS0 hps
 have n1 : N 10 1 G0 := by
  refine zan hops hS0 hps 1 ?_
  refine zp ?_
  exact zb n3 hS0 hps
 have n0 : N 11 0 G0 := by
  refine zab hops hS0 hps 0 1 ?_ ?_
  refine w_o (a := v49) ?_
  exact zb n1 hS0 hps
  refine zp ?_
  exact zb n2 hS0 hps
 exact zc1 n0 hps
 exact zam (fun (r : (En × Bool)) => .tup [.A (r.1 : En), .b r.2]) h (.tup [.A ((En.mk j1.k j1.fr j1.to x2.1) : En), .b (x3 == t)])
 refine zc8 (id := 13) [.s t, .top, .ptr 0 0, .b false, .top, .s x1.2.1, .top, .ptr 1 0, .top, .s x2.1, .i x2.2.1, .i x2.2.2, .top, .top, .top, .top, .top, .top, .top, .top, .top, .top, .top, .top, .top, .top, .top, .top, .top, .top, .top, .top, .top, .top, .ptr 1 0, .u j1.k, .b (j1.k == 0), .top, .ptr 1 0, .u j1.k, .b (j1.k == 1), .tup [.s x2.1, .i x2.2.1, .i x2.2.2], .s x1.2.1, .tup [.s x2.1, .i x2.2.1, .i x2.2.2], .s x2.1, .i x2.2.1, .i x2.2.2, .s x2.1, .ptr 1 3, .A ((En.mk j1.k j1.fr j1.to x2.1) : En), .i x2.2.2, .b (x2.2.2 == 0), .b false, .raw undef, .raw undef, .raw undef, .raw undef, .b false, .top, .top, .top, .top, .top, .top, .top, .top, .top, .top, .top, .top, .top, .top, .top, .top, .top, .top, .top, .top, .top, .top, .top] (.B [(41, (Enc.cells ((En.mk j1.k j1.fr j1.to x2.1) : En))), (41, (Enc.cells ((En.mk j1.k j1.fr j1.to x2.1) : En)))]) ?_ ?_
 refine zbs (fun ops hops FIN hFIN S0 hS0 => ?_)
 let v49 : AV := .A ((En.mk j1.k j1.fr j1.to x2.1) : En)
 let v51 : AV := .b (x2.2.2 == 0)
 let v52 : AV := .b false
 let v57 : AV := .b false
 let G0 : St := (.B [(41, (Enc.cells ((En.mk 0 0 0 []) : En))), (41, (Enc.cells ((En.mk j1.k j1.fr j1.to x2.1) : En)))])
 let G1 : St := (.B [(41, (Enc.cells ((En.mk j1.k j1.fr j1.to x2.1) : En))), (41, (Enc.cells ((En.mk j1.k j1.fr j1.to x2.1) : En)))])
 obtain ⟨ps, hps⟩ : ∃ ps : List (Option (Nat × AV)), ps = [some (49, v49), some (50, .i x2.2.2), some (51, v51), some (52, v52), some (53, .raw undef), some (54, .raw undef), some (55, .raw undef), some (56, .raw undef), some (57, v57), none, some (3, .b false)] := ⟨_, rfl⟩
 let N : Nat → Nat → St → Prop := fun k m σ => aN (ITP Tryz.prog) Tryz.prog none ops FIN S0 ps 11 k m σ
 have n26 : N 0 2047 G1 := by
  exact zu5 hops hS0 hps (hFIN _ _ (Wk.refl _ _ _))
 have n25 : N 1 1023 G1 := by
  refine zan hops hS0 hps 10 ?_
  refine zp ?_
  exact zb n26 hS0 hps
 have n24 : N 2 767 G1 := by
  refine zan hops hS0 hps 8 ?_
  refine w_o (a := v57) ?_
  exact zb n25 hS0 hps
 have n23 : N 2 511 G0 := by
  refine zan hops hS0 hps 9 ?_
  refine zcg 4 G1 ?_
  exact zb n25 hS0 hps
 have n22 : N 3 510 G0 := by
  refine zan hops hS0 hps 0 ?_
  refine w_o (a := v49) ?_
  exact zb n23 hS0 hps
 have n21 : N 3 639 G1 := by
  refine zan hops hS0 hps 7 ?_
  refine zy hops ?_
  exact zb n24 hS0 hps
 have n20 : N 3 255 G0 := by
  refine zab hops hS0 hps 8 9 ?_ ?_
  refine w_o (a := v57) ?_
  exact zb n23 hS0 hps
  refine zcg 4 G1 ?_
  exact zb n24 hS0 hps
 have n19 : N 4 254 G0 := by
  refine zab hops hS0 hps 0 8 ?_ ?_
  refine w_o (a := v49) ?_
  exact zb n20 hS0 hps
  refine w_o (a := v57) ?_
  exact zb n22 hS0 hps
 have n18 : N 4 575 G1 := by
  refine zan hops hS0 hps 6 ?_
  refine zy hops ?_
  exact zb n21 hS0 hps
 have n17 : N 4 127 G0 := by
  refine zab hops hS0 hps 7 9 ?_ ?_
  refine zy hops ?_
  exact zb n20 hS0 hps
  refine zcg 4 G1 ?_
  exact zb n21 hS0 hps
 have n16 : N 5 126 G0 := by
  refine zab hops hS0 hps 0 7 ?_ ?_
  refine w_o (a := v49) ?_
  exact zb n17 hS0 hps
  refine zy hops ?_
  exact zb n19 hS0 hps
 have n15 : N 5 95 G0 := by
  refine zan hops hS0 hps 5 ?_
  refine zy hops ?_
  exact zb n17 hS0 hps
 have n14 : N 5 63 G0 := by
  refine zab hops hS0 hps 6 9 ?_ ?_
  refine zy hops ?_
  exact zb n17 hS0 hps
  refine zcg 4 G1 ?_
  exact zb n18 hS0 hps
 have n13 : N 6 94 G0 := by
  refine zab hops hS0 hps 0 5 ?_ ?_
  refine w_o (a := v49) ?_
  exact zb n15 hS0 hps
  refine zy hops ?_
  exact zb n16 hS0 hps
 have n12 : N 6 62 G0 := by
  refine zab hops hS0 hps 0 6 ?_ ?_
  refine w_o (a := v49) ?_
  exact zb n14 hS0 hps
  refine zy hops ?_
  exact zb n16 hS0 hps
 have n11 : N 6 79 G0 := by
  refine zan hops hS0 hps 4 ?_
  refine zy hops ?_
  exact zb n15 hS0 hps
 have n10 : N 6 31 G0 := by
  refine zab hops hS0 hps 5 6 ?_ ?_
  refine zy hops ?_
  exact zb n14 hS0 hps
  refine zy hops ?_
  exact zb n15 hS0 hps
 have n9 : N 7 78 G0 := by
  refine zab hops hS0 hps 0 4 ?_ ?_
  refine w_o (a := v49) ?_
  exact zb n11 hS0 hps
  refine zy hops ?_
  exact zb n13 hS0 hps
 have n8 : N 7 30 G0 := by
  refine zdy hops hS0 hps 0 5 6 ?_ ?_ ?_
  refine w_o (a := v49) ?_
  exact zb n10 hS0 hps
  refine zy hops ?_
  exact zb n12 hS0 hps
  refine zy hops ?_
  exact zb n13 hS0 hps
 have n7 : N 7 15 G0 := by
  refine zab hops hS0 hps 4 6 ?_ ?_
  refine zy hops ?_
  exact zb n10 hS0 hps
  refine zy hops ?_
  exact zb n11 hS0 hps
 have n6 : N 8 14 G0 := by
  refine zdy hops hS0 hps 0 4 6 ?_ ?_ ?_
  refine w_o (a := v49) ?_
  exact zb n7 hS0 hps
  refine zy hops ?_
  exact zb n8 hS0 hps
  refine zy hops ?_
  exact zb n9 hS0 hps
 have n5 : N 8 7 G0 := by
  refine zan hops hS0 hps 3 ?_
  refine w_o (a := v52) (h := zv (zae rfl hc5)) ?_
  exact zb n7 hS0 hps
 have n4 : N 9 6 G0 := by
  refine zab hops hS0 hps 0 3 ?_ ?_
  refine w_o (a := v49) ?_
  exact zb n5 hS0 hps
  refine w_o (a := v52) (h := zv (zae rfl hc5)) ?_
  exact zb n6 hS0 hps
 have n3 : N 9 3 G0 := by
  refine zan hops hS0 hps 2 ?_
  refine w_o (a := v51) ?_
  exact zb n5 hS0 hps
 have n2 : N 10 2 G0 := by
  refine zab hops hS0 hps 0 2 ?_ ?_
  refine w_o (a := v49) ?_
  exact zb n3 hS0 hps
  refine w_o (a := v51) ?_
  exact zb n4 hS0 hps
 have n1 : N 10 1 G0 := by
  refine zan hops hS0 hps 1 ?_
  refine zp ?_
  exact zb n3 hS0 hps
 have n0 : N 11 0 G0 := by
  refine zab hops hS0 hps 0 1 ?_ ?_
  refine w_o (a := v49) ?_
  exact zb n1 hS0 hps
  refine zp ?_
  exact zb n2 hS0 hps
 exact zc1 n0 hps
 exact zam (fun (r : (En × Bool)) => .tup [.A (r.1 : En), .b r.2]) h (.tup [.A ((En.mk j1.k j1.fr j1.to x2.1) : En), .b false])
 refine zk [.m _] ?_
 obtain ⟨g3, h⟩ := zf h
 obtain ⟨x4, hx4, h⟩ := zo h
 refine zbc (args' := [.s x1.2.1, .s ([32] : List UInt8)]) (r := .tup [.s x4.1, .s x4.2.1, .b x4.2.2]) (by rw [← hx4]; exact (zmb x1.2.1 ([32] : List UInt8) g3)) ?_
 refine w_r [.m _, .x _, .x _, .x _, .m _] ?_
 refine w_r [.m _, .m _] ?_
 refine zk [.m _] ?_
 obtain ⟨g4, h⟩ := zf h
 obtain ⟨x5, hx5, h⟩ := zo h
 refine zbc (args' := [.s x4.1]) (r := .tup [.i x5, .top]) (by rw [← hx5]; exact (zn7 x4.1 g4)) ?_
 refine w_r [.m _, .x _, .x _, .v (.ptr 1 1)] ?_
 refine zbr (σ'' := (.B [(41, (Enc.cells ((En.mk 0 0 0 []) : En))), (41, (Enc.cells ((En.mk j1.k x5 j1.to j1.b) : En)))])) (h := zca (n := 1) rfl rfl rfl rfl rfl ⟨rfl, rfl, Nat.le_of_ble_eq_true rfl, by decide⟩) ?_
 refine zk [.m _] ?_
 obtain ⟨g5, h⟩ := zf h
 obtain ⟨x6, hx6, h⟩ := zo h
 refine zbc (args' := [.s x4.2.1]) (r := .tup [.i x6, .top]) (by rw [← hx6]; exact (zn7 x4.2.1 g5)) ?_
 refine w_r [.m _, .x _, .x _, .v (.ptr 1 2)] ?_
 refine zbr (σ'' := (.B [(41, (Enc.cells ((En.mk 0 0 0 []) : En))), (41, (Enc.cells ((En.mk ((En.mk j1.k x5 j1.to j1.b).k) ((En.mk j1.k x5 j1.to j1.b).fr) x6 ((En.mk j1.k x5 j1.to j1.b).b)) : En)))])) (h := zca (n := 1) rfl rfl rfl rfl rfl ⟨rfl, rfl, Nat.le_of_ble_eq_true rfl, by decide⟩) ?_
 obtain ⟨x7, hx7, h⟩ := zl h
 refine zc8 (id := 17) [.s t, .top, .ptr 0 0, .b (x7 == t), .top, .s x1.2.1, .top, .ptr 1 0, .top, .top, .top, .top, .s x4.1, .s x4.2.1, .b x4.2.2, .top, .top, .top, .top, .top, .top, .top, .top, .top, .top, .top, .top, .top, .top, .top, .top, .top, .top, .top, .ptr 1 0, .u j1.k, .b (j1.k == 0), .top, .ptr 1 0, .u j1.k, .b (j1.k == 1), .top, .top, .top, .top, .top, .top, .top, .top, .top, .top, .top, .top, .top, .top, .top, .top, .top, .tup [.s x4.1, .s x4.2.1, .b x4.2.2], .s x1.2.1, .tup [.s x4.1, .s x4.2.1, .b x4.2.2], .s x4.1, .s x4.2.1, .b x4.2.2, .tup [.i x5, .top], .s x4.1, .tup [.i x5, .top], .i x5, .top, .ptr 1 1, .tup [.i x6, .top], .s x4.2.1, .tup [.i x6, .top], .i x6, .top, .ptr 1 2, .A ((En.mk ((En.mk j1.k x5 j1.to j1.b).k) ((En.mk j1.k x5 j1.to j1.b).fr) x6 ((En.mk j1.k x5 j1.to j1.b).b)) : En), .A ((En.mk ((En.mk j1.k x5 j1.to j1.b).k) ((En.mk j1.k x5 j1.to j1.b).fr) x6 ((En.mk j1.k x5 j1.to j1.b).b)) : En), .s x7, .s t, .b (x7 == t)] (.B [(41, (Enc.cells ((En.mk ((En.mk j1.k x5 j1.to j1.b).k) ((En.mk j1.k x5 j1.to j1.b).fr) x6 ((En.mk j1.k x5 j1.to j1.b).b)) : En))), (41, (Enc.cells ((En.mk ((En.mk j1.k x5 j1.to j1.b).k) ((En.mk j1.k x5 j1.to j1.b).fr) x6 ((En.mk j1.k x5 j1.to j1.b).b)) : En)))]) ?_ ?_
 refine zbs (fun ops hops FIN hFIN S0 hS0 => ?_)
 let v76 : AV := .A ((En.mk ((En.mk j1.k x5 j1.to j1.b).k) ((En.mk j1.k x5 j1.to j1.b).fr) x6 ((En.mk j1.k x5 j1.to j1.b).b)) : En)
 let v77 : AV := .A ((En.mk ((En.mk j1.k x5 j1.to j1.b).k) ((En.mk j1.k x5 j1.to j1.b).fr) x6 ((En.mk j1.k x5 j1.to j1.b).b)) : En)
 let v78 : AV := .s x7
 let v80 : AV := .b (x7 == t)
 let G0 : St := (.B [(41, (Enc.cells ((En.mk 0 0 0 []) : En))), (41, (Enc.cells ((En.mk ((En.mk j1.k x5 j1.to j1.b).k) ((En.mk j1.k x5 j1.to j1.b).fr) x6 ((En.mk j1.k x5 j1.to j1.b).b)) : En)))])
 let G1 : St := (.B [(41, (Enc.cells ((En.mk ((En.mk j1.k x5 j1.to j1.b).k) ((En.mk j1.k x5 j1.to j1.b).fr) x6 ((En.mk j1.k x5 j1.to j1.b).b)) : En))), (41, (Enc.cells ((En.mk ((En.mk j1.k x5 j1.to j1.b).k) ((En.mk j1.k x5 j1.to j1.b).fr) x6 ((En.mk j1.k x5 j1.to j1.b).b)) : En)))])
 obtain ⟨ps, hps⟩ : ∃ ps : List (Option (Nat × AV)), ps = [some (76, v76), some (77, v77), some (78, v78), some (79, .s t), some (80, v80), none, some (3, .b (x7 == t))] := ⟨_, rfl⟩
 let N : Nat → Nat → St → Prop := fun k m σ => aN (ITP Tryz.prog) Tryz.prog none ops FIN S0 ps 7 k m σ
 have n17 : N 0 127 G1 := by
  exact zu5 hops hS0 hps (hFIN _ _ (Wk.refl _ _ _))
 have n16 : N 1 63 G1 := by
  refine zan hops hS0 hps 6 ?_
  refine zp ?_
  exact zb n17 hS0 hps
 have n15 : N 2 47 G1 := by
  refine zan hops hS0 hps 4 ?_
  refine w_o (a := v80) (h := zv (zb7 rfl rfl rfl)) ?_
  exact zb n16 hS0 hps
 have n14 : N 2 31 G0 := by
  refine zan hops hS0 hps 5 ?_
  refine zcg 4 G1 ?_
  exact zb n16 hS0 hps
 have n13 : N 3 30 G0 := by
  refine zan hops hS0 hps 0 ?_
  refine w_o (a := v76) ?_
  exact zb n14 hS0 hps
 have n12 : N 3 39 G1 := by
  refine zan hops hS0 hps 3 ?_
  refine zp ?_
  exact zb n15 hS0 hps
 have n11 : N 3 15 G0 := by
  refine zab hops hS0 hps 4 5 ?_ ?_
  refine w_o (a := v80) (h := zv (zb7 rfl rfl rfl)) ?_
  exact zb n14 hS0 hps
  refine zcg 4 G1 ?_
  exact zb n15 hS0 hps
 have n10 : N 4 14 G0 := by
  refine zab hops hS0 hps 0 4 ?_ ?_
  refine w_o (a := v76) ?_
  exact zb n11 hS0 hps
  refine w_o (a := v80) (h := zv (zb7 rfl rfl rfl)) ?_
  exact zb n13 hS0 hps
 have n9 : N 4 11 G0 := by
  refine zan hops hS0 hps 2 ?_
  refine zbc (zf7 fuel (En.mk ((En.mk j1.k x5 j1.to j1.b).k) ((En.mk j1.k x5 j1.to j1.b).fr) x6 ((En.mk j1.k x5 j1.to j1.b).b)) x7 hx7) ?_
  exact zb n11 hS0 hps
 have n8 : N 4 7 G0 := by
  refine zab hops hS0 hps 3 5 ?_ ?_
  refine zp ?_
  exact zb n11 hS0 hps
  refine zcg 4 G1 ?_
  exact zb n12 hS0 hps
 have n7 : N 5 10 G0 := by
  refine zab hops hS0 hps 0 2 ?_ ?_
  refine w_o (a := v76) ?_
  exact zb n9 hS0 hps
  refine zbc (zf7 fuel (En.mk ((En.mk j1.k x5 j1.to j1.b).k) ((En.mk j1.k x5 j1.to j1.b).fr) x6 ((En.mk j1.k x5 j1.to j1.b).b)) x7 hx7) ?_
  exact zb n10 hS0 hps
 have n6 : N 5 6 G0 := by
  refine zab hops hS0 hps 0 3 ?_ ?_
  refine w_o (a := v76) ?_
  exact zb n8 hS0 hps
  refine zp ?_
  exact zb n10 hS0 hps
 have n5 : N 5 9 G0 := by
  refine zan hops hS0 hps 1 ?_
  refine w_o (a := v77) ?_
  exact zb n9 hS0 hps
 have n4 : N 5 3 G0 := by
  refine zab hops hS0 hps 2 3 ?_ ?_
  refine zbc (zf7 fuel (En.mk ((En.mk j1.k x5 j1.to j1.b).k) ((En.mk j1.k x5 j1.to j1.b).fr) x6 ((En.mk j1.k x5 j1.to j1.b).b)) x7 hx7) ?_
  exact zb n8 hS0 hps
  refine zp ?_
  exact zb n9 hS0 hps
 have n3 : N 6 8 G0 := by
  refine zab hops hS0 hps 0 1 ?_ ?_
  refine w_o (a := v76) ?_
  exact zb n5 hS0 hps
  refine w_o (a := v77) ?_
  exact zb n7 hS0 hps
 have n2 : N 6 2 G0 := by
  refine zdy hops hS0 hps 0 2 3 ?_ ?_ ?_
  refine w_o (a := v76) ?_
  exact zb n4 hS0 hps
  refine zbc (zf7 fuel (En.mk ((En.mk j1.k x5 j1.to j1.b).k) ((En.mk j1.k x5 j1.to j1.b).fr) x6 ((En.mk j1.k x5 j1.to j1.b).b)) x7 hx7) ?_
  exact zb n6 hS0 hps
  refine zp ?_
  exact zb n7 hS0 hps
 have n1 : N 6 1 G0 := by
  refine zab hops hS0 hps 1 3 ?_ ?_
  refine w_o (a := v77) ?_
  exact zb n4 hS0 hps
  refine zp ?_
  exact zb n5 hS0 hps
 have n0 : N 7 0 G0 := by
  refine zdy hops hS0 hps 0 1 3 ?_ ?_ ?_
  refine w_o (a := v76) ?_
  exact zb n1 hS0 hps
  refine w_o (a := v77) ?_
  exact zb n2 hS0 hps
  refine zp ?_
  exact zb n3 hS0 hps
 exact zc1 n0 hps
 exact zam (fun (r : (En × Bool)) => .tup [.A (r.1 : En), .b r.2]) h (.tup [.A ((En.mk ((En.mk j1.k x5 j1.to j1.b).k) ((En.mk j1.k x5 j1.to j1.b).fr) x6 ((En.mk j1.k x5 j1.to j1.b).b)) : En), .b (x7 == t)])
def zsl (fuel : Nat) (t : (List UInt8)) : Option (Trc × Int × Int) :=
 (bif (decide ((List.length t : Int) > 1048576)) then (some ((Trc.mk [] (Ed.mk 0 0)), 0, 3)) else (zcr (τ := Int × Trc) (zbh (β := (List UInt8) × Int × Int × Trc) (fun s1 => (chk (List.length s1.1 < 4294967281) (za7 (Lib.cut s1.1 ([10] : List UInt8)) (fun x1 => (bif (!x1.2.2) then (some (Sum.inr (Sum.inl (s1.2.2.1, (Trc.mk s1.2.2.2.l (Ed.mk s1.2.2.2.e.k s1.2.2.2.e.c)))))) else (z1 (zli fuel x1.1) (fun x2 => (bif x2.2 then (bif (!(x1.2.1 == ([] : List UInt8))) then (chk (-9223372036854775808 ≤ (s1.2.2.1 + 1) ∧ (s1.2.2.1 + 1) < 9223372036854775808) (some (Sum.inr (Sum.inl ((s1.2.2.1 + 1), (Trc.mk s1.2.2.2.l (Ed.mk s1.2.2.2.e.k s1.2.2.2.e.c))))))) else (some (Sum.inr (Sum.inr ((Trc.mk s1.2.2.2.l (Ed.mk x2.1.k x2.1.c)), 0, 0))))) else (z1 (zio fuel x1.1) (fun x3 => (bif (!x3.2) then (some (Sum.inr (Sum.inl (s1.2.2.1, (Trc.mk s1.2.2.2.l (Ed.mk s1.2.2.2.e.k s1.2.2.2.e.c)))))) else (z1 (zku x3.1 s1.2.1) (fun x4 => (bif (!x4) then (some (Sum.inr (Sum.inl (s1.2.2.1, (Trc.mk s1.2.2.2.l (Ed.mk s1.2.2.2.e.k s1.2.2.2.e.c)))))) else (bif ((List.length s1.2.2.2.l : Int) == 65536) then (some (Sum.inr (Sum.inl (s1.2.2.1, (Trc.mk s1.2.2.2.l (Ed.mk s1.2.2.2.e.k s1.2.2.2.e.c)))))) else (chk ((List.length s1.2.2.2.l + List.length [x3.1]) * 40 ≤ 140737488355328) (chk (-9223372036854775808 ≤ (s1.2.2.1 + 1) ∧ (s1.2.2.1 + 1) < 9223372036854775808) (some (Sum.inl (x1.2.1, (max s1.2.1 x3.1.to), (s1.2.2.1 + 1), (Trc.mk (s1.2.2.2.l ++ [x3.1]) (Ed.mk s1.2.2.2.e.k s1.2.2.2.e.c)))))))))))))))))))))) fuel (t, 0, 1, (Trc.mk ([] : List En) (Ed.mk 0 0)))) (fun j1 => (some ((Trc.mk [] (Ed.mk 0 0)), j1.1, 332)))))
theorem ent7 : Ent Tryz.prog 7 := enters_of Tryz.func7 (by kernel_rfl) rfl
theorem read_sh (fuel : Nat) (t : (List UInt8)) (r : (Trc × Int × Int)) (h : zsl fuel t = some r) : Pure (ITP Tryz.prog) Tryz.prog 7 [.raw (.string (bs t))] (.tup [.A (r.1 : Trc), .raw (.int .i64 r.2.1), .raw (.int .i64 r.2.2)]) := by
 unfold zsl at h
 refine zah 72 mix Tryz.func7 ent7 ?_
 refine zj (zc ?_)
 refine zbr (a := .ptr 0 0) (σ'' := (.B [(27, [.list 0 [] .full, .u 0, .i 0])])) ?_
 refine w_r [.v (.i 0), .v (.i 0)] ?_
 refine w_scope ?_
 refine zj ?_
 refine zk [.m _] ?_
 refine w_o (a := .i (List.length t : Int)) (h := zv (zba rfl rfl rfl)) ?_
 refine w_o (a := .b (decide ((List.length t : Int) > 1048576))) ?_
 refine za3 h (fun hc1 h => ?_) (fun hc1 h => ?_)
 refine zj (zc ?_)
 refine zvh (.A ((Trc.mk [] (Ed.mk 0 0)) : Trc)) (a0 := (zqq (Trc.mk [] (Ed.mk 0 0)) .full)) rfl rfl rfl (by kernel_rfl) (zbf _ _) (by dsimp only [z6, List.set]) ?_
 refine zcg 3 (.B [(27, (Enc.cells ((Trc.mk [] (Ed.mk 0 0)) : Trc)))]) ?_
 refine w_r [.v (.i 0), .v (.i 3)] ?_
 exact zam (fun (r : (Trc × Int × Int)) => .tup [.A (r.1 : Trc), .i r.2.1, .i r.2.2]) h (.tup [.A ((Trc.mk [] (Ed.mk 0 0)) : Trc), .i 0, .i 3])
 refine zj (zc ?_)
 refine zbr (a := .ptr 1 0) (σ'' := (.B [(27, [.list 0 [] .full, .u 0, .i 0]), (27, [.F (([] : List En) : List En), .u 0, .i 0])])) ?_
 refine zk [.v (.i 0), .v (.i 1)] ?_
 refine zj ?_
 refine w_label ?_
 refine zaf h (bz 0 73 9444732965739290427387) (fun j1 => [(7, .i j1.1)]) (fun j1 => (z7 [(27, [.list 0 [] .full, .u 0, .i 0]), (27, [(.O (j1.2.l : List En)), .u j1.2.e.k, .i j1.2.e.c])] 41 (List.length (j1.2.l : List En)) 4)) ?_ ?_
 intro or1 h hr1
 refine zr ?_
 refine zap h (bz 0 73 9444732965739290427355) (fun s1 => [(0, .s s1.1), (6, .i s1.2.1), (7, .i s1.2.2.1)]) (fun s1 => (z7 [(27, [.list 0 [] .full, .u 0, .i 0]), (27, [(.O (s1.2.2.2.l : List En)), .u s1.2.2.2.e.k, .i s1.2.2.2.e.c])] 41 (List.length (s1.2.2.2.l : List En)) 4)) ?_ ?_
 exact zao (bl 73 229)
 intro s1 p1 h
 refine zbn ?_
 refine zr ?_
 refine zk [.m _] ?_
 obtain ⟨g1, h⟩ := zf h
 obtain ⟨x1, hx1, h⟩ := zo h
 refine zbc (args' := [.s s1.1, .s ([10] : List UInt8)]) (r := .tup [.s x1.1, .s x1.2.1, .b x1.2.2]) (by rw [← hx1]; exact (zmb s1.1 ([10] : List UInt8) g1)) ?_
 refine w_r [.m _, .x _, .x _, .x _, .m _] ?_
 refine w_r [.m _, .m _] ?_
 refine zj ?_
 refine zk [.m _, .v (.b (!x1.2.2))] ?_
 refine za3 h (fun hc2 h => ?_) (fun hc2 h => ?_)
 refine zh h (fun h => ?_)
 refine zg (o := or1) (s1.2.2.1, (Trc.mk s1.2.2.2.l (Ed.mk s1.2.2.2.e.k s1.2.2.2.e.c))) h ?_
 exact zao (bl 73 132)
 refine zj ?_
 refine zk [.m _] ?_
 obtain ⟨x2, hx2, h⟩ := zl h
 refine zbc (ends_sh fuel x1.1 x2 hx2) ?_
 refine w_r [.m _, .x _, .x _] ?_
 refine zbr (a := .ptr 2 0) (σ'' := (z7 [(27, [.list 0 [] .full, .u 0, .i 0]), (27, [(.O (s1.2.2.2.l : List En)), .u s1.2.2.2.e.k, .i s1.2.2.2.e.c]), (25, (Enc.cells ((Ed.mk 0 0) : Ed)))] 41 (List.length (s1.2.2.2.l : List En)) 4)) ?_
 refine zcg 2 (z7 [(27, [.list 0 [] .full, .u 0, .i 0]), (27, [(.O (s1.2.2.2.l : List En)), .u s1.2.2.2.e.k, .i s1.2.2.2.e.c]), (25, (Enc.cells (x2.1 : Ed)))] 41 (List.length (s1.2.2.2.l : List En)) 4) ?_
 refine zp ?_
 refine zk [.m _] ?_
 refine za3 h (fun hc3 h => ?_) (fun hc3 h => ?_)
 refine zj ?_
 refine zk [.m _] ?_
 refine w_o (a := .b (!(x1.2.1 == ([] : List UInt8)))) (h := zv (zij rfl rfl rfl)) ?_
 refine za3 h (fun hc4 h => ?_) (fun hc4 h => ?_)
 refine zk [.m _] ?_
 obtain ⟨g2, h⟩ := zf h
 refine zej g2 ?_
 refine zp ?_
 refine zh h (fun h => ?_)
 refine zg (o := or1) ((s1.2.2.1 + 1), (Trc.mk s1.2.2.2.l (Ed.mk s1.2.2.2.e.k s1.2.2.2.e.c))) h ?_
 exact zcq (bl 73 132) 2 (by kernel_rfl) (Nat.le_of_ble_eq_true rfl) (zco (za0 rfl (za0 (za (zb6 (Enc.cloL _)) (by kernel_rfl)) rfl))) (by dsimp only [zbb, zb5, List.foldl, List.set, bz, bzc, Nat.reduceMod, Nat.reduceDiv, Nat.reduceBEq, Nat.reduceAdd]; exact (za rfl (za rfl (za (by decide) (by kernel_rfl))))) (by kernel_rfl)
 refine zk [.v (.A (x2.1 : Ed)), .v (.ptr 1 1)] ?_
 refine zbr (σ'' := (z7 [(27, [.list 0 [] .full, .u 0, .i 0]), (27, [(.O (s1.2.2.2.l : List En)), .u x2.1.k, .i x2.1.c]), (25, (Enc.cells (x2.1 : Ed)))] 41 (List.length (s1.2.2.2.l : List En)) 4)) (h := zca (n := 2) rfl rfl rfl rfl rfl ⟨rfl, rfl, Nat.le_of_ble_eq_true rfl, by decide⟩) ?_
 refine zk [.v (.agg [(.O (s1.2.2.2.l : List En)), .u x2.1.k, .i x2.1.c])] ?_
 refine zcg 3 (z7 [(27, [(.O (s1.2.2.2.l : List En)), .u x2.1.k, .i x2.1.c]), (27, [(.O (s1.2.2.2.l : List En)), .u x2.1.k, .i x2.1.c]), (25, (Enc.cells (x2.1 : Ed)))] 41 (List.length (s1.2.2.2.l : List En)) 4) ?_
 refine w_r [.v (.i 0), .v (.i 0)] ?_
 refine zh h (fun h => ?_)
 replace h := zq h hr1
 exact zdt (fun (r : (Trc × Int × Int)) => (.tup [.A (r.1 : Trc), .i r.2.1, .i r.2.2] : AV)) h (a := .tup [.agg [(.O (s1.2.2.2.l : List En)), .u x2.1.k, .i x2.1.c], .i 0, .i 0]) rfl (show zx _ _ = true from (za (show zx _ _ = true from (za (zb6 (Enc.cloL _)) (by kernel_rfl))) (by kernel_rfl))) (show AV.tup (stripL _) = _ from congrArg AV.tup (zac (show AV.agg (stripL _) = _ from congrArg AV.agg (zac (zkk (Enc.cloL _) Enc.z) (zac rfl (zac rfl rfl)))) (zac rfl (zac rfl rfl))))
 refine zk [.m _] ?_
 obtain ⟨x3, hx3, h⟩ := zl h
 refine zbc (z0h fuel x1.1 x3 hx3) ?_
 refine w_r [.m _, .x _, .x _] ?_
 refine zbr (a := .ptr 3 0) (σ'' := (z7 [(27, [.list 0 [] .full, .u 0, .i 0]), (27, [(.O (s1.2.2.2.l : List En)), .u s1.2.2.2.e.k, .i s1.2.2.2.e.c]), (25, (Enc.cells (x2.1 : Ed))), (41, (Enc.cells ((En.mk 0 0 0 []) : En)))] 41 (List.length (s1.2.2.2.l : List En)) 4)) ?_
 refine zcg 4 (z7 [(27, [.list 0 [] .full, .u 0, .i 0]), (27, [(.O (s1.2.2.2.l : List En)), .u s1.2.2.2.e.k, .i s1.2.2.2.e.c]), (25, (Enc.cells (x2.1 : Ed))), (41, (Enc.cells (x3.1 : En)))] 41 (List.length (s1.2.2.2.l : List En)) 4) ?_
 refine zp ?_
 refine zj ?_
 refine zk [.m _, .v (.b (!x3.2))] ?_
 refine zaa h (fun hc5 h => ?_) (fun hc5 h => ?_)
 refine zar hc5 ?_
 refine w_r [.p, .p, .p, .p, .v (.b true)] ?_
 refine w_r [.m _, .p, .p, .p, .p] ?_
 refine w_r [.v (.b true)] ?_
 refine za6 rfl ?_
 refine zh h (fun h => ?_)
 refine zg (o := or1) (s1.2.2.1, (Trc.mk s1.2.2.2.l (Ed.mk s1.2.2.2.e.k s1.2.2.2.e.c))) h ?_
 exact zcq (bl 73 132) 2 (by kernel_rfl) (Nat.le_of_ble_eq_true rfl) (zco (za0 rfl (za0 (za (zb6 (Enc.cloL _)) (by kernel_rfl)) rfl))) (by dsimp only [zbb, zb5, List.foldl, List.set, bz, bzc, Nat.reduceMod, Nat.reduceDiv, Nat.reduceBEq, Nat.reduceAdd]; exact (za rfl (za rfl (za (by decide) (by kernel_rfl))))) (by kernel_rfl)
 refine zar hc5 ?_
 refine w_r [.v (.A (x3.1 : En)), .m _] ?_
 refine zai rfl rfl ?_
 obtain ⟨x4, hx4, h⟩ := zl h
 refine zbc (zu7 x3.1 s1.2.1 x4 hx4) ?_
 refine w_r [.v (.b (!x4)), .v (.b (!x4))] ?_
 refine zaa h (fun hc6 h => ?_) (fun hc6 h => ?_)
 refine zar hc6 ?_
 refine w_r [.p, .p, .p, .p, .v (.b true)] ?_
 refine za6 rfl ?_
 refine zh h (fun h => ?_)
 refine zg (o := or1) (s1.2.2.1, (Trc.mk s1.2.2.2.l (Ed.mk s1.2.2.2.e.k s1.2.2.2.e.c))) h ?_
 exact zcq (bl 73 132) 2 (by kernel_rfl) (Nat.le_of_ble_eq_true rfl) (zco (za0 rfl (za0 (za (zb6 (Enc.cloL _)) (by kernel_rfl)) rfl))) (by dsimp only [zbb, zb5, List.foldl, List.set, bz, bzc, Nat.reduceMod, Nat.reduceDiv, Nat.reduceBEq, Nat.reduceAdd]; exact (za rfl (za rfl (za (by decide) (by kernel_rfl))))) (by kernel_rfl)
 refine zar hc6 ?_
 refine w_r [.v (.ptr 1 0), .v (.O (s1.2.2.2.l : List En))] ?_
 refine zai rfl rfl ?_
 refine w_o (a := .i (List.length s1.2.2.2.l : Int)) (h := zv (z2l (α := En) (l := s1.2.2.2.l) rfl rfl rfl rfl rfl rfl)) ?_
 refine w_r [.v (.b ((List.length s1.2.2.2.l : Int) == 65536)), .v (.b ((List.length s1.2.2.2.l : Int) == 65536))] ?_
 refine za3 h (fun hc7 h => ?_) (fun hc7 h => ?_)
 refine zh h (fun h => ?_)
 refine zg (o := or1) (s1.2.2.1, (Trc.mk s1.2.2.2.l (Ed.mk s1.2.2.2.e.k s1.2.2.2.e.c))) h ?_
 exact zcq (bl 73 132) 2 (by kernel_rfl) (Nat.le_of_ble_eq_true rfl) (zco (za0 rfl (za0 (za (zb6 (Enc.cloL _)) (by kernel_rfl)) rfl))) (by dsimp only [zbb, zb5, List.foldl, List.set, bz, bzc, Nat.reduceMod, Nat.reduceDiv, Nat.reduceBEq, Nat.reduceAdd]; exact (za rfl (za rfl (za (by decide) (by kernel_rfl))))) (by kernel_rfl)
 refine zk [.v (.ptr 1 0), .v (.O (s1.2.2.2.l : List En)), .v (.A (x3.1 : En))] ?_
 refine w_o (a := .F ([x3.1] : List En)) (h := zv (zcs (α := En) (l := [x3.1]) (cs := Enc.cells (x3.1 : En) ++ []) rfl (by rw [Enc.cons, Enc.nil]))) ?_
 obtain ⟨g3, h⟩ := zf h
 refine zga (a := (.O ((s1.2.2.2.l ++ [x3.1]) : List En))) (σ'' := (z7 [(27, [.list 0 [] .full, .u 0, .i 0]), (27, [(.O (s1.2.2.2.l : List En)), .u s1.2.2.2.e.k, .i s1.2.2.2.e.c]), (25, (Enc.cells (x2.1 : Ed))), (41, (Enc.cells (x3.1 : En)))] 41 (List.length ((s1.2.2.2.l ++ [x3.1]) : List En)) 4)) rfl rfl rfl (zce rfl rfl rfl rfl (zbu (α := En) (bs := [(27, [.list 0 [] .full, .u 0, .i 0]), (27, [(.O (s1.2.2.2.l : List En)), .u s1.2.2.2.e.k, .i s1.2.2.2.e.c]), (25, (Enc.cells (x2.1 : Ed))), (41, (Enc.cells (x3.1 : En)))]) (a := s1.2.2.2.l) (b := [x3.1]) g3 rfl rfl rfl rfl rfl ⟨rfl, by decide⟩)) (by dsimp only [z6, List.set]) rfl ?_
 refine w_o (a := .ptr 1 0) ?_
 refine zbr (σ'' := (z7 [(27, [.list 0 [] .full, .u 0, .i 0]), (27, [(.O ((s1.2.2.2.l ++ [x3.1]) : List En)), .u s1.2.2.2.e.k, .i s1.2.2.2.e.c]), (25, (Enc.cells (x2.1 : Ed))), (41, (Enc.cells (x3.1 : En)))] 41 (List.length ((s1.2.2.2.l ++ [x3.1]) : List En)) 4)) (h := zn4 rfl rfl rfl rfl rfl (Nat.le_of_ble_eq_true rfl)) ?_
 refine zk [.m _, .v (.ptr 3 2), .v (.i x3.1.to)] ?_
 refine w_o (a := .i (max s1.2.1 x3.1.to)) (h := zv (q_max rfl rfl rfl rfl rfl)) ?_
 refine w_r [.m _, .m _, .m _] ?_
 refine zc (k0 := 0) (id := 17) ?_
 refine zp ?_
 obtain ⟨g4, h⟩ := zf h
 refine zej g4 ?_
 refine zp ?_
 refine zz (p := p1) (x1.2.1, (max s1.2.1 x3.1.to), (s1.2.2.1 + 1), (Trc.mk (s1.2.2.2.l ++ [x3.1]) (Ed.mk s1.2.2.2.e.k s1.2.2.2.e.c))) h ?_
 exact zcq (bl 73 229) 2 (by kernel_rfl) (Nat.le_of_ble_eq_true rfl) (zco (za0 rfl (za0 (za (zb6 (Enc.cloL _)) (by kernel_rfl)) rfl))) (by dsimp only [zbb, zb5, List.foldl, List.set, bz, bzc, Nat.reduceMod, Nat.reduceDiv, Nat.reduceBEq, Nat.reduceAdd]; exact (za rfl (za rfl (za (by decide) (za rfl (za rfl (za (by decide) (by kernel_rfl)))))))) (by kernel_rfl)
 intro j1 h
 refine zbn ?_
 refine zj (zc ?_)
 refine zvh (.A ((Trc.mk [] (Ed.mk 0 0)) : Trc)) (a0 := (zqq (Trc.mk [] (Ed.mk 0 0)) .full)) rfl rfl rfl (by kernel_rfl) (zbf _ _) (by dsimp only [z6, List.set]) ?_
 refine zp ?_
 refine zcg 3 (z7 [(27, (Enc.cells ((Trc.mk [] (Ed.mk 0 0)) : Trc))), (27, [(.O (j1.2.l : List En)), .u j1.2.e.k, .i j1.2.e.c])] 41 (List.length (j1.2.l : List En)) 4) ?_
 refine w_r [.m _, .v (.i 332)] ?_
 exact zam (fun (r : (Trc × Int × Int)) => .tup [.A (r.1 : Trc), .i r.2.1, .i r.2.2]) h (.tup [.A ((Trc.mk [] (Ed.mk 0 0)) : Trc), .i j1.1, .i 332])
end Go.Ab
