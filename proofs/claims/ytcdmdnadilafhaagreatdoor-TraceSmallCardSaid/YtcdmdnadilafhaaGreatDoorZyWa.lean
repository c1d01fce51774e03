/-
  trace: package quote, lines.
-/
import Derived.Test.YtcdmdnadilafhaaGreatDoorZyQc
import Derived.Test.YtcdmdnadilafhaaGreatDoorZdQr
set_option linter.unusedSimpArgs false
set_option linter.unusedVariables false
set_option maxRecDepth 100000
set_option maxHeartbeats 4000000
namespace Go.Ab
open Go Go.RowKit Go.Fwd Go.Proofs
def zi6 (fuel : Nat) (b : (List UInt8)) (m : QSet) : Option (List UInt8) :=
 (zcr (τ := (Bool × List UInt8)) (zbh (β := Int × (Bool × List UInt8)) (fun s1 => (bif (decide (s1.1 < (List.length b : Int))) then (chk (0 ≤ s1.1 ∧ s1.1 < (List.length b : Int)) (za7 (ix b s1.1) (fun x1 => (za7 (byteP x1) (fun x2 => (chk ((List.length s1.2.2 + List.length x2) * 1 ≤ 140737488355328) (chk (-9223372036854775808 ≤ (s1.1 + 1) ∧ (s1.1 + 1) < 9223372036854775808) (some (Sum.inl ((s1.1 + 1), (true, (s1.2.2 ++ x2)))))))))))) else (some (Sum.inr (Sum.inl ((s1.2.1, s1.2.2))))))) fuel (0, (false, ([] : List UInt8)))) (fun j1 => (some j1.2)))
theorem ent92 : Ent Tryz.prog 92 := enters_of Tryz.func92 (by kernel_rfl) rfl
theorem zyv (fuel : Nat) (b : (List UInt8)) (m : QSet) (r : (List UInt8)) (h : zi6 fuel b m = some r) : Pure (ITP Tryz.prog) Tryz.prog 92 [.raw (.string (bs b)), .A (m : QSet)] (.raw (.string (bs r))) := by
 unfold zi6 at h
 refine zah 18 mix Tryz.func92 ent92 ?_
 refine zj (zc ?_)
 refine zbr (a := .ptr 0 0) (σ'' := (.B [(125, (Enc.cells (m : QSet)))])) ?_
 refine w_o (a := .s ([] : List UInt8)) ?_
 refine zj (zc ?_)
 refine zmn (a := .ptr 1 0) (σ'' := (z7 [(125, (Enc.cells (m : QSet))), (87, (zjn 1 false ([] : List UInt8)))] 5 (List.length (([] : List UInt8) : List UInt8)) 1)) rfl rfl rfl rfl (by dsimp only [z6, List.set]) rfl ?_
 refine zaf h (bz 0 20 1048543) (fun j1 => []) (fun j1 => (z7 [(125, (Enc.cells (m : QSet))), (87, (zjn 1 j1.1 j1.2))] 5 (List.length (j1.2 : List UInt8)) 1)) ?_ ?_
 intro or1 h hr1
 refine zk [.m _] ?_
 refine w_o (a := .i (List.length b : Int)) (h := zv (zba rfl rfl rfl)) ?_
 refine w_o (a := .i 0) ?_
 refine zr ?_
 refine zap h (bz 0 20 1048278) (fun s1 => [(9, .i s1.1)]) (fun s1 => (z7 [(125, (Enc.cells (m : QSet))), (87, (zjn 1 s1.2.1 s1.2.2))] 5 (List.length (s1.2.2 : List UInt8)) 1)) ?_ ?_
 exact zao (bl 20 809)
 intro s1 p1 h
 refine zbn ?_
 refine zk [.v (.b (decide (s1.1 < (List.length b : Int))))] ?_
 refine zj ?_
 refine za3 h (fun hc1 h => ?_) (fun hc1 h => ?_)
 refine zj ?_
 refine zr ?_
 refine zk [.m _, .m _] ?_
 refine zb3 (k0 := 0) (id := 5) 4 (by kernel_rfl) (by kernel_rfl) ?_
 refine zbg ?_
 refine zbg ?_
 obtain ⟨g1, h⟩ := zf h
 obtain ⟨x1, hx1, h⟩ := zo h
 refine h_o (a := .u (((x1).toNat : Nat) : Int)) (h := by rw [← hx1]; exact (zbi (l := b) (n := s1.1) g1 rfl rfl rfl rfl)) ?_
 refine h_o (a := .A (m : QSet)) ?_
 refine zbq ?_
 obtain ⟨x2, hx2, h⟩ := zo h
 refine zbc (args' := [.u (((x1).toNat : Nat) : Int), .A (m : QSet)]) (r := .s x2) (by rw [← hx2]; exact (zw4 x1)) ?_
 obtain ⟨g2, h⟩ := zf h
 refine zlp (r := .tup [.i (List.length x2 : Int), .raw .nilIface]) (σ' := (z7 [(125, (Enc.cells (m : QSet))), (87, (zjn 1 true (s1.2.2 ++ x2)))] 5 (List.length ((s1.2.2 ++ x2) : List UInt8)) 1)) (zjm (u := s1.2.1) (l := s1.2.2) (b := x2) g2 rfl) rfl rfl ⟨rfl, rfl⟩ (by dsimp only [z6, List.set]) ?_
 refine zc (k0 := 0) (id := 6) ?_
 obtain ⟨g3, h⟩ := zf h
 refine zej g3 ?_
 refine zp ?_
 refine zz (p := p1) ((s1.1 + 1), (true, (s1.2.2 ++ x2))) h ?_
 exact zao (bl 20 809)
 refine zh h (fun h => ?_)
 refine zg (o := or1) ((s1.2.1, s1.2.2)) h ?_
 exact zao (bl 20 32)
 intro j1 h
 refine zbn ?_
 refine zj (zc ?_)
 refine zlp (r := .s j1.2) (σ' := (z7 [(125, (Enc.cells (m : QSet))), (87, (zjn 1 j1.1 j1.2))] 5 (List.length (j1.2 : List UInt8)) 1)) (zj3 (u := j1.1) (l := j1.2) rfl) rfl rfl ⟨rfl, rfl⟩ (by dsimp only [z6, List.set]) ?_
 refine zp ?_
 exact zd7 h
def zme (fuel : Nat) (b : (List UInt8)) : Option (List UInt8) :=
 (z1 (zi6 fuel b QSet.mk) (fun x1 => (chk (List.length ([34] : List UInt8) + List.length x1 ≤ 9223372036854775807) (chk (List.length (([34] : List UInt8) ++ x1) + List.length ([34] : List UInt8) ≤ 9223372036854775807) (some ((([34] : List UInt8) ++ x1) ++ ([34] : List UInt8)))))))
theorem ent74 : Ent Tryz.prog 74 := enters_of Tryz.func74 (by kernel_rfl) rfl
theorem z1l (fuel : Nat) (b : (List UInt8)) (r : (List UInt8)) (h : zme fuel b = some r) : Pure (ITP Tryz.prog) Tryz.prog 74 [.raw (.string (bs b))] (.raw (.string (bs r))) := by
 unfold zme at h
 refine zah 8 mix Tryz.func74 ent74 ?_
 refine zk [.v (.s ([] : List UInt8))] ?_
 refine zk [.m _] ?_
 refine w_o (a := .F (([34] : List UInt8) : List UInt8)) (h := zv (zcs (α := UInt8) (l := ([34] : List UInt8)) (cs := [.u 34]) rfl rfl)) ?_
 refine zbc (r := .A (QSet.mk : QSet)) zxi ?_
 obtain ⟨x1, hx1, h⟩ := zl h
 refine zbc (zyv fuel b QSet.mk x1 hx1) ?_
 obtain ⟨g1, h⟩ := zf h
 refine w_o (a := .s (([34] : List UInt8) ++ x1)) (h := zv (zad g1 rfl rfl rfl)) ?_
 obtain ⟨g2, h⟩ := zf h
 refine w_o (a := .s ((([34] : List UInt8) ++ x1) ++ ([34] : List UInt8))) (h := zv (zad g2 rfl rfl rfl)) ?_
 refine zp ?_
 exact zd7 h
def zcc (t : (List UInt8)) (m : QSet) : Option (Int × Int × Int) :=
 (zcr (τ := Unit) (bif (t == ([] : List UInt8)) then (some (Sum.inr (0, 0, 20))) else (chk (0 ≤ (0 : Int) ∧ (0 : Int) < (List.length t : Int)) (za7 (ix t (0 : Int)) (fun x1 => (bif ((((x1).toNat : Nat) : Int) != 92) then (chk (0 ≤ (0 : Int) ∧ (0 : Int) < (List.length t : Int)) (za7 (ix t (0 : Int)) (fun x2 => (bif (decide ((((x2).toNat : Nat) : Int) ≥ 32)) then (chk (0 ≤ (0 : Int) ∧ (0 : Int) < (List.length t : Int)) (za7 (ix t (0 : Int)) (fun x3 => (bif (decide ((((x3).toNat : Nat) : Int) ≤ 126)) then (chk (0 ≤ (0 : Int) ∧ (0 : Int) < (List.length t : Int)) (za7 (ix t (0 : Int)) (fun x4 => (za7 (zel x4) (fun x5 => (bif (!x5) then (chk (0 ≤ (0 : Int) ∧ (0 : Int) < (List.length t : Int)) (za7 (ix t (0 : Int)) (fun x6 => (some (Sum.inr ((((x6).toNat : Nat) : Int), 1, 0)))))) else (chk (0 ≤ (0 : Int) ∧ (0 : Int) < (List.length t : Int)) (za7 (ix t (0 : Int)) (fun x7 => (bif ((((x7).toNat : Nat) : Int) != 92) then (some (Sum.inr (0, 0, 20))) else (bif (decide ((List.length t : Int) < 2)) then (some (Sum.inr (0, 0, 20))) else (some (Sum.inl ()))))))))))))) else (chk (0 ≤ (0 : Int) ∧ (0 : Int) < (List.length t : Int)) (za7 (ix t (0 : Int)) (fun x8 => (bif ((((x8).toNat : Nat) : Int) != 92) then (some (Sum.inr (0, 0, 20))) else (bif (decide ((List.length t : Int) < 2)) then (some (Sum.inr (0, 0, 20))) else (some (Sum.inl ()))))))))))) else (chk (0 ≤ (0 : Int) ∧ (0 : Int) < (List.length t : Int)) (za7 (ix t (0 : Int)) (fun x9 => (bif ((((x9).toNat : Nat) : Int) != 92) then (some (Sum.inr (0, 0, 20))) else (bif (decide ((List.length t : Int) < 2)) then (some (Sum.inr (0, 0, 20))) else (some (Sum.inl ()))))))))))) else (chk (0 ≤ (0 : Int) ∧ (0 : Int) < (List.length t : Int)) (za7 (ix t (0 : Int)) (fun x10 => (bif ((((x10).toNat : Nat) : Int) != 92) then (some (Sum.inr (0, 0, 20))) else (bif (decide ((List.length t : Int) < 2)) then (some (Sum.inr (0, 0, 20))) else (some (Sum.inl ())))))))))))) (fun j1 => (chk (0 ≤ (1 : Int) ∧ (1 : Int) < (List.length t : Int)) (za7 (ix t (1 : Int)) (fun x11 => (za7 (Lib.indexByte ([110, 114, 116] : List UInt8) x11) (fun x12 => (zcr (τ := Unit) (bif ((((x11).toNat : Nat) : Int) == 120) then (bif (decide ((List.length t : Int) > 3)) then (chk (0 ≤ (2 : Int) ∧ (2 : Int) < (List.length t : Int)) (za7 (ix t (2 : Int)) (fun x13 => (za7 (zrf x13) (fun x14 => (bif (decide (x14 < 16)) then (chk (0 ≤ (3 : Int) ∧ (3 : Int) < (List.length t : Int)) (za7 (ix t (3 : Int)) (fun x15 => (za7 (zrf x15) (fun x16 => (bif (decide (x16 < 16)) then (chk (0 ≤ (2 : Int) ∧ (2 : Int) < (List.length t : Int)) (za7 (ix t (2 : Int)) (fun x17 => (za7 (zrf x17) (fun x18 => (chk (0 ≤ (3 : Int) ∧ (3 : Int) < (List.length t : Int)) (za7 (ix t (3 : Int)) (fun x19 => (za7 (zrf x19) (fun x20 => (some (Sum.inr ((IntKind.u8.wrap (orI .i64 (z1v .i64 x18 4) x20)), 4, 0))))))))))))) else (bif ((((x11).toNat : Nat) : Int) == 92) then (some (Sum.inr ((((x11).toNat : Nat) : Int), 2, 0))) else (za7 (zel x11) (fun x21 => (bif x21 then (some (Sum.inr ((((x11).toNat : Nat) : Int), 2, 0))) else (bif (decide (x12 ≥ 0)) then (chk (0 ≤ x12 ∧ x12 < (List.length ([10, 13, 9] : List UInt8) : Int)) (za7 (ix ([10, 13, 9] : List UInt8) x12) (fun x22 => (some (Sum.inr ((((x22).toNat : Nat) : Int), 2, 0)))))) else (some (Sum.inl ()))))))))))))) else (bif ((((x11).toNat : Nat) : Int) == 92) then (some (Sum.inr ((((x11).toNat : Nat) : Int), 2, 0))) else (za7 (zel x11) (fun x23 => (bif x23 then (some (Sum.inr ((((x11).toNat : Nat) : Int), 2, 0))) else (bif (decide (x12 ≥ 0)) then (chk (0 ≤ x12 ∧ x12 < (List.length ([10, 13, 9] : List UInt8) : Int)) (za7 (ix ([10, 13, 9] : List UInt8) x12) (fun x24 => (some (Sum.inr ((((x24).toNat : Nat) : Int), 2, 0)))))) else (some (Sum.inl ()))))))))))))) else (bif ((((x11).toNat : Nat) : Int) == 92) then (some (Sum.inr ((((x11).toNat : Nat) : Int), 2, 0))) else (za7 (zel x11) (fun x25 => (bif x25 then (some (Sum.inr ((((x11).toNat : Nat) : Int), 2, 0))) else (bif (decide (x12 ≥ 0)) then (chk (0 ≤ x12 ∧ x12 < (List.length ([10, 13, 9] : List UInt8) : Int)) (za7 (ix ([10, 13, 9] : List UInt8) x12) (fun x26 => (some (Sum.inr ((((x26).toNat : Nat) : Int), 2, 0)))))) else (some (Sum.inl ())))))))) else (bif ((((x11).toNat : Nat) : Int) == 92) then (some (Sum.inr ((((x11).toNat : Nat) : Int), 2, 0))) else (za7 (zel x11) (fun x27 => (bif x27 then (some (Sum.inr ((((x11).toNat : Nat) : Int), 2, 0))) else (bif (decide (x12 ≥ 0)) then (chk (0 ≤ x12 ∧ x12 < (List.length ([10, 13, 9] : List UInt8) : Int)) (za7 (ix ([10, 13, 9] : List UInt8) x12) (fun x28 => (some (Sum.inr ((((x28).toNat : Nat) : Int), 2, 0)))))) else (some (Sum.inl ())))))))) (fun j2 => (some (0, 0, 20)))))))))))
theorem ent75 : Ent Tryz.prog 75 := enters_of Tryz.func75 (by kernel_rfl) rfl
theorem ztn (t : (List UInt8)) (m : QSet) (r : (Int × Int × Int)) (h : zcc t m = some r) : Pure (ITP Tryz.prog) Tryz.prog 75 [.raw (.string (bs t)), .A (m : QSet)] (.tup [.raw (.int .u8 r.1), .raw (.int .i64 r.2.1), .raw (.int .i64 r.2.2)]) := by
 unfold zcc at h
 refine zah 89 mix Tryz.func75 ent75 ?_
 refine zj (zc ?_)
 refine zbr (a := .ptr 0 0) (σ'' := (.B [(125, (Enc.cells (m : QSet)))])) ?_
 refine w_r [.v (.u 0), .v (.i 0), .v (.i 0)] ?_
 refine zaf h (bz 0 91 2475880078570760549798248438) (fun j1 => []) (fun j1 => (.B [(125, (Enc.cells (m : QSet)))])) ?_ ?_
 intro or1 h hr1
 refine zr ?_
 refine zk [.m _] ?_
 refine w_o (a := .b (t == ([] : List UInt8))) (h := zv (zb7 rfl rfl rfl)) ?_
 refine zp ?_
 refine za3 h (fun hc1 h => ?_) (fun hc1 h => ?_)
 refine zk [.v (.u 0), .v (.i 0), .v (.i 20)] ?_
 replace h := zq h hr1
 exact zam (fun (r : (Int × Int × Int)) => .tup [.u r.1, .i r.2.1, .i r.2.2]) h (.tup [.u 0, .i 0, .i 20])
 refine zj ?_
 refine zb3 (k0 := 0) (id := 3) 17 (by kernel_rfl) (by kernel_rfl) ?_
 refine zbg ?_
 obtain ⟨g1, h⟩ := zf h
 obtain ⟨x1, hx1, h⟩ := zo h
 refine h_o (a := .u (((x1).toNat : Nat) : Int)) (h := by rw [← hx1]; exact (zbi (l := t) (n := (0 : Int)) g1 rfl rfl rfl rfl)) ?_
 refine h_o (a := .b ((((x1).toNat : Nat) : Int) != 92)) ?_
 refine zaa h (fun hc2 h => ?_) (fun hc2 h => ?_)
 refine h_o (a := .b true) (h := zae rfl hc2) ?_
 refine zag rfl rfl ?_
 refine zbg ?_
 refine zag rfl rfl ?_
 obtain ⟨g2, h⟩ := zf h
 obtain ⟨x2, hx2, h⟩ := zo h
 refine h_o (a := .u (((x2).toNat : Nat) : Int)) (h := by rw [← hx2]; exact (zbi (l := t) (n := (0 : Int)) g2 rfl rfl rfl rfl)) ?_
 refine zag rfl rfl ?_
 refine h_o (a := .b (decide ((((x2).toNat : Nat) : Int) ≥ 32))) ?_
 refine h_o (a := .b (decide ((((x2).toNat : Nat) : Int) ≥ 32))) ?_
 refine zaa h (fun hc3 h => ?_) (fun hc3 h => ?_)
 refine h_o (a := .b true) (h := zae rfl hc3) ?_
 refine zag rfl rfl ?_
 refine zbg ?_
 refine zag rfl rfl ?_
 obtain ⟨g3, h⟩ := zf h
 obtain ⟨x3, hx3, h⟩ := zo h
 refine h_o (a := .u (((x3).toNat : Nat) : Int)) (h := by rw [← hx3]; exact (zbi (l := t) (n := (0 : Int)) g3 rfl rfl rfl rfl)) ?_
 refine zag rfl rfl ?_
 refine h_o (a := .b (decide ((((x3).toNat : Nat) : Int) ≤ 126))) ?_
 refine h_o (a := .b (decide ((((x3).toNat : Nat) : Int) ≤ 126))) ?_
 refine zaa h (fun hc4 h => ?_) (fun hc4 h => ?_)
 refine h_o (a := .b true) (h := zae rfl hc4) ?_
 refine zag rfl rfl ?_
 refine h_o (a := .A (m : QSet)) ?_
 refine zag rfl rfl ?_
 refine zbg ?_
 refine zag rfl rfl ?_
 obtain ⟨g4, h⟩ := zf h
 obtain ⟨x4, hx4, h⟩ := zo h
 refine h_o (a := .u (((x4).toNat : Nat) : Int)) (h := by rw [← hx4]; exact (zbi (l := t) (n := (0 : Int)) g4 rfl rfl rfl rfl)) ?_
 refine zbq ?_
 refine zai rfl rfl ?_
 obtain ⟨x5, hx5, h⟩ := zo h
 refine zbc (args' := [.A (m : QSet), .u (((x4).toNat : Nat) : Int)]) (r := .b x5) (by rw [← hx5]; exact (zgz x4)) ?_
 refine w_r [.v (.b (!x5)), .v (.b (!x5)), .m _] ?_
 refine za3 h (fun hc5 h => ?_) (fun hc5 h => ?_)
 refine zk [.m _] ?_
 obtain ⟨g5, h⟩ := zf h
 obtain ⟨x6, hx6, h⟩ := zo h
 refine w_o (a := .u (((x6).toNat : Nat) : Int)) (h := zv (by rw [← hx6]; exact (zbi (l := t) (n := (0 : Int)) g5 rfl rfl rfl rfl))) ?_
 refine w_r [.m _, .v (.i 1), .v (.i 0)] ?_
 replace h := zq h hr1
 exact zam (fun (r : (Int × Int × Int)) => .tup [.u r.1, .i r.2.1, .i r.2.2]) h (.tup [.u (((x6).toNat : Nat) : Int), .i 1, .i 0])
 refine zk [.m _] ?_
 obtain ⟨g6, h⟩ := zf h
 obtain ⟨x7, hx7, h⟩ := zo h
 refine w_o (a := .u (((x7).toNat : Nat) : Int)) (h := zv (by rw [← hx7]; exact (zbi (l := t) (n := (0 : Int)) g6 rfl rfl rfl rfl))) ?_
 refine w_o (a := .b ((((x7).toNat : Nat) : Int) != 92)) ?_
 refine zaa h (fun hc6 h => ?_) (fun hc6 h => ?_)
 refine zar hc6 ?_
 refine w_r [.p, .p, .p, .v (.b true), .m _] ?_
 refine za6 rfl ?_
 refine zk [.v (.u 0), .v (.i 0), .v (.i 20)] ?_
 replace h := zq h hr1
 exact zam (fun (r : (Int × Int × Int)) => .tup [.u r.1, .i r.2.1, .i r.2.2]) h (.tup [.u 0, .i 0, .i 20])
 refine zar hc6 ?_
 refine zai rfl rfl ?_
 refine zp ?_
 refine zai rfl rfl ?_
 refine w_o (a := .i (List.length t : Int)) (h := zv (zba rfl rfl rfl)) ?_
 refine w_r [.v (.b (decide ((List.length t : Int) < 2))), .v (.b (decide ((List.length t : Int) < 2))), .m _] ?_
 refine za3 h (fun hc7 h => ?_) (fun hc7 h => ?_)
 refine zk [.v (.u 0), .v (.i 0), .v (.i 20)] ?_
 replace h := zq h hr1
 exact zam (fun (r : (Int × Int × Int)) => .tup [.u r.1, .i r.2.1, .i r.2.2]) h (.tup [.u 0, .i 0, .i 20])
 refine zg (o := or1) () h ?_
 exact zao (bl 91 9)
 refine h_o (a := .b false) (h := zae rfl hc4) ?_
 refine z8 ?_
 refine z8 ?_
 refine z8 ?_
 refine zbq ?_
 refine w_r [.p, .p, .v (.b false), .m _] ?_
 refine zbv rfl ?_
 refine zk [.m _] ?_
 obtain ⟨g7, h⟩ := zf h
 obtain ⟨x8, hx8, h⟩ := zo h
 refine w_o (a := .u (((x8).toNat : Nat) : Int)) (h := zv (by rw [← hx8]; exact (zbi (l := t) (n := (0 : Int)) g7 rfl rfl rfl rfl))) ?_
 refine w_o (a := .b ((((x8).toNat : Nat) : Int) != 92)) ?_
 refine zaa h (fun hc8 h => ?_) (fun hc8 h => ?_)
 refine zar hc8 ?_
 refine w_r [.p, .p, .p, .v (.b true), .m _] ?_
 refine za6 rfl ?_
 refine zk [.v (.u 0), .v (.i 0), .v (.i 20)] ?_
 replace h := zq h hr1
 exact zam (fun (r : (Int × Int × Int)) => .tup [.u r.1, .i r.2.1, .i r.2.2]) h (.tup [.u 0, .i 0, .i 20])
 refine zar hc8 ?_
 refine zai rfl rfl ?_
 refine zp ?_
 refine zai rfl rfl ?_
 refine w_o (a := .i (List.length t : Int)) (h := zv (zba rfl rfl rfl)) ?_
 refine w_r [.v (.b (decide ((List.length t : Int) < 2))), .v (.b (decide ((List.length t : Int) < 2))), .m _] ?_
 refine za3 h (fun hc9 h => ?_) (fun hc9 h => ?_)
 refine zk [.v (.u 0), .v (.i 0), .v (.i 20)] ?_
 replace h := zq h hr1
 exact zam (fun (r : (Int × Int × Int)) => .tup [.u r.1, .i r.2.1, .i r.2.2]) h (.tup [.u 0, .i 0, .i 20])
 refine zg (o := or1) () h ?_
 exact zao (bl 91 9)
 refine h_o (a := .b false) (h := zae rfl hc3) ?_
 refine z8 ?_
 refine z8 ?_
 refine z8 ?_
 refine h_o (a := .b false) ?_
 refine zbg ?_
 refine z8 ?_
 refine z8 ?_
 refine z8 ?_
 refine zbq ?_
 refine w_r [.p, .p, .v (.b false), .m _] ?_
 refine zbv rfl ?_
 refine zk [.m _] ?_
 obtain ⟨g8, h⟩ := zf h
 obtain ⟨x9, hx9, h⟩ := zo h
 refine w_o (a := .u (((x9).toNat : Nat) : Int)) (h := zv (by rw [← hx9]; exact (zbi (l := t) (n := (0 : Int)) g8 rfl rfl rfl rfl))) ?_
 refine w_o (a := .b ((((x9).toNat : Nat) : Int) != 92)) ?_
 refine zaa h (fun hc10 h => ?_) (fun hc10 h => ?_)
 refine zar hc10 ?_
 refine w_r [.p, .p, .p, .v (.b true), .m _] ?_
 refine za6 rfl ?_
 refine zk [.v (.u 0), .v (.i 0), .v (.i 20)] ?_
 replace h := zq h hr1
 exact zam (fun (r : (Int × Int × Int)) => .tup [.u r.1, .i r.2.1, .i r.2.2]) h (.tup [.u 0, .i 0, .i 20])
 refine zar hc10 ?_
 refine zai rfl rfl ?_
 refine zp ?_
 refine zai rfl rfl ?_
 refine w_o (a := .i (List.length t : Int)) (h := zv (zba rfl rfl rfl)) ?_
 refine w_r [.v (.b (decide ((List.length t : Int) < 2))), .v (.b (decide ((List.length t : Int) < 2))), .m _] ?_
 refine za3 h (fun hc11 h => ?_) (fun hc11 h => ?_)
 refine zk [.v (.u 0), .v (.i 0), .v (.i 20)] ?_
 replace h := zq h hr1
 exact zam (fun (r : (Int × Int × Int)) => .tup [.u r.1, .i r.2.1, .i r.2.2]) h (.tup [.u 0, .i 0, .i 20])
 refine zg (o := or1) () h ?_
 exact zao (bl 91 9)
 refine h_o (a := .b false) (h := zae rfl hc2) ?_
 refine z8 ?_
 refine z8 ?_
 refine z8 ?_
 refine h_o (a := .b false) ?_
 refine zbg ?_
 refine z8 ?_
 refine z8 ?_
 refine z8 ?_
 refine h_o (a := .b false) ?_
 refine zbg ?_
 refine z8 ?_
 refine z8 ?_
 refine z8 ?_
 refine zbq ?_
 refine w_r [.p, .p, .v (.b false), .m _] ?_
 refine zbv rfl ?_
 refine zk [.m _] ?_
 obtain ⟨g9, h⟩ := zf h
 obtain ⟨x10, hx10, h⟩ := zo h
 refine w_o (a := .u (((x10).toNat : Nat) : Int)) (h := zv (by rw [← hx10]; exact (zbi (l := t) (n := (0 : Int)) g9 rfl rfl rfl rfl))) ?_
 refine w_o (a := .b ((((x10).toNat : Nat) : Int) != 92)) ?_
 refine zaa h (fun hc12 h => ?_) (fun hc12 h => ?_)
 refine zar hc12 ?_
 refine w_r [.p, .p, .p, .v (.b true), .m _] ?_
 refine za6 rfl ?_
 refine zk [.v (.u 0), .v (.i 0), .v (.i 20)] ?_
 replace h := zq h hr1
 exact zam (fun (r : (Int × Int × Int)) => .tup [.u r.1, .i r.2.1, .i r.2.2]) h (.tup [.u 0, .i 0, .i 20])
 refine zar hc12 ?_
 refine zai rfl rfl ?_
 refine zp ?_
 refine zai rfl rfl ?_
 refine w_o (a := .i (List.length t : Int)) (h := zv (zba rfl rfl rfl)) ?_
 refine w_r [.v (.b (decide ((List.length t : Int) < 2))), .v (.b (decide ((List.length t : Int) < 2))), .m _] ?_
 refine za3 h (fun hc13 h => ?_) (fun hc13 h => ?_)
 refine zk [.v (.u 0), .v (.i 0), .v (.i 20)] ?_
 replace h := zq h hr1
 exact zam (fun (r : (Int × Int × Int)) => .tup [.u r.1, .i r.2.1, .i r.2.2]) h (.tup [.u 0, .i 0, .i 20])
 refine zg (o := or1) () h ?_
 exact zao (bl 91 9)
 intro j1 h
 refine zbn ?_
 refine zk [.m _] ?_
 obtain ⟨g10, h⟩ := zf h
 obtain ⟨x11, hx11, h⟩ := zo h
 refine w_o (a := .u (((x11).toNat : Nat) : Int)) (h := zv (by rw [← hx11]; exact (zbi (l := t) (n := (1 : Int)) g10 rfl rfl rfl rfl))) ?_
 refine zp ?_
 refine zk [.m _] ?_
 obtain ⟨x12, hx12, h⟩ := zo h
 refine zbc (args' := [.s ([110, 114, 116] : List UInt8), .u (((x11).toNat : Nat) : Int)]) (r := .i x12) (by rw [← hx12]; exact (z1g ([110, 114, 116] : List UInt8) x11)) ?_
 refine zp ?_
 refine zaf h (bz 0 91 2475880078570742957612204537) (fun j2 => []) (fun j2 => (.B [(125, (Enc.cells (m : QSet)))])) ?_ ?_
 intro or2 h hr2
 refine zr ?_
 refine zk [.m _, .v (.b ((((x11).toNat : Nat) : Int) == 120))] ?_
 refine zaa h (fun hc14 h => ?_) (fun hc14 h => ?_)
 refine zar hc14 ?_
 refine zai rfl rfl ?_
 refine zp ?_
 refine zai rfl rfl ?_
 refine w_o (a := .i (List.length t : Int)) (h := zv (zba rfl rfl rfl)) ?_
 refine w_r [.v (.b (decide ((List.length t : Int) > 3))), .v (.b (decide ((List.length t : Int) > 3)))] ?_
 refine zaa h (fun hc15 h => ?_) (fun hc15 h => ?_)
 refine zar hc15 ?_
 refine zai rfl rfl ?_
 refine zp ?_
 refine zai rfl rfl ?_
 obtain ⟨g11, h⟩ := zf h
 obtain ⟨x13, hx13, h⟩ := zo h
 refine w_o (a := .u (((x13).toNat : Nat) : Int)) (h := zv (by rw [← hx13]; exact (zbi (l := t) (n := (2 : Int)) g11 rfl rfl rfl rfl))) ?_
 refine zai rfl rfl ?_
 obtain ⟨x14, hx14, h⟩ := zo h
 refine zbc (args' := [.u (((x13).toNat : Nat) : Int)]) (r := .i x14) (by rw [← hx14]; exact (zl4 x13)) ?_
 refine w_r [.v (.b (decide (x14 < 16))), .v (.b (decide (x14 < 16)))] ?_
 refine zaa h (fun hc16 h => ?_) (fun hc16 h => ?_)
 refine zar hc16 ?_
 refine zai rfl rfl ?_
 refine zp ?_
 refine zai rfl rfl ?_
 obtain ⟨g12, h⟩ := zf h
 obtain ⟨x15, hx15, h⟩ := zo h
 refine w_o (a := .u (((x15).toNat : Nat) : Int)) (h := zv (by rw [← hx15]; exact (zbi (l := t) (n := (3 : Int)) g12 rfl rfl rfl rfl))) ?_
 refine zai rfl rfl ?_
 obtain ⟨x16, hx16, h⟩ := zo h
 refine zbc (args' := [.u (((x15).toNat : Nat) : Int)]) (r := .i x16) (by rw [← hx16]; exact (zl4 x15)) ?_
 refine w_r [.v (.b (decide (x16 < 16))), .v (.b (decide (x16 < 16))), .m _] ?_
 refine za3 h (fun hc17 h => ?_) (fun hc17 h => ?_)
 refine zj ?_
 refine zb3 (k0 := 0) (id := 10) 7 (by kernel_rfl) (by kernel_rfl) ?_
 refine zbg ?_
 obtain ⟨g13, h⟩ := zf h
 obtain ⟨x17, hx17, h⟩ := zo h
 refine h_o (a := .u (((x17).toNat : Nat) : Int)) (h := by rw [← hx17]; exact (zbi (l := t) (n := (2 : Int)) g13 rfl rfl rfl rfl)) ?_
 obtain ⟨x18, hx18, h⟩ := zo h
 refine zgr (args' := [.u (((x17).toNat : Nat) : Int)]) (r := .i x18) (by rw [← hx18]; exact (zl4 x17)) ?_
 refine h_o (a := .i (z1v .i64 x18 4)) (h := q_shl (by decide) rfl rfl rfl) ?_
 refine zbg ?_
 obtain ⟨g14, h⟩ := zf h
 obtain ⟨x19, hx19, h⟩ := zo h
 refine h_o (a := .u (((x19).toNat : Nat) : Int)) (h := by rw [← hx19]; exact (zbi (l := t) (n := (3 : Int)) g14 rfl rfl rfl rfl)) ?_
 obtain ⟨x20, hx20, h⟩ := zo h
 refine zgr (args' := [.u (((x19).toNat : Nat) : Int)]) (r := .i x20) (by rw [← hx20]; exact (zl4 x19)) ?_
 refine zbq ?_
 refine w_r [.v (.i (orI .i64 (z1v .i64 x18 4) x20)), .v (.u (IntKind.u8.wrap (orI .i64 (z1v .i64 x18 4) x20))), .m _, .v (.i 4), .v (.i 0)] ?_
 replace h := zq h hr2
 exact zam (fun (r : (Int × Int × Int)) => .tup [.u r.1, .i r.2.1, .i r.2.2]) h (.tup [.u (IntKind.u8.wrap (orI .i64 (z1v .i64 x18 4) x20)), .i 4, .i 0])
 refine zk [.m _, .v (.b ((((x11).toNat : Nat) : Int) == 92))] ?_
 refine zaa h (fun hc18 h => ?_) (fun hc18 h => ?_)
 refine zar hc18 ?_
 refine w_r [.p, .p, .p, .v (.b true), .m _] ?_
 refine za6 rfl ?_
 refine zk [.m _, .m _, .v (.i 2), .v (.i 0)] ?_
 replace h := zq h hr2
 exact zam (fun (r : (Int × Int × Int)) => .tup [.u r.1, .i r.2.1, .i r.2.2]) h (.tup [.u (((x11).toNat : Nat) : Int), .i 2, .i 0])
 refine zar hc18 ?_
 refine w_r [.v (.A (m : QSet)), .m _] ?_
 refine zai rfl rfl ?_
 obtain ⟨x21, hx21, h⟩ := zo h
 refine zbc (args' := [.A (m : QSet), .u (((x11).toNat : Nat) : Int)]) (r := .b x21) (by rw [← hx21]; exact (zgz x11)) ?_
 refine w_r [.v (.b x21), .m _] ?_
 refine za3 h (fun hc19 h => ?_) (fun hc19 h => ?_)
 refine zk [.m _, .m _, .v (.i 2), .v (.i 0)] ?_
 replace h := zq h hr2
 exact zam (fun (r : (Int × Int × Int)) => .tup [.u r.1, .i r.2.1, .i r.2.2]) h (.tup [.u (((x11).toNat : Nat) : Int), .i 2, .i 0])
 refine zk [.m _, .v (.b (decide (x12 ≥ 0))), .m _] ?_
 refine za3 h (fun hc20 h => ?_) (fun hc20 h => ?_)
 refine zk [.m _] ?_
 obtain ⟨g15, h⟩ := zf h
 obtain ⟨x22, hx22, h⟩ := zo h
 refine w_o (a := .u (((x22).toNat : Nat) : Int)) (h := zv (by rw [← hx22]; exact (zbi (l := ([10, 13, 9] : List UInt8)) (n := x12) g15 rfl rfl rfl rfl))) ?_
 refine w_r [.m _, .v (.i 2), .v (.i 0)] ?_
 replace h := zq h hr2
 exact zam (fun (r : (Int × Int × Int)) => .tup [.u r.1, .i r.2.1, .i r.2.2]) h (.tup [.u (((x22).toNat : Nat) : Int), .i 2, .i 0])
 refine zg (o := or2) () h ?_
 exact zao (bl 91 17592186043910)
 refine zar hc16 ?_
 refine w_r [.p, .p, .p, .p, .v (.b false)] ?_
 refine w_r [.m _] ?_
 refine zbv rfl ?_
 refine zk [.m _, .v (.b ((((x11).toNat : Nat) : Int) == 92))] ?_
 refine zaa h (fun hc21 h => ?_) (fun hc21 h => ?_)
 refine zar hc21 ?_
 refine w_r [.p, .p, .p, .v (.b true), .m _] ?_
 refine za6 rfl ?_
 refine zk [.m _, .m _, .v (.i 2), .v (.i 0)] ?_
 replace h := zq h hr2
 exact zam (fun (r : (Int × Int × Int)) => .tup [.u r.1, .i r.2.1, .i r.2.2]) h (.tup [.u (((x11).toNat : Nat) : Int), .i 2, .i 0])
 refine zar hc21 ?_
 refine w_r [.v (.A (m : QSet)), .m _] ?_
 refine zai rfl rfl ?_
 obtain ⟨x23, hx23, h⟩ := zo h
 refine zbc (args' := [.A (m : QSet), .u (((x11).toNat : Nat) : Int)]) (r := .b x23) (by rw [← hx23]; exact (zgz x11)) ?_
 refine w_r [.v (.b x23), .m _] ?_
 refine za3 h (fun hc22 h => ?_) (fun hc22 h => ?_)
 refine zk [.m _, .m _, .v (.i 2), .v (.i 0)] ?_
 replace h := zq h hr2
 exact zam (fun (r : (Int × Int × Int)) => .tup [.u r.1, .i r.2.1, .i r.2.2]) h (.tup [.u (((x11).toNat : Nat) : Int), .i 2, .i 0])
 refine zk [.m _, .v (.b (decide (x12 ≥ 0))), .m _] ?_
 refine za3 h (fun hc23 h => ?_) (fun hc23 h => ?_)
 refine zk [.m _] ?_
 obtain ⟨g16, h⟩ := zf h
 obtain ⟨x24, hx24, h⟩ := zo h
 refine w_o (a := .u (((x24).toNat : Nat) : Int)) (h := zv (by rw [← hx24]; exact (zbi (l := ([10, 13, 9] : List UInt8)) (n := x12) g16 rfl rfl rfl rfl))) ?_
 refine w_r [.m _, .v (.i 2), .v (.i 0)] ?_
 replace h := zq h hr2
 exact zam (fun (r : (Int × Int × Int)) => .tup [.u r.1, .i r.2.1, .i r.2.2]) h (.tup [.u (((x24).toNat : Nat) : Int), .i 2, .i 0])
 refine zg (o := or2) () h ?_
 exact zao (bl 91 17592186043910)
 refine zar hc15 ?_
 refine w_r [.p, .p, .p, .p, .v (.b false)] ?_
 refine w_r [.m _, .p, .p, .p, .p] ?_
 refine w_r [.v (.b false), .m _] ?_
 refine zbv rfl ?_
 refine zk [.m _, .v (.b ((((x11).toNat : Nat) : Int) == 92))] ?_
 refine zaa h (fun hc24 h => ?_) (fun hc24 h => ?_)
 refine zar hc24 ?_
 refine w_r [.p, .p, .p, .v (.b true), .m _] ?_
 refine za6 rfl ?_
 refine zk [.m _, .m _, .v (.i 2), .v (.i 0)] ?_
 replace h := zq h hr2
 exact zam (fun (r : (Int × Int × Int)) => .tup [.u r.1, .i r.2.1, .i r.2.2]) h (.tup [.u (((x11).toNat : Nat) : Int), .i 2, .i 0])
 refine zar hc24 ?_
 refine w_r [.v (.A (m : QSet)), .m _] ?_
 refine zai rfl rfl ?_
 obtain ⟨x25, hx25, h⟩ := zo h
 refine zbc (args' := [.A (m : QSet), .u (((x11).toNat : Nat) : Int)]) (r := .b x25) (by rw [← hx25]; exact (zgz x11)) ?_
 refine w_r [.v (.b x25), .m _] ?_
 refine za3 h (fun hc25 h => ?_) (fun hc25 h => ?_)
 refine zk [.m _, .m _, .v (.i 2), .v (.i 0)] ?_
 replace h := zq h hr2
 exact zam (fun (r : (Int × Int × Int)) => .tup [.u r.1, .i r.2.1, .i r.2.2]) h (.tup [.u (((x11).toNat : Nat) : Int), .i 2, .i 0])
 refine zk [.m _, .v (.b (decide (x12 ≥ 0))), .m _] ?_
 refine za3 h (fun hc26 h => ?_) (fun hc26 h => ?_)
 refine zk [.m _] ?_
 obtain ⟨g17, h⟩ := zf h
 obtain ⟨x26, hx26, h⟩ := zo h
 refine w_o (a := .u (((x26).toNat : Nat) : Int)) (h := zv (by rw [← hx26]; exact (zbi (l := ([10, 13, 9] : List UInt8)) (n := x12) g17 rfl rfl rfl rfl))) ?_
 refine w_r [.m _, .v (.i 2), .v (.i 0)] ?_
 replace h := zq h hr2
 exact zam (fun (r : (Int × Int × Int)) => .tup [.u r.1, .i r.2.1, .i r.2.2]) h (.tup [.u (((x26).toNat : Nat) : Int), .i 2, .i 0])
 refine zg (o := or2) () h ?_
 exact zao (bl 91 17592186043910)
 refine zar hc14 ?_
 refine w_r [.p, .p, .p, .v (.b false), .m _] ?_
 refine w_r [.p, .p, .p, .p, .v (.b false)] ?_
 refine w_r [.m _, .p, .p, .p, .p] ?_
 refine w_r [.v (.b false), .m _] ?_
 refine zbv rfl ?_
 refine zk [.m _, .v (.b ((((x11).toNat : Nat) : Int) == 92))] ?_
 refine zaa h (fun hc27 h => ?_) (fun hc27 h => ?_)
 refine zar hc27 ?_
 refine w_r [.p, .p, .p, .v (.b true), .m _] ?_
 refine za6 rfl ?_
 refine zk [.m _, .m _, .v (.i 2), .v (.i 0)] ?_
 replace h := zq h hr2
 exact zam (fun (r : (Int × Int × Int)) => .tup [.u r.1, .i r.2.1, .i r.2.2]) h (.tup [.u (((x11).toNat : Nat) : Int), .i 2, .i 0])
 refine zar hc27 ?_
 refine w_r [.v (.A (m : QSet)), .m _] ?_
 refine zai rfl rfl ?_
 obtain ⟨x27, hx27, h⟩ := zo h
 refine zbc (args' := [.A (m : QSet), .u (((x11).toNat : Nat) : Int)]) (r := .b x27) (by rw [← hx27]; exact (zgz x11)) ?_
 refine w_r [.v (.b x27), .m _] ?_
 refine za3 h (fun hc28 h => ?_) (fun hc28 h => ?_)
 refine zk [.m _, .m _, .v (.i 2), .v (.i 0)] ?_
 replace h := zq h hr2
 exact zam (fun (r : (Int × Int × Int)) => .tup [.u r.1, .i r.2.1, .i r.2.2]) h (.tup [.u (((x11).toNat : Nat) : Int), .i 2, .i 0])
 refine zk [.m _, .v (.b (decide (x12 ≥ 0))), .m _] ?_
 refine za3 h (fun hc29 h => ?_) (fun hc29 h => ?_)
 refine zk [.m _] ?_
 obtain ⟨g18, h⟩ := zf h
 obtain ⟨x28, hx28, h⟩ := zo h
 refine w_o (a := .u (((x28).toNat : Nat) : Int)) (h := zv (by rw [← hx28]; exact (zbi (l := ([10, 13, 9] : List UInt8)) (n := x12) g18 rfl rfl rfl rfl))) ?_
 refine w_r [.m _, .v (.i 2), .v (.i 0)] ?_
 replace h := zq h hr2
 exact zam (fun (r : (Int × Int × Int)) => .tup [.u r.1, .i r.2.1, .i r.2.2]) h (.tup [.u (((x28).toNat : Nat) : Int), .i 2, .i 0])
 refine zg (o := or2) () h ?_
 exact zao (bl 91 17592186043910)
 intro j2 h
 refine zbn ?_
 refine zk [.v (.u 0), .v (.i 0), .v (.i 20)] ?_
 exact zam (fun (r : (Int × Int × Int)) => .tup [.u r.1, .i r.2.1, .i r.2.2]) h (.tup [.u 0, .i 0, .i 20])
def zfh (fuel : Nat) (t : (List UInt8)) : Option ((List UInt8) × Int × Int) :=
 (bif (t == ([] : List UInt8)) then (some (([] : List UInt8), 0, 21)) else (chk (0 ≤ (0 : Int) ∧ (0 : Int) < (List.length t : Int)) (za7 (ix t (0 : Int)) (fun x1 => (bif ((((x1).toNat : Nat) : Int) != 34) then (some (([] : List UInt8), 0, 21)) else (zcr (τ := (List UInt8)) (zbh (β := (List UInt8) × Int) (fun s1 => (bif (decide (s1.2 < (List.length t : Int))) then (chk (0 ≤ s1.2 ∧ s1.2 < (List.length t : Int)) (za7 (ix t s1.2) (fun x2 => (bif ((((x2).toNat : Nat) : Int) == 34) then (chk (-9223372036854775808 ≤ (s1.2 + 1) ∧ (s1.2 + 1) < 9223372036854775808) (some (Sum.inr (Sum.inr (s1.1, (s1.2 + 1), 0))))) else (chk (0 ≤ s1.2 ∧ s1.2 ≤ (List.length t : Int) ∧ (List.length t : Int) ≤ (List.length t : Int)) (za7 (sub t s1.2 (List.length t : Int)) (fun x3 => (z1 (zcc x3 QSet.mk) (fun x4 => (bif (x4.2.2 != 0) then (some (Sum.inr (Sum.inr (([] : List UInt8), s1.2, x4.2.2)))) else (chk (0 ≤ x4.1 ∧ x4.1 < 256) (chk ((List.length s1.1 + List.length ([(zas x4.1)] : List UInt8)) * 1 ≤ 140737488355328) (chk (-9223372036854775808 ≤ (s1.2 + x4.2.1) ∧ (s1.2 + x4.2.1) < 9223372036854775808) (some (Sum.inl ((s1.1 ++ ([(zas x4.1)] : List UInt8)), (s1.2 + x4.2.1))))))))))))))))) else (some (Sum.inr (Sum.inl (s1.1)))))) fuel (([] : (List UInt8)), 1)) (fun j1 => (some (([] : List UInt8), (List.length t : Int), 21)))))))))
theorem ent57 : Ent Tryz.prog 57 := enters_of Tryz.func57 (by kernel_rfl) rfl
theorem zwv (fuel : Nat) (t : (List UInt8)) (r : ((List UInt8) × Int × Int)) (h : zfh fuel t = some r) : Pure (ITP Tryz.prog) Tryz.prog 57 [.raw (.string (bs t))] (.tup [.raw (.string (bs r.1)), .raw (.int .i64 r.2.1), .raw (.int .i64 r.2.2)]) := by
 unfold zfh at h
 refine zah 51 mix Tryz.func57 ent57 ?_
 refine zk [.v (.s ([] : List UInt8)), .v (.i 0), .v (.i 0)] ?_
 refine zj ?_
 refine zk [.m _] ?_
 refine w_o (a := .b (t == ([] : List UInt8))) (h := zv (zb7 rfl rfl rfl)) ?_
 refine zaa h (fun hc1 h => ?_) (fun hc1 h => ?_)
 refine zar hc1 ?_
 refine w_r [.p, .p, .p, .v (.b true)] ?_
 refine za6 rfl ?_
 refine zk [.v (.s ([] : List UInt8)), .v (.i 0), .v (.i 21)] ?_
 exact zam (fun (r : ((List UInt8) × Int × Int)) => .tup [.s r.1, .i r.2.1, .i r.2.2]) h (.tup [.s ([] : List UInt8), .i 0, .i 21])
 refine zar hc1 ?_
 refine zai rfl rfl ?_
 refine zp ?_
 refine zai rfl rfl ?_
 obtain ⟨g1, h⟩ := zf h
 obtain ⟨x1, hx1, h⟩ := zo h
 refine w_o (a := .u (((x1).toNat : Nat) : Int)) (h := zv (by rw [← hx1]; exact (zbi (l := t) (n := (0 : Int)) g1 rfl rfl rfl rfl))) ?_
 refine w_r [.v (.b ((((x1).toNat : Nat) : Int) != 34)), .v (.b ((((x1).toNat : Nat) : Int) != 34))] ?_
 refine za3 h (fun hc2 h => ?_) (fun hc2 h => ?_)
 refine zk [.v (.s ([] : List UInt8)), .v (.i 0), .v (.i 21)] ?_
 exact zam (fun (r : ((List UInt8) × Int × Int)) => .tup [.s r.1, .i r.2.1, .i r.2.2]) h (.tup [.s ([] : List UInt8), .i 0, .i 21])
 refine zk [.v (.list 0 [] .full)] ?_
 refine zaf h (bz 0 52 4503599627370494) (fun j1 => [(5, (.O (j1 : List UInt8)))]) (fun j1 => (z7 [] 5 (List.length (j1 : List UInt8)) 1)) ?_ ?_
 intro or1 h hr1
 refine zk [.v (.i 1)] ?_
 refine zr ?_
 refine zap h (bz 0 52 4503599627370494) (fun s1 => [(5, (.O (s1.1 : List UInt8))), (6, .i s1.2)]) (fun s1 => (z7 [] 5 (List.length (s1.1 : List UInt8)) 1)) ?_ ?_
 exact zao (bl 52 97)
 intro s1 p1 h
 refine zbn ?_
 refine zj ?_
 refine zk [.m _, .m _] ?_
 refine w_o (a := .i (List.length t : Int)) (h := zv (zba rfl rfl rfl)) ?_
 refine w_o (a := .b (decide (s1.2 < (List.length t : Int)))) ?_
 refine za3 h (fun hc3 h => ?_) (fun hc3 h => ?_)
 refine zr ?_
 refine zj ?_
 refine zk [.m _, .m _] ?_
 obtain ⟨g2, h⟩ := zf h
 obtain ⟨x2, hx2, h⟩ := zo h
 refine w_o (a := .u (((x2).toNat : Nat) : Int)) (h := zv (by rw [← hx2]; exact (zbi (l := t) (n := s1.2) g2 rfl rfl rfl rfl))) ?_
 refine w_o (a := .b ((((x2).toNat : Nat) : Int) == 34)) ?_
 refine za3 h (fun hc4 h => ?_) (fun hc4 h => ?_)
 refine zk [.m _] ?_
 refine w_o (a := .s s1.1) (h := zv (zud (l := s1.1) rfl rfl ⟨rfl, rfl⟩ rfl)) ?_
 refine zp ?_
 obtain ⟨g3, h⟩ := zf h
 refine zej g3 ?_
 refine w_r [.m _, .m _, .v (.i 0)] ?_
 refine zh h (fun h => ?_)
 replace h := zq h hr1
 exact zam (fun (r : ((List UInt8) × Int × Int)) => .tup [.s r.1, .i r.2.1, .i r.2.2]) h (.tup [.s s1.1, .i (s1.2 + 1), .i 0])
 refine zj ?_
 refine zb3 (k0 := 0) (id := 8) 12 (by kernel_rfl) (by kernel_rfl) ?_
 refine zbg ?_
 refine zbg ?_
 obtain ⟨g4, h⟩ := zf h
 obtain ⟨x3, hx3, h⟩ := zo h
 refine h_o (a := .s x3) (h := by rw [← hx3]; exact (zmq (l := t) g4 rfl rfl rfl rfl)) ?_
 refine h_o (a := .F (([34] : List UInt8) : List UInt8)) (h := zcs (α := UInt8) (l := ([34] : List UInt8)) (cs := [.u 34]) rfl rfl) ?_
 refine zgr (r := .A (QSet.mk : QSet)) zxi ?_
 obtain ⟨x4, hx4, h⟩ := zl h
 refine zgr (ztn x3 QSet.mk x4 hx4) ?_
 refine zbg ?_
 refine h_ex ?_
 refine h_ex ?_
 refine h_ex ?_
 refine zbg ?_
 refine zbg ?_
 refine zbq ?_
 refine zp ?_
 refine zj ?_
 refine zk [.m _, .v (.b (x4.2.2 != 0))] ?_
 refine za3 h (fun hc5 h => ?_) (fun hc5 h => ?_)
 refine zk [.m _, .m _, .v (.s ([] : List UInt8)), .m _, .m _] ?_
 refine zh h (fun h => ?_)
 replace h := zq h hr1
 exact zam (fun (r : ((List UInt8) × Int × Int)) => .tup [.s r.1, .i r.2.1, .i r.2.2]) h (.tup [.s ([] : List UInt8), .i s1.2, .i x4.2.2])
 refine zk [.m _, .m _] ?_
 obtain ⟨g5, h⟩ := zf h
 refine w_o (a := .F (([(zas x4.1)] : List UInt8) : List UInt8)) (h := zv (zcs (α := UInt8) (l := ([(zas x4.1)] : List UInt8)) (cs := [.u x4.1]) rfl (by show List.map _ _ = _; simp only [List.map_cons, List.map_nil, u8c g5]))) ?_
 obtain ⟨g6, h⟩ := zf h
 refine zga (a := (.O ((s1.1 ++ ([(zas x4.1)] : List UInt8)) : List UInt8))) (σ'' := (z7 [] 5 (List.length ((s1.1 ++ ([(zas x4.1)] : List UInt8)) : List UInt8)) 1)) rfl rfl rfl (zce rfl rfl rfl rfl (zbu (α := UInt8) (bs := []) (a := s1.1) (b := ([(zas x4.1)] : List UInt8)) g6 rfl rfl rfl rfl rfl ⟨rfl, by decide⟩)) (by dsimp only [z6, List.set]) rfl ?_
 refine zp ?_
 refine zc (k0 := 0) (id := 12) ?_
 refine w_r [.m _, .m _] ?_
 obtain ⟨g7, h⟩ := zf h
 refine zej g7 ?_
 refine zp ?_
 refine zz (p := p1) ((s1.1 ++ ([(zas x4.1)] : List UInt8)), (s1.2 + x4.2.1)) h ?_
 exact zao (bl 52 97)
 refine zh h (fun h => ?_)
 refine zg (o := or1) (s1.1) h ?_
 exact zao (bl 52 33)
 intro j1 h
 refine zbn ?_
 refine zk [.m _] ?_
 refine w_o (a := .i (List.length t : Int)) (h := zv (zba rfl rfl rfl)) ?_
 refine w_r [.v (.s ([] : List UInt8)), .m _, .v (.i 21)] ?_
 exact zam (fun (r : ((List UInt8) × Int × Int)) => .tup [.s r.1, .i r.2.1, .i r.2.2]) h (.tup [.s ([] : List UInt8), .i (List.length t : Int), .i 21])
def znj (fuel : Nat) (e : En) : Option (List UInt8) :=
 (z1 (zme fuel e.b) (fun x1 => (some x1)))
theorem ent73 : Ent Tryz.prog 73 := enters_of Tryz.func73 (by kernel_rfl) rfl
theorem z0q (fuel : Nat) (e : En) (r : (List UInt8)) (h : znj fuel e = some r) : Pure (ITP Tryz.prog) Tryz.prog 73 [.A (e : En)] (.raw (.string (bs r))) := by
 unfold znj at h
 refine zah 5 mix Tryz.func73 ent73 ?_
 refine zj (zc ?_)
 refine zbr (a := .ptr 0 0) (σ'' := (.B [(41, (Enc.cells (e : En)))])) ?_
 refine w_o (a := .s ([] : List UInt8)) ?_
 refine zk [.v (.ptr 0 3), .v (.s e.b)] ?_
 obtain ⟨x1, hx1, h⟩ := zl h
 refine zbc (z1l fuel e.b x1 hx1) ?_
 refine zp ?_
 exact zd7 h
def zmt (e : En) : Option (List UInt8) :=
 (chk (-9223372036854775808 ≤ e.fr ∧ e.fr < 9223372036854775808) (za7 (Lib.itoa e.fr) (fun x1 => (chk (List.length x1 + List.length ([32] : List UInt8) ≤ 9223372036854775807) (chk (-9223372036854775808 ≤ e.to ∧ e.to < 9223372036854775808) (za7 (Lib.itoa e.to) (fun x2 => (chk (List.length (x1 ++ ([32] : List UInt8)) + List.length x2 ≤ 9223372036854775807) (some ((x1 ++ ([32] : List UInt8)) ++ x2))))))))))
theorem ent72 : Ent Tryz.prog 72 := enters_of Tryz.func72 (by kernel_rfl) rfl
theorem z0f (e : En) (r : (List UInt8)) (h : zmt e = some r) : Pure (ITP Tryz.prog) Tryz.prog 72 [.A (e : En)] (.raw (.string (bs r))) := by
 unfold zmt at h
 refine zah 10 mix Tryz.func72 ent72 ?_
 refine zj (zc ?_)
 refine zbr (a := .ptr 0 0) (σ'' := (.B [(41, (Enc.cells (e : En)))])) ?_
 refine w_o (a := .s ([] : List UInt8)) ?_
 refine zj ?_
 refine zb3 (k0 := 0) (id := 1) 7 (by kernel_rfl) (by kernel_rfl) ?_
 refine h_o (a := .ptr 0 1) ?_
 refine h_o (a := .i e.fr) ?_
 obtain ⟨g1, h⟩ := zf h
 obtain ⟨x1, hx1, h⟩ := zo h
 refine zgr (args' := [.i e.fr]) (r := .s x1) (by rw [← hx1]; exact (zn0 e.fr g1)) ?_
 obtain ⟨g2, h⟩ := zf h
 refine h_o (a := .s (x1 ++ ([32] : List UInt8))) (h := zad g2 rfl rfl rfl) ?_
 refine h_o (a := .ptr 0 2) ?_
 refine h_o (a := .i e.to) ?_
 obtain ⟨g3, h⟩ := zf h
 obtain ⟨x2, hx2, h⟩ := zo h
 refine zgr (args' := [.i e.to]) (r := .s x2) (by rw [← hx2]; exact (zn0 e.to g3)) ?_
 refine zbq ?_
 obtain ⟨g4, h⟩ := zf h
 refine w_o (a := .s ((x1 ++ ([32] : List UInt8)) ++ x2)) (h := zv (zad g4 rfl rfl rfl)) ?_
 refine zp ?_
 exact zd7 h
def zng (fuel : Nat) (e : En) : Option (List UInt8) :=
 (chk (1 ≤ e.k ∧ e.k ≤ 3) (chk (List.length ((zbe e.k).w) + List.length ([32] : List UInt8) ≤ 9223372036854775807) (bif (e.k == 1) then (z1 (znj fuel e) (fun x1 => (chk (List.length ((zbe e.k).w ++ ([32] : List UInt8)) + List.length x1 ≤ 9223372036854775807) (some (((zbe e.k).w ++ ([32] : List UInt8)) ++ x1))))) else (z1 (zmt e) (fun x2 => (chk (List.length ((zbe e.k).w ++ ([32] : List UInt8)) + List.length x2 ≤ 9223372036854775807) (some (((zbe e.k).w ++ ([32] : List UInt8)) ++ x2))))))))
theorem ent47 : Ent Tryz.prog 47 := enters_of Tryz.func47 (by kernel_rfl) rfl
theorem zf7 (fuel : Nat) (e : En) (r : (List UInt8)) (h : zng fuel e = some r) : Pure (ITP Tryz.prog) Tryz.prog 47 [.A (e : En)] (.raw (.string (bs r))) := by
 unfold zng at h
 refine zah 15 mix Tryz.func47 ent47 ?_
 refine zj (zc ?_)
 refine zbr (a := .ptr 0 0) (σ'' := (.B [(41, (Enc.cells (e : En)))])) ?_
 refine w_o (a := .s ([] : List UInt8)) ?_
 refine zj ?_
 refine zqn (k0 := 0) (id := 1) 5 (by kernel_rfl) (by kernel_rfl) ?_
 refine zp9 (args' := []) (r := kindsA) zo6 rfl rfl rfl rfl rfl rfl (by dsimp only [z6, List.set]) ?_
 refine zgq (a := .ptr 0 0) rfl rfl rfl rfl rfl (by dsimp only [z6, List.set]) ?_
 refine zgq (a := .u e.k) rfl rfl rfl rfl rfl (by dsimp only [z6, List.set]) ?_
 obtain ⟨g1, h⟩ := zf h
 refine zgq (a := .A ((zbe e.k) : Kd)) rfl rfl rfl rfl (z2c g1 rfl rfl rfl) (by dsimp only [z6, List.set]) ?_
 refine zsj _ rfl rfl rfl rfl rfl rfl (by dsimp only [List.set]) ?_
 refine zl6 (n := 1) rfl (show _ = ((.B [(41, (Enc.cells (e : En))), (98, [.s [], .raw .nilFunc])]) : St) from rfl) (by dsimp only [List.nil_append, List.cons_append, zg2, List.set, Nat.reduceAdd]) ?_
 refine zcg 2 (.B [(41, (Enc.cells (e : En))), (98, (Enc.cells ((zbe e.k) : Kd)))]) ?_
 refine zj ?_
 refine zb3 (k0 := 0) (id := 2) 7 (by kernel_rfl) (by kernel_rfl) ?_
 refine h_o (a := .ptr 1 0) ?_
 refine h_o (a := .s ((zbe e.k).w)) ?_
 obtain ⟨g2, h⟩ := zf h
 refine h_o (a := .s ((zbe e.k).w ++ ([32] : List UInt8))) (h := zad g2 rfl rfl rfl) ?_
 refine h_o (a := .ptr 1 1) ?_
 refine h_o (a := .clos (zbe e.k).f []) ?_
 refine h_o (a := .A (e : En)) ?_
 refine zaa h (fun hc1 h => ?_) (fun hc1 h => ?_)
 obtain ⟨x1, hx1, h⟩ := zl h
 refine zzp (args' := [.A (e : En)]) (r := .s x1) (by rw [kind_f1 hc1]; exact (z0q fuel e x1 hx1)) rfl rfl rfl (zac (zen (zb2 (Enc.clo _))) rfl) (za (zcd _ _ (zb2 (Enc.clo _))) rfl) (by dsimp only [z6, List.set]) ?_
 refine zbq ?_
 obtain ⟨g3, h⟩ := zf h
 refine w_o (a := .s (((zbe e.k).w ++ ([32] : List UInt8)) ++ x1)) (h := zv (zad g3 rfl rfl rfl)) ?_
 refine zp ?_
 exact zd7 h
 obtain ⟨x2, hx2, h⟩ := zl h
 refine zzp (args' := [.A (e : En)]) (r := .s x2) (by rw [kind_f2 hc1]; exact (z0f e x2 hx2)) rfl rfl rfl (zac (zen (zb2 (Enc.clo _))) rfl) (za (zcd _ _ (zb2 (Enc.clo _))) rfl) (by dsimp only [z6, List.set]) ?_
 refine zbq ?_
 obtain ⟨g4, h⟩ := zf h
 refine w_o (a := .s (((zbe e.k).w ++ ([32] : List UInt8)) ++ x2)) (h := zv (zad g4 rfl rfl rfl)) ?_
 refine zp ?_
 exact zd7 h
def zo5 (e : Ed) : Option (List UInt8) :=
 (bif (e.k == 2) then (chk (-9223372036854775808 ≤ e.c ∧ e.c < 9223372036854775808) (za7 (Lib.itoa e.c) (fun x1 => (chk (List.length ([101, 120, 105, 116, 32] : List UInt8) + List.length x1 ≤ 9223372036854775807) (some (([101, 120, 105, 116, 32] : List UInt8) ++ x1)))))) else (chk (0 ≤ e.k ∧ e.k < 256) (za7 (zfr e.k) (fun x2 => (some x2)))))
theorem ent48 : Ent Tryz.prog 48 := enters_of Tryz.func48 (by kernel_rfl) rfl
theorem znp (e : Ed) (r : (List UInt8)) (h : zo5 e = some r) : Pure (ITP Tryz.prog) Tryz.prog 48 [.A (e : Ed)] (.raw (.string (bs r))) := by
 unfold zo5 at h
 refine zah 12 mix Tryz.func48 ent48 ?_
 refine zj (zc ?_)
 refine zbr (a := .ptr 0 0) (σ'' := (.B [(25, (Enc.cells (e : Ed)))])) ?_
 refine w_o (a := .s ([] : List UInt8)) ?_
 refine zj ?_
 refine zk [.v (.ptr 0 0), .v (.u e.k), .v (.b (e.k == 2))] ?_
 refine za3 h (fun hc1 h => ?_) (fun hc1 h => ?_)
 refine zk [.v (.ptr 0 1), .v (.i e.c)] ?_
 obtain ⟨g1, h⟩ := zf h
 obtain ⟨x1, hx1, h⟩ := zo h
 refine zbc (args' := [.i e.c]) (r := .s x1) (by rw [← hx1]; exact (zn0 e.c g1)) ?_
 obtain ⟨g2, h⟩ := zf h
 refine w_o (a := .s (([101, 120, 105, 116, 32] : List UInt8) ++ x1)) (h := zv (zad g2 rfl rfl rfl)) ?_
 refine zp ?_
 exact zd7 h
 refine zk [.v (.ptr 0 0), .v (.u e.k)] ?_
 obtain ⟨g3, h⟩ := zf h
 obtain ⟨x2, hx2, h⟩ := zo h
 refine zbc (args' := [.u e.k]) (r := .s x2) (by rw [← hx2]; exact (znb e.k g3)) ?_
 refine zp ?_
 exact zd7 h
end Go.Ab
