/-
  TraceSmall: the walk.
-/
import Derived.Test.YtcdmdnadilafhaaGreatDoorZySa
import Derived.Test.YtcdmdnadilafhaaGreatDoorZyTy
import Derived.Test.YtcdmdnadilafhaaGreatDoorZdQr
set_option linter.unusedSimpArgs false
set_option linter.unusedVariables false
set_option maxRecDepth 100000
set_option maxHeartbeats 4000000
namespace Go.Ab
open Go Go.RowKit Go.Fwd Go.Proofs
def zbo : List En := [(En.mk 1 0 0 []), (En.mk 1 0 0 ([97, 34] : List UInt8)), (En.mk 2 0 0 []), (En.mk 2 0 2 []), (En.mk 3 0 2 []), (En.mk 2 2 2 []), (En.mk 3 2 3 []), (En.mk 1 1 0 [])]
def za8 : List Ed := [(Ed.mk 1 0), (Ed.mk 2 0), (Ed.mk 2 255), (Ed.mk 3 0), (Ed.mk 4 0), (Ed.mk 5 1), (Ed.mk 2 256), (Ed.mk 0 0)]
def zw : List (List UInt8) := [([115, 101, 110, 100, 32, 34, 34] : List UInt8), ([115, 101, 110, 100, 32, 34, 97, 32, 98, 34] : List UInt8), ([115, 101, 110, 100, 32, 34, 92, 120, 54, 49, 34] : List UInt8), ([115, 101, 110, 100] : List UInt8), ([115, 101, 110, 100, 32, 34, 97, 34, 32] : List UInt8), ([115, 101, 110, 100, 32, 97] : List UInt8), ([116, 97, 107, 101, 32, 48, 32, 48] : List UInt8), ([116, 97, 107, 101, 32, 48, 32, 50] : List UInt8), ([116, 97, 107, 101, 32, 50, 32, 50] : List UInt8), ([116, 97, 107, 101, 32, 50, 32, 49] : List UInt8), ([116, 97, 107, 101, 32, 48, 48, 32, 49] : List UInt8), ([116, 97, 107, 101, 32, 48] : List UInt8), ([116, 97, 107, 101, 32, 48, 32, 49, 32, 50] : List UInt8), ([116, 97, 107, 101, 32, 48, 32, 32, 49] : List UInt8), ([116, 97, 107, 101, 32, 43, 48, 32, 49] : List UInt8), ([108, 111, 115, 101, 32, 48, 32, 50] : List UInt8), ([108, 111, 115, 101, 32, 50, 32, 50] : List UInt8), ([108, 111, 115, 101, 32, 50, 32, 49, 48, 55, 51, 55, 52, 49, 56, 50, 52] : List UInt8), ([108, 111, 115, 101, 32, 50, 32, 49, 48, 55, 51, 55, 52, 49, 56, 50, 53] : List UInt8), ([108, 111, 115, 101, 32, 48, 32, 57, 57, 57, 57, 57, 57, 57, 57, 57, 57, 57, 57, 57, 57, 57, 57, 57, 57, 57, 57] : List UInt8), ([114, 117, 110, 110, 105, 110, 103] : List UInt8), ([114, 117, 110, 110, 105, 110, 103, 32, 48] : List UInt8), ([101, 120, 105, 116, 32, 48] : List UInt8), ([101, 120, 105, 116, 32, 50, 53, 53] : List UInt8), ([101, 120, 105, 116, 32, 50, 53, 54] : List UInt8), ([101, 120, 105, 116, 32, 48, 55] : List UInt8), ([101, 120, 105, 116] : List UInt8), ([101, 120, 105, 116, 32, 45, 49] : List UInt8), ([101, 111, 102] : List UInt8), ([102, 117, 101, 108] : List UInt8), ([115, 105, 122, 101] : List UInt8), ([] : List UInt8), ([32] : List UInt8), ([100, 111, 110, 101] : List UInt8)]
def zbd : List Int := [(-9223372036854775808), (-1), 0, 1073741824, 1073741825, 9223372036854775807]
def zfl (fuel : Nat)  : Option Bool :=
 (zcr (τ := Trc) (zbh (β := Int × Trc) (fun s1 => (bif (decide (s1.1 < 512)) then (zcr (τ := Trc) (chk (0 ≤ (Int.tmod s1.1 8) ∧ (Int.tmod s1.1 8) < (List.length zbo : Int)) (za7 (ix zbo (Int.tmod s1.1 8)) (fun x1 => (chk (0 ≤ (Int.tmod (IntKind.i64.wrap (Int.tdiv s1.1 8)) 8) ∧ (Int.tmod (IntKind.i64.wrap (Int.tdiv s1.1 8)) 8) < (List.length zbo : Int)) (za7 (ix zbo (Int.tmod (IntKind.i64.wrap (Int.tdiv s1.1 8)) 8)) (fun x2 => (chk (0 ≤ (IntKind.i64.wrap (Int.tdiv s1.1 64)) ∧ (IntKind.i64.wrap (Int.tdiv s1.1 64)) < (List.length zbo : Int)) (za7 (ix zbo (IntKind.i64.wrap (Int.tdiv s1.1 64))) (fun x3 => (zbh (β := Int × Trc) (fun s2 => (bif (decide (s2.1 < 4)) then (chk (0 ≤ 0 ∧ 0 ≤ s2.1 ∧ s2.1 ≤ (List.length [x1, x2, x3] : Int)) (chk (-9223372036854775808 ≤ (s1.1 + s2.1) ∧ (s1.1 + s2.1) < 9223372036854775808) (chk (0 ≤ (Int.tmod (s1.1 + s2.1) 8) ∧ (Int.tmod (s1.1 + s2.1) 8) < (List.length za8 : Int)) (za7 (ix za8 (Int.tmod (s1.1 + s2.1) 8)) (fun x4 => (z1 (zic fuel (Trc.mk (sub [x1, x2, x3] 0 s2.1) x4)) (fun x5 => (bif (!x5) then (some (Sum.inr (Sum.inr (Sum.inr (Sum.inr false))))) else (z1 (zlh fuel (Trc.mk (sub [x1, x2, x3] 0 s2.1) x4) s2.2) (fun x6 => (bif (!x6) then (some (Sum.inr (Sum.inr (Sum.inr (Sum.inr false))))) else (z1 (zlh fuel s2.2 (Trc.mk (sub [x1, x2, x3] 0 s2.1) x4)) (fun x7 => (bif (!x7) then (some (Sum.inr (Sum.inr (Sum.inr (Sum.inr false))))) else (z1 (zlh fuel (Trc.mk (sub [x1, x2, x3] 0 s2.1) x4) (Trc.mk (sub [x1, x2, x3] 0 s2.1) x4)) (fun x8 => (bif (!x8) then (some (Sum.inr (Sum.inr (Sum.inr (Sum.inr false))))) else (chk (0 ≤ 0 ∧ 0 ≤ s2.1 ∧ s2.1 ≤ (List.length [x1, x2, x3] : Int)) (chk (0 ≤ (0 : Int) ∧ (0 : Int) < (List.length za8 : Int)) (za7 (ix za8 (0 : Int)) (fun x9 => (chk (0 ≤ (Int.tmod s1.1 8) ∧ (Int.tmod s1.1 8) < (List.length za8 : Int)) (za7 (ix za8 (Int.tmod s1.1 8)) (fun x10 => (z1 (zlh fuel (Trc.mk (sub [x1, x2, x3] 0 s2.1) x9) (Trc.mk [x1, x2, x3] x10)) (fun x11 => (bif (!x11) then (some (Sum.inr (Sum.inr (Sum.inr (Sum.inr false))))) else (chk (0 ≤ 0 ∧ 0 ≤ s2.1 ∧ s2.1 ≤ (List.length [x1, x2, x3] : Int)) (chk (List.length (sub [x1, x2, x3] 0 s2.1) * 40 ≤ 140737488355328) (za7 (sub [x1, x2, x3] 0 s2.1) (fun x12 => (chk (-9223372036854775808 ≤ (s2.1 + 1) ∧ (s2.1 + 1) < 9223372036854775808) (some (Sum.inl ((s2.1 + 1), (Trc.mk x12 ((Trc.mk (sub [x1, x2, x3] 0 s2.1) x4).e))))))))))))))))))))))))))))))))))))) else (some (Sum.inr (Sum.inl (s2.2)))))) fuel (0, s1.2))))))))))) (fun j2 => (chk (-9223372036854775808 ≤ (s1.1 + 1) ∧ (s1.1 + 1) < 9223372036854775808) (some (Sum.inl ((s1.1 + 1), j2)))))) else (some (Sum.inr (Sum.inl (s1.2)))))) fuel (0, (Trc.mk [] (Ed.mk 0 0)))) (fun j1 => (zcr (τ := Unit) (zbh (β := Int) (fun s3 => (bif (decide (s3 < (List.length zw : Int))) then (zcr (τ := Unit) (zbh (β := Int) (fun s4 => (bif (decide (s4 < (List.length zw : Int))) then (zcr (τ := Unit) (chk (0 ≤ s3 ∧ s3 < (List.length zw : Int)) (za7 (ix zw s3) (fun x13 => (chk (List.length x13 + List.length ([10] : List UInt8) ≤ 9223372036854775807) (chk (0 ≤ s3 ∧ s3 < (List.length zw : Int)) (za7 (ix zw s3) (fun x14 => (chk (List.length x14 + List.length ([10] : List UInt8) ≤ 9223372036854775807) (chk (0 ≤ s4 ∧ s4 < (List.length zw : Int)) (za7 (ix zw s4) (fun x15 => (chk (List.length (x14 ++ ([10] : List UInt8)) + List.length x15 ≤ 9223372036854775807) (chk (List.length ((x14 ++ ([10] : List UInt8)) ++ x15) + List.length ([10] : List UInt8) ≤ 9223372036854775807) (chk (0 ≤ s3 ∧ s3 < (List.length zw : Int)) (za7 (ix zw s3) (fun x16 => (chk (List.length x16 + List.length ([10] : List UInt8) ≤ 9223372036854775807) (chk (0 ≤ s4 ∧ s4 < (List.length zw : Int)) (za7 (ix zw s4) (fun x17 => (chk (List.length (x16 ++ ([10] : List UInt8)) + List.length x17 ≤ 9223372036854775807) (chk (List.length ((x16 ++ ([10] : List UInt8)) ++ x17) + List.length ([10, 101, 111, 102, 10] : List UInt8) ≤ 9223372036854775807) (chk (0 ≤ s3 ∧ s3 < (List.length zw : Int)) (za7 (ix zw s3) (fun x18 => (chk (List.length x18 + List.length ([10] : List UInt8) ≤ 9223372036854775807) (chk (0 ≤ s4 ∧ s4 < (List.length zw : Int)) (za7 (ix zw s4) (fun x19 => (chk (List.length (x18 ++ ([10] : List UInt8)) + List.length x19 ≤ 9223372036854775807) (zbh (β := Int) (fun s5 => (bif (decide (s5 < (List.length [(x13 ++ ([10] : List UInt8)), (((x14 ++ ([10] : List UInt8)) ++ x15) ++ ([10] : List UInt8)), (((x16 ++ ([10] : List UInt8)) ++ x17) ++ ([10, 101, 111, 102, 10] : List UInt8)), ((x18 ++ ([10] : List UInt8)) ++ x19)] : Int))) then (chk (0 ≤ s5 ∧ s5 < (List.length [(x13 ++ ([10] : List UInt8)), (((x14 ++ ([10] : List UInt8)) ++ x15) ++ ([10] : List UInt8)), (((x16 ++ ([10] : List UInt8)) ++ x17) ++ ([10, 101, 111, 102, 10] : List UInt8)), ((x18 ++ ([10] : List UInt8)) ++ x19)] : Int)) (za7 (ix [(x13 ++ ([10] : List UInt8)), (((x14 ++ ([10] : List UInt8)) ++ x15) ++ ([10] : List UInt8)), (((x16 ++ ([10] : List UInt8)) ++ x17) ++ ([10, 101, 111, 102, 10] : List UInt8)), ((x18 ++ ([10] : List UInt8)) ++ x19)] s5) (fun x20 => (z1 (zfu fuel x20) (fun x21 => (bif (!x21) then (some (Sum.inr (Sum.inr (Sum.inr (Sum.inr (Sum.inr (Sum.inr false))))))) else (chk (-9223372036854775808 ≤ (s5 + 1) ∧ (s5 + 1) < 9223372036854775808) (some (Sum.inl ((s5 + 1))))))))))) else (some (Sum.inr (Sum.inl ()))))) fuel (0)))))))))))))))))))))))))))))))) (fun j5 => (chk (-9223372036854775808 ≤ (s4 + 1) ∧ (s4 + 1) < 9223372036854775808) (some (Sum.inl ((s4 + 1))))))) else (some (Sum.inr (Sum.inl ()))))) fuel (0)) (fun j4 => (chk (-9223372036854775808 ≤ (s3 + 1) ∧ (s3 + 1) < 9223372036854775808) (some (Sum.inl ((s3 + 1))))))) else (some (Sum.inr (Sum.inl ()))))) fuel (0)) (fun j3 => (zcr (τ := Unit) (zbh (β := Int) (fun s6 => (bif (decide (s6 < (List.length zbd : Int))) then (zcr (τ := Unit) (chk (0 ≤ s6 ∧ s6 < (List.length zbd : Int)) (za7 (ix zbd s6) (fun x22 => (zbh (β := Int) (fun s7 => (bif (decide (s7 < 5)) then (zcr (τ := Unit) (chk (0 ≤ (512 : Int) ∧ ((1 : Nat) : Int) * (512 : Int) ≤ 281474976710656) (chk (0 ≤ (513 : Int) ∧ ((1 : Nat) : Int) * (513 : Int) ≤ 281474976710656) (zbh (β := Int) (fun s8 => (bif (decide (s8 < (List.length [([] : List UInt8), ([120] : List UInt8), (List.replicate (Int.toNat (512 : Int)) (0 : UInt8)), (List.replicate (Int.toNat (513 : Int)) (0 : UInt8))] : Int))) then (chk (0 ≤ s8 ∧ s8 < (List.length [([] : List UInt8), ([120] : List UInt8), (List.replicate (Int.toNat (512 : Int)) (0 : UInt8)), (List.replicate (Int.toNat (513 : Int)) (0 : UInt8))] : Int)) (za7 (ix [([] : List UInt8), ([120] : List UInt8), (List.replicate (Int.toNat (512 : Int)) (0 : UInt8)), (List.replicate (Int.toNat (513 : Int)) (0 : UInt8))] s8) (fun x23 => (z1 (zic fuel (Trc.mk [(En.mk s7 0 x22 x23)] (Ed.mk s7 x22))) (fun x24 => (bif (!x24) then (some (Sum.inr (Sum.inr (Sum.inr (Sum.inr (Sum.inr (Sum.inr false))))))) else (z1 (zic fuel (Trc.mk [(En.mk s7 x22 x22 [])] (Ed.mk 3 0))) (fun x25 => (bif (!x25) then (some (Sum.inr (Sum.inr (Sum.inr (Sum.inr (Sum.inr (Sum.inr false))))))) else (chk (-9223372036854775808 ≤ (s8 + 1) ∧ (s8 + 1) < 9223372036854775808) (some (Sum.inl ((s8 + 1)))))))))))))) else (some (Sum.inr (Sum.inl ()))))) fuel (0)))) (fun j8 => (some (Sum.inl ((IntKind.u8.wrap (s7 + 1))))))) else (some (Sum.inr (Sum.inl ()))))) fuel (0))))) (fun j7 => (chk (-9223372036854775808 ≤ (s6 + 1) ∧ (s6 + 1) < 9223372036854775808) (some (Sum.inl ((s6 + 1))))))) else (some (Sum.inr (Sum.inl ()))))) fuel (0)) (fun j6 => (z1 (zf1 fuel [(En.mk 2 0 0 [])] 65537) (fun x26 => (z1 (zem fuel (Trc.mk x26 (Ed.mk 1 0))) (fun x27 => (chk (0 ≤ (1 : Int) ∧ (1 : Int) ≤ (List.length ((Trc.mk x26 (Ed.mk 1 0)).l) : Int) ∧ (List.length ((Trc.mk x26 (Ed.mk 1 0)).l) : Int) ≤ (List.length ((Trc.mk x26 (Ed.mk 1 0)).l) : Int)) (z1 (zem fuel (Trc.mk (sub ((Trc.mk x26 (Ed.mk 1 0)).l) (1 : Int) (List.length ((Trc.mk x26 (Ed.mk 1 0)).l) : Int)) ((Trc.mk x26 (Ed.mk 1 0)).e))) (fun x28 => (bif (x27.2 == 5) then (bif (x28.2 == 0) then (z1 (z2a fuel (Trc.mk (sub ((Trc.mk x26 (Ed.mk 1 0)).l) (1 : Int) (List.length ((Trc.mk x26 (Ed.mk 1 0)).l) : Int)) ((Trc.mk x26 (Ed.mk 1 0)).e))) (fun x29 => (bif (x29 == 0) then (some true) else (some false)))) else (some false)) else (some false)))))))))))))))
theorem ent5 : Ent Tryz.prog 5 := enters_of Tryz.func5 (by kernel_rfl) rfl
theorem zqe (fuel : Nat)  (r : Bool) (h : zfl fuel  = some r) : Pure (ITP Tryz.prog) Tryz.prog 5 [] (.raw (.bool r)) := by
 unfold zfl at h
 refine zah 261 mix Tryz.func5 ent5 ?_
 refine zk [.v (.b false)] ?_
 refine zk [.v (.A ((En.mk 1 0 0 []) : En)), .v (.A ((En.mk 1 0 0 ([97, 34] : List UInt8)) : En)), .v (.A ((En.mk 2 0 0 []) : En)), .v (.A ((En.mk 2 0 2 []) : En)), .v (.A ((En.mk 3 0 2 []) : En))] ?_
 refine w_r [.v (.A ((En.mk 2 2 2 []) : En)), .v (.A ((En.mk 3 2 3 []) : En)), .v (.A ((En.mk 1 1 0 []) : En))] ?_
 refine w_o (a := .F (zbo : List En)) (h := zv (zcs (α := En) (l := zbo) (cs := Enc.cells ((En.mk 1 0 0 []) : En) ++ (Enc.cells ((En.mk 1 0 0 ([97, 34] : List UInt8)) : En) ++ (Enc.cells ((En.mk 2 0 0 []) : En) ++ (Enc.cells ((En.mk 2 0 2 []) : En) ++ (Enc.cells ((En.mk 3 0 2 []) : En) ++ (Enc.cells ((En.mk 2 2 2 []) : En) ++ (Enc.cells ((En.mk 3 2 3 []) : En) ++ (Enc.cells ((En.mk 1 1 0 []) : En) ++ [])))))))) (by kernel_rfl) (by unfold zbo; rw [Enc.cons, Enc.cons, Enc.cons, Enc.cons, Enc.cons, Enc.cons, Enc.cons, Enc.cons, Enc.nil]))) ?_
 refine zp ?_
 refine zk [.v (.A ((Ed.mk 1 0) : Ed)), .v (.A ((Ed.mk 2 0) : Ed)), .v (.A ((Ed.mk 2 255) : Ed)), .v (.A ((Ed.mk 3 0) : Ed)), .v (.A ((Ed.mk 4 0) : Ed))] ?_
 refine w_r [.v (.A ((Ed.mk 5 1) : Ed)), .v (.A ((Ed.mk 2 256) : Ed)), .v (.A ((Ed.mk 0 0) : Ed))] ?_
 refine w_o (a := .F (za8 : List Ed)) (h := zv (zcs (α := Ed) (l := za8) (cs := Enc.cells ((Ed.mk 1 0) : Ed) ++ (Enc.cells ((Ed.mk 2 0) : Ed) ++ (Enc.cells ((Ed.mk 2 255) : Ed) ++ (Enc.cells ((Ed.mk 3 0) : Ed) ++ (Enc.cells ((Ed.mk 4 0) : Ed) ++ (Enc.cells ((Ed.mk 5 1) : Ed) ++ (Enc.cells ((Ed.mk 2 256) : Ed) ++ (Enc.cells ((Ed.mk 0 0) : Ed) ++ [])))))))) (by kernel_rfl) (by unfold za8; rw [Enc.cons, Enc.cons, Enc.cons, Enc.cons, Enc.cons, Enc.cons, Enc.cons, Enc.cons, Enc.nil]))) ?_
 refine zp ?_
 refine zj (zc ?_)
 refine zvh (.A ((Trc.mk [] (Ed.mk 0 0)) : Trc)) (a0 := (zqq (Trc.mk [] (Ed.mk 0 0)) .full)) rfl rfl rfl (by kernel_rfl) (zbf _ _) (by dsimp only [z6, List.set]) ?_
 refine zbr (a := .ptr 0 0) (σ'' := (.B [(27, [.list 0 [] .full, .u 0, .i 0])])) ?_
 refine zcg 3 (.B [(27, (Enc.cells ((Trc.mk [] (Ed.mk 0 0)) : Trc)))]) ?_
 refine zaf h (bz 0 261 3705346855594118253554271520278013051304639509300498049262642688253220148477951) (fun j1 => []) (fun j1 => (.B [(27, (Enc.cells (j1 : Trc)))])) ?_ ?_
 intro or1 h hr1
 refine zk [.v (.i 0)] ?_
 refine zr ?_
 refine zap h (bz 0 261 3705346855594118253554271520278013051304639509300498049262642688253220148477937) (fun s1 => [(42, .i s1.1)]) (fun s1 => (.B [(27, (Enc.cells (s1.2 : Trc)))])) ?_ ?_
 exact zao (bl 261 4398046511118)
 intro s1 p1 h
 refine zbn ?_
 refine zk [.v (.b (decide (s1.1 < 512)))] ?_
 refine zj ?_
 refine za3 h (fun hc1 h => ?_) (fun hc1 h => ?_)
 refine zaf h (bz 0 123 10633823966279326983230447686149734641) (fun j2 => []) (fun j2 => (.B [(27, (Enc.cells (j2 : Trc)))])) ?_ ?_
 intro or2 h hr2
 refine zr ?_
 refine zk [.m _, .m _] ?_
 refine zj ?_
 refine zb3 (k0 := 0) (id := 7) 16 (by kernel_rfl) (by kernel_rfl) ?_
 refine zbg ?_
 refine zbg ?_
 refine h_o (a := .i (Int.tmod s1.1 8)) ?_
 obtain ⟨g1, h⟩ := zf h
 obtain ⟨x1, hx1, h⟩ := zo h
 refine zn8 hx1 g1 ?_
 refine h_o (a := .A (x1 : En)) ?_
 refine zbg ?_
 refine zbg ?_
 refine h_o (a := .i (IntKind.i64.wrap (Int.tdiv s1.1 8))) ?_
 refine h_o (a := .i (Int.tmod (IntKind.i64.wrap (Int.tdiv s1.1 8)) 8)) ?_
 obtain ⟨g2, h⟩ := zf h
 obtain ⟨x2, hx2, h⟩ := zo h
 refine zn8 hx2 g2 ?_
 refine h_o (a := .A (x2 : En)) ?_
 refine zbg ?_
 refine zbg ?_
 refine h_o (a := .i (IntKind.i64.wrap (Int.tdiv s1.1 64))) ?_
 obtain ⟨g3, h⟩ := zf h
 obtain ⟨x3, hx3, h⟩ := zo h
 refine zn8 hx3 g3 ?_
 refine h_o (a := .A (x3 : En)) ?_
 refine zbq ?_
 refine w_o (a := .F ([x1, x2, x3] : List En)) (h := zv (zcs (α := En) (l := [x1, x2, x3]) (cs := Enc.cells (x1 : En) ++ (Enc.cells (x2 : En) ++ (Enc.cells (x3 : En) ++ []))) (by kernel_rfl) (by rw [Enc.cons, Enc.cons, Enc.cons, Enc.nil]))) ?_
 refine zp ?_
 refine zk [.v (.i 0)] ?_
 refine zr ?_
 refine zap h (bz 0 123 10633823966279326983230447686149734593) (fun s2 => [(62, .i s2.1)]) (fun s2 => (.B [(27, (Enc.cells (s2.2 : Trc)))])) ?_ ?_
 exact zao (bl 261 3705346855594118253554271520278013051304628875476531769935664069491552426131262)
 intro s2 p2 h
 refine zbn ?_
 refine zk [.v (.b (decide (s2.1 < 4)))] ?_
 refine zj ?_
 refine za3 h (fun hc2 h => ?_) (fun hc2 h => ?_)
 refine zj ?_
 refine zr ?_
 refine zk [.m _, .m _] ?_
 refine zj ?_
 refine zqn (k0 := 0) (id := 11) 12 (by kernel_rfl) (by kernel_rfl) ?_
 refine zgq (a := .F ([x1, x2, x3] : List En)) rfl rfl rfl rfl rfl (by dsimp only [z6, List.set]) ?_
 refine zgq (a := .i s2.1) rfl rfl rfl rfl rfl (by dsimp only [z6, List.set]) ?_
 obtain ⟨g4, h⟩ := zf h
 refine zyp (a := .L ((sub [x1, x2, x3] 0 s2.1) : List En)) rfl rfl rfl rfl (zue (α := En) (l := [x1, x2, x3]) g4 rfl rfl rfl rfl rfl) (ziq _ _ _) (by dsimp only [z6, List.set]) ?_
 refine zgq (a := .F (za8 : List Ed)) rfl rfl rfl rfl rfl (by dsimp only [z6, List.set]) ?_
 refine zgq (a := .i s1.1) rfl rfl rfl rfl rfl (by dsimp only [z6, List.set]) ?_
 refine zgq (a := .i s2.1) rfl rfl rfl rfl rfl (by dsimp only [z6, List.set]) ?_
 obtain ⟨g5, h⟩ := zf h
 refine zgq (a := .i (s1.1 + s2.1)) rfl rfl rfl rfl (ztt rfl rfl rfl rfl g5.1 g5.2) (by dsimp only [z6, List.set]) ?_
 refine zgq (a := .i (Int.tmod (s1.1 + s2.1) 8)) rfl rfl rfl rfl rfl (by dsimp only [z6, List.set]) ?_
 obtain ⟨g6, h⟩ := zf h
 obtain ⟨x4, hx4, h⟩ := zo h
 refine zgq (a := .iptr (Enc.cells x4 ++ Enc.cellsL (List.drop (Int.toNat (Int.tmod (s1.1 + s2.1) 8) + 1) za8))) rfl rfl rfl rfl (by rw [← hx4]; exact (zgd (α := Ed) (l := za8) g6 rfl rfl rfl rfl rfl)) (by dsimp only [z6, List.set]) ?_
 refine zgq (a := .A (x4 : Ed)) rfl rfl rfl rfl rfl (by dsimp only [z6, List.set]) ?_
 refine zyp (a := .A ((Trc.mk (sub [x1, x2, x3] 0 s2.1) x4) : Trc)) (a0 := (zqq (Trc.mk (sub [x1, x2, x3] 0 s2.1) x4) .none)) rfl rfl rfl rfl (by kernel_rfl) (zbf _ _) (by dsimp only [z6, List.set]) ?_
 refine zsj _ rfl rfl rfl rfl rfl rfl (by dsimp only [List.set]) ?_
 refine zl6 (n := 1) rfl (show _ = ((.B [(27, (Enc.cells (s2.2 : Trc))), (27, [.list 0 [] .full, .u 0, .i 0])]) : St) from rfl) (by dsimp only [List.nil_append, List.cons_append, zg2, List.set, Nat.reduceAdd]) ?_
 refine zcg 3 (.B [(27, (Enc.cells (s2.2 : Trc))), (27, (Enc.cells ((Trc.mk (sub [x1, x2, x3] 0 s2.1) x4) : Trc)))]) ?_
 refine zj ?_
 refine zj ?_
 refine zb3 (k0 := 0) (id := 12) 36 (by kernel_rfl) (by kernel_rfl) ?_
 refine h_o (a := .A ((Trc.mk (sub [x1, x2, x3] 0 s2.1) x4) : Trc)) ?_
 obtain ⟨x5, hx5, h⟩ := zl h
 refine zgr (zqp fuel (Trc.mk (sub [x1, x2, x3] 0 s2.1) x4) x5 hx5) ?_
 refine h_o (a := .b (!x5)) ?_
 refine zaa h (fun hc3 h => ?_) (fun hc3 h => ?_)
 refine h_o (a := .b true) (h := zae rfl hc3) ?_
 refine z8 ?_
 refine z8 ?_
 refine z8 ?_
 refine z8 ?_
 refine h_o (a := .b true) ?_
 refine zbg ?_
 refine z8 ?_
 refine z8 ?_
 refine z8 ?_
 refine z8 ?_
 refine h_o (a := .b true) ?_
 refine zbg ?_
 refine z8 ?_
 refine z8 ?_
 refine z8 ?_
 refine z8 ?_
 refine h_o (a := .b true) ?_
 refine zbg ?_
 refine z8 ?_
 refine z8 ?_
 refine z8 ?_
 refine z8 ?_
 refine z8 ?_
 refine z8 ?_
 refine z8 ?_
 refine z8 ?_
 refine z8 ?_
 refine z8 ?_
 refine z8 ?_
 refine z8 ?_
 refine z8 ?_
 refine z8 ?_
 refine zbq ?_
 refine w_r [.p, .p, .v (.b true)] ?_
 refine za6 rfl ?_
 refine zk [.v (.b false)] ?_
 refine zh h (fun h => ?_)
 replace h := zq h hr2
 refine zh h (fun h => ?_)
 replace h := zq h hr1
 exact zaj h
 refine h_o (a := .b false) (h := zae rfl hc3) ?_
 refine zag rfl rfl ?_
 refine h_o (a := .A ((Trc.mk (sub [x1, x2, x3] 0 s2.1) x4) : Trc)) ?_
 refine zag rfl rfl ?_
 refine h_o (a := .A (s2.2 : Trc)) ?_
 refine zag rfl rfl ?_
 obtain ⟨x6, hx6, h⟩ := zl h
 refine zgr (zpb fuel (Trc.mk (sub [x1, x2, x3] 0 s2.1) x4) s2.2 x6 hx6) ?_
 refine zag rfl rfl ?_
 refine h_o (a := .b (!x6)) ?_
 refine h_o (a := .b (!x6)) ?_
 refine zaa h (fun hc4 h => ?_) (fun hc4 h => ?_)
 refine h_o (a := .b true) (h := zae rfl hc4) ?_
 refine z8 ?_
 refine z8 ?_
 refine z8 ?_
 refine z8 ?_
 refine h_o (a := .b true) ?_
 refine zbg ?_
 refine z8 ?_
 refine z8 ?_
 refine z8 ?_
 refine z8 ?_
 refine h_o (a := .b true) ?_
 refine zbg ?_
 refine z8 ?_
 refine z8 ?_
 refine z8 ?_
 refine z8 ?_
 refine z8 ?_
 refine z8 ?_
 refine z8 ?_
 refine z8 ?_
 refine z8 ?_
 refine z8 ?_
 refine z8 ?_
 refine z8 ?_
 refine z8 ?_
 refine z8 ?_
 refine zbq ?_
 refine w_r [.p, .p, .v (.b true)] ?_
 refine za6 rfl ?_
 refine zk [.v (.b false)] ?_
 refine zh h (fun h => ?_)
 replace h := zq h hr2
 refine zh h (fun h => ?_)
 replace h := zq h hr1
 exact zaj h
 refine h_o (a := .b false) (h := zae rfl hc4) ?_
 refine zag rfl rfl ?_
 refine h_o (a := .A (s2.2 : Trc)) ?_
 refine zag rfl rfl ?_
 refine h_o (a := .A ((Trc.mk (sub [x1, x2, x3] 0 s2.1) x4) : Trc)) ?_
 refine zag rfl rfl ?_
 obtain ⟨x7, hx7, h⟩ := zl h
 refine zgr (zpb fuel s2.2 (Trc.mk (sub [x1, x2, x3] 0 s2.1) x4) x7 hx7) ?_
 refine zag rfl rfl ?_
 refine h_o (a := .b (!x7)) ?_
 refine h_o (a := .b (!x7)) ?_
 refine zaa h (fun hc5 h => ?_) (fun hc5 h => ?_)
 refine h_o (a := .b true) (h := zae rfl hc5) ?_
 refine z8 ?_
 refine z8 ?_
 refine z8 ?_
 refine z8 ?_
 refine h_o (a := .b true) ?_
 refine zbg ?_
 refine z8 ?_
 refine z8 ?_
 refine z8 ?_
 refine z8 ?_
 refine z8 ?_
 refine z8 ?_
 refine z8 ?_
 refine z8 ?_
 refine z8 ?_
 refine z8 ?_
 refine z8 ?_
 refine z8 ?_
 refine z8 ?_
 refine z8 ?_
 refine zbq ?_
 refine w_r [.p, .p, .v (.b true)] ?_
 refine za6 rfl ?_
 refine zk [.v (.b false)] ?_
 refine zh h (fun h => ?_)
 replace h := zq h hr2
 refine zh h (fun h => ?_)
 replace h := zq h hr1
 exact zaj h
 refine h_o (a := .b false) (h := zae rfl hc5) ?_
 refine zag rfl rfl ?_
 refine h_o (a := .A ((Trc.mk (sub [x1, x2, x3] 0 s2.1) x4) : Trc)) ?_
 refine zag rfl rfl ?_
 refine h_o (a := .A ((Trc.mk (sub [x1, x2, x3] 0 s2.1) x4) : Trc)) ?_
 refine zag rfl rfl ?_
 obtain ⟨x8, hx8, h⟩ := zl h
 refine zgr (zpb fuel (Trc.mk (sub [x1, x2, x3] 0 s2.1) x4) (Trc.mk (sub [x1, x2, x3] 0 s2.1) x4) x8 hx8) ?_
 refine zag rfl rfl ?_
 refine h_o (a := .b (!x8)) ?_
 refine h_o (a := .b (!x8)) ?_
 refine zaa h (fun hc6 h => ?_) (fun hc6 h => ?_)
 refine h_o (a := .b true) (h := zae rfl hc6) ?_
 refine z8 ?_
 refine z8 ?_
 refine z8 ?_
 refine z8 ?_
 refine z8 ?_
 refine z8 ?_
 refine z8 ?_
 refine z8 ?_
 refine z8 ?_
 refine z8 ?_
 refine z8 ?_
 refine z8 ?_
 refine z8 ?_
 refine z8 ?_
 refine zbq ?_
 refine w_r [.p, .p, .v (.b true)] ?_
 refine za6 rfl ?_
 refine zk [.v (.b false)] ?_
 refine zh h (fun h => ?_)
 replace h := zq h hr2
 refine zh h (fun h => ?_)
 replace h := zq h hr1
 exact zaj h
 refine h_o (a := .b false) (h := zae rfl hc6) ?_
 refine zag rfl rfl ?_
 refine zbg ?_
 refine zag rfl rfl ?_
 refine zbg ?_
 refine zag rfl rfl ?_
 obtain ⟨g7, h⟩ := zf h
 refine zzv (a := .L ((sub [x1, x2, x3] 0 s2.1) : List En)) rfl rfl rfl (zue (α := En) (l := [x1, x2, x3]) g7 rfl rfl rfl rfl rfl) (ziq _ _ _) (by dsimp only [z6, List.set]) ?_
 refine zag rfl rfl ?_
 refine zbg ?_
 refine zag rfl rfl ?_
 obtain ⟨g8, h⟩ := zf h
 obtain ⟨x9, hx9, h⟩ := zo h
 refine zn8 hx9 g8 ?_
 refine zag rfl rfl ?_
 refine h_o (a := .A (x9 : Ed)) ?_
 refine zag rfl rfl ?_
 refine zzv (a := .A ((Trc.mk (sub [x1, x2, x3] 0 s2.1) x9) : Trc)) (a0 := (zqq (Trc.mk (sub [x1, x2, x3] 0 s2.1) x9) .none)) rfl rfl rfl (by kernel_rfl) (zbf _ _) (by dsimp only [z6, List.set]) ?_
 refine zag rfl rfl ?_
 refine zbg ?_
 refine zag rfl rfl ?_
 refine zbg ?_
 refine zag rfl rfl ?_
 refine zbg ?_
 refine zag rfl rfl ?_
 refine h_o (a := .i (Int.tmod s1.1 8)) ?_
 refine zag rfl rfl ?_
 obtain ⟨g9, h⟩ := zf h
 obtain ⟨x10, hx10, h⟩ := zo h
 refine zn8 hx10 g9 ?_
 refine zag rfl rfl ?_
 refine h_o (a := .A (x10 : Ed)) ?_
 refine zag rfl rfl ?_
 refine zzv (a := .A ((Trc.mk [x1, x2, x3] x10) : Trc)) (a0 := (zqq (Trc.mk [x1, x2, x3] x10) .full)) rfl rfl rfl (by kernel_rfl) (zbf _ _) (by dsimp only [z6, List.set]) ?_
 refine zbq ?_
 refine zai rfl rfl ?_
 obtain ⟨x11, hx11, h⟩ := zl h
 refine zbc (zpb fuel (Trc.mk (sub [x1, x2, x3] 0 s2.1) x9) (Trc.mk [x1, x2, x3] x10) x11 hx11) ?_
 refine w_r [.v (.b (!x11)), .v (.b (!x11))] ?_
 refine za3 h (fun hc7 h => ?_) (fun hc7 h => ?_)
 refine zk [.v (.b false)] ?_
 refine zh h (fun h => ?_)
 replace h := zq h hr2
 refine zh h (fun h => ?_)
 replace h := zq h hr1
 exact zaj h
 refine zb3 (k0 := 0) (id := 14) 6 (by kernel_rfl) (by kernel_rfl) ?_
 refine zbg ?_
 refine zbg ?_
 obtain ⟨g10, h⟩ := zf h
 refine zzv (a := .L ((sub [x1, x2, x3] 0 s2.1) : List En)) rfl rfl rfl (zue (α := En) (l := [x1, x2, x3]) g10 rfl rfl rfl rfl rfl) (ziq _ _ _) (by dsimp only [z6, List.set]) ?_
 obtain ⟨g11, h⟩ := zf h
 obtain ⟨x12, hx12, h⟩ := zo h
 refine zgr (args' := [.L ((sub [x1, x2, x3] 0 s2.1) : List En)]) (r := .L (x12 : List En)) (by rw [← hx12]; exact (zkf (sub [x1, x2, x3] 0 s2.1) g11)) ?_
 refine h_o (a := .ptr 1 1) ?_
 refine h_o (a := .A ((Trc.mk (sub [x1, x2, x3] 0 s2.1) x4).e : Ed)) ?_
 refine zbq ?_
 refine zvh (.A ((Trc.mk x12 ((Trc.mk (sub [x1, x2, x3] 0 s2.1) x4).e)) : Trc)) (a0 := (zqq (Trc.mk x12 ((Trc.mk (sub [x1, x2, x3] 0 s2.1) x4).e)) .none)) rfl rfl rfl (by kernel_rfl) (zbf _ _) (by dsimp only [z6, List.set]) ?_
 refine zcg 3 (.B [(27, (Enc.cells ((Trc.mk x12 ((Trc.mk (sub [x1, x2, x3] 0 s2.1) x4).e)) : Trc))), (27, (Enc.cells ((Trc.mk (sub [x1, x2, x3] 0 s2.1) x4) : Trc)))]) ?_
 refine zc (k0 := 0) (id := 15) ?_
 obtain ⟨g12, h⟩ := zf h
 refine zej g12 ?_
 refine zp ?_
 refine zz (p := p2) ((s2.1 + 1), (Trc.mk x12 ((Trc.mk (sub [x1, x2, x3] 0 s2.1) x4).e))) h ?_
 exact zcq (bl 261 3705346855594118253554271520278013051304628875476531769935664069491552426131262) 1 (by kernel_rfl) (Nat.le_of_ble_eq_true rfl) (zco (za0 (zak _ _ (Enc.clo _)) rfl)) (by dsimp only [zbb, zb5, List.foldl, List.set, bz, bzc, Nat.reduceMod, Nat.reduceDiv, Nat.reduceBEq, Nat.reduceAdd]; exact (za rfl (za (zb1 (Enc.cloL _)) (za (zb1 (Enc.cloL _)) (za (by decide) (za rfl (za (zb1 (Enc.cloL _)) (by kernel_rfl)))))))) (by kernel_rfl)
 refine zh h (fun h => ?_)
 refine zg (o := or2) (s2.2) h ?_
 exact zao (bl 261 3705346855594118253554271520278013051304628875476531769935659457805533998743310)
 intro j2 h
 refine zbn ?_
 refine zc (k0 := 0) (id := 16) ?_
 obtain ⟨g13, h⟩ := zf h
 refine zej g13 ?_
 refine zp ?_
 refine zz (p := p1) ((s1.1 + 1), j2) h ?_
 exact zao (bl 261 4398046511118)
 refine zh h (fun h => ?_)
 refine zg (o := or1) (s1.2) h ?_
 exact zao (bl 261 0)
 intro j1 h
 refine zbn ?_
 refine zj (zc ?_)
 refine w_o (a := .F (zw : List (List UInt8))) (h := zv (zcs (α := (List UInt8)) (l := zw) (cs := Enc.cells (([115, 101, 110, 100, 32, 34, 34] : List UInt8) : (List UInt8)) ++ (Enc.cells (([115, 101, 110, 100, 32, 34, 97, 32, 98, 34] : List UInt8) : (List UInt8)) ++ (Enc.cells (([115, 101, 110, 100, 32, 34, 92, 120, 54, 49, 34] : List UInt8) : (List UInt8)) ++ (Enc.cells (([115, 101, 110, 100] : List UInt8) : (List UInt8)) ++ (Enc.cells (([115, 101, 110, 100, 32, 34, 97, 34, 32] : List UInt8) : (List UInt8)) ++ (Enc.cells (([115, 101, 110, 100, 32, 97] : List UInt8) : (List UInt8)) ++ (Enc.cells (([116, 97, 107, 101, 32, 48, 32, 48] : List UInt8) : (List UInt8)) ++ (Enc.cells (([116, 97, 107, 101, 32, 48, 32, 50] : List UInt8) : (List UInt8)) ++ (Enc.cells (([116, 97, 107, 101, 32, 50, 32, 50] : List UInt8) : (List UInt8)) ++ (Enc.cells (([116, 97, 107, 101, 32, 50, 32, 49] : List UInt8) : (List UInt8)) ++ (Enc.cells (([116, 97, 107, 101, 32, 48, 48, 32, 49] : List UInt8) : (List UInt8)) ++ (Enc.cells (([116, 97, 107, 101, 32, 48] : List UInt8) : (List UInt8)) ++ (Enc.cells (([116, 97, 107, 101, 32, 48, 32, 49, 32, 50] : List UInt8) : (List UInt8)) ++ (Enc.cells (([116, 97, 107, 101, 32, 48, 32, 32, 49] : List UInt8) : (List UInt8)) ++ (Enc.cells (([116, 97, 107, 101, 32, 43, 48, 32, 49] : List UInt8) : (List UInt8)) ++ (Enc.cells (([108, 111, 115, 101, 32, 48, 32, 50] : List UInt8) : (List UInt8)) ++ (Enc.cells (([108, 111, 115, 101, 32, 50, 32, 50] : List UInt8) : (List UInt8)) ++ (Enc.cells (([108, 111, 115, 101, 32, 50, 32, 49, 48, 55, 51, 55, 52, 49, 56, 50, 52] : List UInt8) : (List UInt8)) ++ (Enc.cells (([108, 111, 115, 101, 32, 50, 32, 49, 48, 55, 51, 55, 52, 49, 56, 50, 53] : List UInt8) : (List UInt8)) ++ (Enc.cells (([108, 111, 115, 101, 32, 48, 32, 57, 57, 57, 57, 57, 57, 57, 57, 57, 57, 57, 57, 57, 57, 57, 57, 57, 57, 57, 57] : List UInt8) : (List UInt8)) ++ (Enc.cells (([114, 117, 110, 110, 105, 110, 103] : List UInt8) : (List UInt8)) ++ (Enc.cells (([114, 117, 110, 110, 105, 110, 103, 32, 48] : List UInt8) : (List UInt8)) ++ (Enc.cells (([101, 120, 105, 116, 32, 48] : List UInt8) : (List UInt8)) ++ (Enc.cells (([101, 120, 105, 116, 32, 50, 53, 53] : List UInt8) : (List UInt8)) ++ (Enc.cells (([101, 120, 105, 116, 32, 50, 53, 54] : List UInt8) : (List UInt8)) ++ (Enc.cells (([101, 120, 105, 116, 32, 48, 55] : List UInt8) : (List UInt8)) ++ (Enc.cells (([101, 120, 105, 116] : List UInt8) : (List UInt8)) ++ (Enc.cells (([101, 120, 105, 116, 32, 45, 49] : List UInt8) : (List UInt8)) ++ (Enc.cells (([101, 111, 102] : List UInt8) : (List UInt8)) ++ (Enc.cells (([102, 117, 101, 108] : List UInt8) : (List UInt8)) ++ (Enc.cells (([115, 105, 122, 101] : List UInt8) : (List UInt8)) ++ (Enc.cells (([] : List UInt8) : (List UInt8)) ++ (Enc.cells (([32] : List UInt8) : (List UInt8)) ++ (Enc.cells (([100, 111, 110, 101] : List UInt8) : (List UInt8)) ++ [])))))))))))))))))))))))))))))))))) (by kernel_rfl) (by unfold zw; rw [Enc.cons, Enc.cons, Enc.cons, Enc.cons, Enc.cons, Enc.cons, Enc.cons, Enc.cons, Enc.cons, Enc.cons, Enc.cons, Enc.cons, Enc.cons, Enc.cons, Enc.cons, Enc.cons, Enc.cons, Enc.cons, Enc.cons, Enc.cons, Enc.cons, Enc.cons, Enc.cons, Enc.cons, Enc.cons, Enc.cons, Enc.cons, Enc.cons, Enc.cons, Enc.cons, Enc.cons, Enc.cons, Enc.cons, Enc.cons, Enc.nil]))) ?_
 refine zp ?_
 refine zaf h (bz 0 184 24519928653854221712465904501846292971438912990452127489) (fun j3 => []) (fun j3 => (.B [(27, (Enc.cells (j1 : Trc)))])) ?_ ?_
 intro or3 h hr3
 refine zk [.m _, .v (.i (List.length zw : Int)), .v (.i 0)] ?_
 refine zr ?_
 refine zap h (bz 0 184 24519928653854221627395312771611677105595261132510074369) (fun s3 => [(127, .i s3)]) (fun s3 => (.B [(27, (Enc.cells (j1 : Trc)))])) ?_ ?_
 exact zao (bl 261 3705346855594118253554247000349359197083182255171186906817268780295803522509310)
 intro s3 p3 h
 refine zbn ?_
 refine zk [.v (.b (decide (s3 < (List.length zw : Int))))] ?_
 refine zj ?_
 refine za3 h (fun hc8 h => ?_) (fun hc8 h => ?_)
 refine zaf h (bz 0 183 12259964326927110526584409296264010005575305545700611585) (fun j4 => []) (fun j4 => (.B [(27, (Enc.cells (j1 : Trc)))])) ?_ ?_
 intro or4 h hr4
 refine zr ?_
 refine zk [.m _, .m _] ?_
 refine zk [.m _, .v (.i (List.length zw : Int)), .v (.i 0)] ?_
 refine zr ?_
 refine zap h (bz 0 183 12259964326927107804325473928756302298578446091554919425) (fun s4 => [(132, .i s4)]) (fun s4 => (.B [(27, (Enc.cells (j1 : Trc)))])) ?_ ?_
 exact zao (bl 261 3705346855594118253554259260313686124202279701697304308375758103526036884941822)
 intro s4 p4 h
 refine zbn ?_
 refine zk [.v (.b (decide (s4 < (List.length zw : Int))))] ?_
 refine zj ?_
 refine za3 h (fun hc9 h => ?_) (fun hc9 h => ?_)
 refine zaf h (bz 0 182 6129982163463544544397646638570405906487518672151647233) (fun j5 => []) (fun j5 => (.B [(27, (Enc.cells (j1 : Trc)))])) ?_ ?_
 intro or5 h hr5
 refine zr ?_
 refine zk [.m _, .m _] ?_
 refine zj ?_
 refine zb3 (k0 := 0) (id := 24) 40 (by kernel_rfl) (by kernel_rfl) ?_
 refine zbg ?_
 refine zbg ?_
 obtain ⟨g14, h⟩ := zf h
 obtain ⟨x13, hx13, h⟩ := zo h
 refine zn8 hx13 g14 ?_
 refine h_o (a := .s x13) ?_
 obtain ⟨g15, h⟩ := zf h
 refine h_o (a := .s (x13 ++ ([10] : List UInt8))) (h := zad g15 rfl rfl rfl) ?_
 refine zbg ?_
 refine zbg ?_
 obtain ⟨g16, h⟩ := zf h
 obtain ⟨x14, hx14, h⟩ := zo h
 refine zn8 hx14 g16 ?_
 refine h_o (a := .s x14) ?_
 obtain ⟨g17, h⟩ := zf h
 refine h_o (a := .s (x14 ++ ([10] : List UInt8))) (h := zad g17 rfl rfl rfl) ?_
 refine zbg ?_
 refine zbg ?_
 obtain ⟨g18, h⟩ := zf h
 obtain ⟨x15, hx15, h⟩ := zo h
 refine zn8 hx15 g18 ?_
 refine h_o (a := .s x15) ?_
 obtain ⟨g19, h⟩ := zf h
 refine h_o (a := .s ((x14 ++ ([10] : List UInt8)) ++ x15)) (h := zad g19 rfl rfl rfl) ?_
 obtain ⟨g20, h⟩ := zf h
 refine h_o (a := .s (((x14 ++ ([10] : List UInt8)) ++ x15) ++ ([10] : List UInt8))) (h := zad g20 rfl rfl rfl) ?_
 refine zbg ?_
 refine zbg ?_
 obtain ⟨g21, h⟩ := zf h
 obtain ⟨x16, hx16, h⟩ := zo h
 refine zn8 hx16 g21 ?_
 refine h_o (a := .s x16) ?_
 obtain ⟨g22, h⟩ := zf h
 refine h_o (a := .s (x16 ++ ([10] : List UInt8))) (h := zad g22 rfl rfl rfl) ?_
 refine zbg ?_
 refine zbg ?_
 obtain ⟨g23, h⟩ := zf h
 obtain ⟨x17, hx17, h⟩ := zo h
 refine zn8 hx17 g23 ?_
 refine h_o (a := .s x17) ?_
 obtain ⟨g24, h⟩ := zf h
 refine h_o (a := .s ((x16 ++ ([10] : List UInt8)) ++ x17)) (h := zad g24 rfl rfl rfl) ?_
 obtain ⟨g25, h⟩ := zf h
 refine h_o (a := .s (((x16 ++ ([10] : List UInt8)) ++ x17) ++ ([10, 101, 111, 102, 10] : List UInt8))) (h := zad g25 rfl rfl rfl) ?_
 refine zbg ?_
 refine zbg ?_
 obtain ⟨g26, h⟩ := zf h
 obtain ⟨x18, hx18, h⟩ := zo h
 refine zn8 hx18 g26 ?_
 refine h_o (a := .s x18) ?_
 obtain ⟨g27, h⟩ := zf h
 refine h_o (a := .s (x18 ++ ([10] : List UInt8))) (h := zad g27 rfl rfl rfl) ?_
 refine zbg ?_
 refine zbg ?_
 obtain ⟨g28, h⟩ := zf h
 obtain ⟨x19, hx19, h⟩ := zo h
 refine zn8 hx19 g28 ?_
 refine h_o (a := .s x19) ?_
 obtain ⟨g29, h⟩ := zf h
 refine h_o (a := .s ((x18 ++ ([10] : List UInt8)) ++ x19)) (h := zad g29 rfl rfl rfl) ?_
 refine h_o (a := .F ([(x13 ++ ([10] : List UInt8)), (((x14 ++ ([10] : List UInt8)) ++ x15) ++ ([10] : List UInt8)), (((x16 ++ ([10] : List UInt8)) ++ x17) ++ ([10, 101, 111, 102, 10] : List UInt8)), ((x18 ++ ([10] : List UInt8)) ++ x19)] : List (List UInt8))) (h := zcs (α := (List UInt8)) (l := [(x13 ++ ([10] : List UInt8)), (((x14 ++ ([10] : List UInt8)) ++ x15) ++ ([10] : List UInt8)), (((x16 ++ ([10] : List UInt8)) ++ x17) ++ ([10, 101, 111, 102, 10] : List UInt8)), ((x18 ++ ([10] : List UInt8)) ++ x19)]) (cs := Enc.cells ((x13 ++ ([10] : List UInt8)) : (List UInt8)) ++ (Enc.cells ((((x14 ++ ([10] : List UInt8)) ++ x15) ++ ([10] : List UInt8)) : (List UInt8)) ++ (Enc.cells ((((x16 ++ ([10] : List UInt8)) ++ x17) ++ ([10, 101, 111, 102, 10] : List UInt8)) : (List UInt8)) ++ (Enc.cells (((x18 ++ ([10] : List UInt8)) ++ x19) : (List UInt8)) ++ [])))) (by kernel_rfl) (by rw [Enc.cons, Enc.cons, Enc.cons, Enc.cons, Enc.nil])) ?_
 refine h_o (a := .i (List.length [(x13 ++ ([10] : List UInt8)), (((x14 ++ ([10] : List UInt8)) ++ x15) ++ ([10] : List UInt8)), (((x16 ++ ([10] : List UInt8)) ++ x17) ++ ([10, 101, 111, 102, 10] : List UInt8)), ((x18 ++ ([10] : List UInt8)) ++ x19)] : Int)) ?_
 refine h_o (a := .i 0) ?_
 refine zbq ?_
 refine zr ?_
 refine zap h (bz 0 182 6112023231344022409338759759345988220741986573063558145) (fun s5 => [(174, .i s5)]) (fun s5 => (.B [(27, (Enc.cells (j1 : Trc)))])) ?_ ?_
 exact zao (bl 261 3705346855594118253554265432200024533311743582389911002498002940309445869038590)
 intro s5 p5 h
 refine zbn ?_
 refine zk [.v (.b (decide (s5 < (List.length [(x13 ++ ([10] : List UInt8)), (((x14 ++ ([10] : List UInt8)) ++ x15) ++ ([10] : List UInt8)), (((x16 ++ ([10] : List UInt8)) ++ x17) ++ ([10, 101, 111, 102, 10] : List UInt8)), ((x18 ++ ([10] : List UInt8)) ++ x19)] : Int))))] ?_
 refine zj ?_
 refine za3 h (fun hc10 h => ?_) (fun hc10 h => ?_)
 refine zj ?_
 refine zr ?_
 refine zj (zc ?_)
 obtain ⟨g30, h⟩ := zf h
 obtain ⟨x20, hx20, h⟩ := zo h
 refine zpi hx20 g30 ?_
 refine w_r [.v (.s x20), .m _] ?_
 refine zk [.m _] ?_
 obtain ⟨x21, hx21, h⟩ := zl h
 refine zbc (ztc fuel x20 x21 hx21) ?_
 refine w_o (a := .b (!x21)) ?_
 refine za3 h (fun hc11 h => ?_) (fun hc11 h => ?_)
 refine zk [.v (.b false)] ?_
 refine zh h (fun h => ?_)
 replace h := zq h hr5
 refine zh h (fun h => ?_)
 replace h := zq h hr4
 refine zh h (fun h => ?_)
 replace h := zq h hr3
 exact zaj h
 refine zc (k0 := 0) (id := 29) ?_
 obtain ⟨g31, h⟩ := zf h
 refine zej g31 ?_
 refine zp ?_
 refine zz (p := p5) ((s5 + 1)) h ?_
 exact zao (bl 261 3705346855594118253554265432200024533311743582389911002498002940309445869038590)
 refine zh h (fun h => ?_)
 refine zg (o := or5) () h ?_
 exact zao (bl 261 3705346855594118253554265390295849587760095111653859478856736200734547996830718)
 intro j5 h
 refine zbn ?_
 refine zc (k0 := 0) (id := 30) ?_
 obtain ⟨g32, h⟩ := zf h
 refine zej g32 ?_
 refine zp ?_
 refine zz (p := p4) ((s4 + 1)) h ?_
 exact zao (bl 261 3705346855594118253554259260313686124202279701697304308375758103526036884941822)
 refine zh h (fun h => ?_)
 refine zg (o := or4) () h ?_
 exact zao (bl 261 3705346855594118253554259260313686124194112924891201785252637112947674447866366)
 intro j4 h
 refine zbn ?_
 refine zc (k0 := 0) (id := 31) ?_
 obtain ⟨g33, h⟩ := zf h
 refine zej g33 ?_
 refine zp ?_
 refine zz (p := p3) ((s3 + 1)) h ?_
 exact zao (bl 261 3705346855594118253554247000349359197083182255171186906817268780295803522509310)
 refine zh h (fun h => ?_)
 refine zg (o := or3) () h ?_
 exact zao (bl 261 3705346855594118253554247000349359197082927043395996202969671249340229696350462)
 intro j3 h
 refine zbn ?_
 refine zaf h (bz 0 228 431359146674385716786018387170580357225759905813711259871702826532865) (fun j6 => []) (fun j6 => (.B [(27, (Enc.cells (j1 : Trc)))])) ?_ ?_
 intro or6 h hr6
 refine zj (zc ?_)
 refine w_o (a := .F (zbd : List Int)) (h := zv (zcs (α := Int) (l := zbd) (cs := Enc.cells ((-9223372036854775808) : Int) ++ (Enc.cells ((-1) : Int) ++ (Enc.cells (0 : Int) ++ (Enc.cells (1073741824 : Int) ++ (Enc.cells (1073741825 : Int) ++ (Enc.cells (9223372036854775807 : Int) ++ [])))))) (by kernel_rfl) (by unfold zbd; rw [Enc.cons, Enc.cons, Enc.cons, Enc.cons, Enc.cons, Enc.cons, Enc.nil]))) ?_
 refine w_r [.v (.i (List.length zbd : Int)), .v (.i 0)] ?_
 refine zr ?_
 refine zap h (bz 0 228 431359146674312157000056824505379156568456690972897560393838013628417) (fun s6 => [(186, .i s6)]) (fun s6 => (.B [(27, (Enc.cells (j1 : Trc)))])) ?_ ?_
 exact zao (bl 261 3705346855162759106880057442992571643686195286941778978077496727163201885388798)
 intro s6 p6 h
 refine zbn ?_
 refine zk [.v (.b (decide (s6 < (List.length zbd : Int))))] ?_
 refine zj ?_
 refine za3 h (fun hc12 h => ?_) (fun hc12 h => ?_)
 refine zaf h (bz 0 227 215679573337008958928105286922287176969621915804821381241189381095425) (fun j7 => []) (fun j7 => (.B [(27, (Enc.cells (j1 : Trc)))])) ?_ ?_
 intro or7 h hr7
 refine zr ?_
 refine zj (zc ?_)
 obtain ⟨g34, h⟩ := zf h
 obtain ⟨x22, hx22, h⟩ := zo h
 refine zpi hx22 g34 ?_
 refine w_r [.v (.i x22), .m _] ?_
 refine zk [.v (.u 0)] ?_
 refine zr ?_
 refine zap h (bz 0 227 215679573337008958928105286922287176969621915804821381241189381079041) (fun s7 => [(190, .u s7)]) (fun s7 => (.B [(27, (Enc.cells (j1 : Trc)))])) ?_ ?_
 exact zao (bl 261 3705346855378438680218831836783754434573311279686678050061846895873146776027134)
 intro s7 p7 h
 refine zbn ?_
 refine zk [.v (.b (decide (s7 < 5)))] ?_
 refine zj ?_
 refine za3 h (fun hc13 h => ?_) (fun hc13 h => ?_)
 refine zaf h (bz 0 226 107839786665464008310974719966160627982944744482111112202182423904257) (fun j8 => []) (fun j8 => (.B [(27, (Enc.cells (j1 : Trc)))])) ?_ ?_
 intro or8 h hr8
 refine zr ?_
 refine zk [.m _, .m _] ?_
 obtain ⟨g35, h⟩ := zf h
 obtain ⟨g36, h⟩ := zf h
 refine zc8 (id := 38) [.top, .top, .top, .top, .top, .top, .top, .top, .top, .top, .top, .top, .top, .top, .i x22, .u s7, .top, .top, .top, .top, .top, .top, .top, .top, .top, .top, .top, .top, .top, .top, .top, .top, .top, .top, .top, .top, .top, .top, .top, .top, .top, .top, .top, .top, .top, .top, .top, .top, .top, .top, .top, .top, .top, .top, .top, .top, .top, .top, .top, .top, .top, .top, .top, .top, .top, .top, .top, .top, .top, .top, .top, .top, .top, .top, .top, .top, .top, .top, .top, .top, .top, .top, .top, .top, .top, .top, .top, .top, .top, .top, .top, .top, .top, .top, .top, .top, .top, .top, .top, .top, .top, .top, .top, .top, .top, .top, .top, .top, .top, .top, .top, .top, .top, .top, .top, .top, .top, .top, .top, .top, .top, .top, .top, .top, .top, .top, .top, .top, .top, .top, .top, .top, .top, .top, .top, .top, .top, .top, .top, .top, .top, .top, .top, .top, .top, .top, .top, .top, .top, .top, .top, .top, .top, .top, .top, .top, .top, .top, .top, .top, .top, .top, .top, .top, .top, .top, .top, .top, .top, .top, .top, .top, .top, .top, .top, .top, .top, .top, .top, .top, .top, .top, .top, .top, .F (zbd : List Int), .i (List.length zbd : Int), .i s6, .top, .top, .top, .u s7, .b (decide (s7 < 5)), .u s7, .L ((List.replicate (Int.toNat (512 : Int)) (0 : UInt8)) : List UInt8), .s (List.replicate (Int.toNat (512 : Int)) (0 : UInt8)), .L ((List.replicate (Int.toNat (513 : Int)) (0 : UInt8)) : List UInt8), .s (List.replicate (Int.toNat (513 : Int)) (0 : UInt8)), .F ([([] : List UInt8), ([120] : List UInt8), (List.replicate (Int.toNat (512 : Int)) (0 : UInt8)), (List.replicate (Int.toNat (513 : Int)) (0 : UInt8))] : List (List UInt8)), .i (List.length [([] : List UInt8), ([120] : List UInt8), (List.replicate (Int.toNat (512 : Int)) (0 : UInt8)), (List.replicate (Int.toNat (513 : Int)) (0 : UInt8))] : Int), .i 0, .top, .top, .top, .top, .top, .top, .top, .top, .top, .top, .top, .top, .top, .top, .top, .top, .top, .top, .top, .top, .top, .top, .top, .top, .top, .top, .top, .top, .top, .top, .top, .top, .top, .top, .top, .top, .top, .top, .top, .top, .top, .top, .top, .top, .top, .top, .top, .top, .top, .top, .top, .top, .top, .top, .top, .top, .top, .top, .top, .top, .top] (.B [(27, (Enc.cells (j1 : Trc)))]) ?_ ?_
 refine zbs (fun ops hops FIN hFIN S0 hS0 => ?_)
 let v199 : AV := .i 0
 let v194 : AV := .s (List.replicate (Int.toNat (512 : Int)) (0 : UInt8))
 let v196 : AV := .s (List.replicate (Int.toNat (513 : Int)) (0 : UInt8))
 let v197 : AV := .F ([([] : List UInt8), ([120] : List UInt8), (List.replicate (Int.toNat (512 : Int)) (0 : UInt8)), (List.replicate (Int.toNat (513 : Int)) (0 : UInt8))] : List (List UInt8))
 let v198 : AV := .i (List.length [([] : List UInt8), ([120] : List UInt8), (List.replicate (Int.toNat (512 : Int)) (0 : UInt8)), (List.replicate (Int.toNat (513 : Int)) (0 : UInt8))] : Int)
 let G0 : St := (.B [(27, (Enc.cells (j1 : Trc)))])
 obtain ⟨ps, hps⟩ : ∃ ps : List (Option (Nat × AV)), ps = [some (193, .L ((List.replicate (Int.toNat (512 : Int)) (0 : UInt8)) : List UInt8)), some (194, v194), some (195, .L ((List.replicate (Int.toNat (513 : Int)) (0 : UInt8)) : List UInt8)), some (196, v196), some (197, v197), some (198, v198), some (199, v199)] := ⟨_, rfl⟩
 let N : Nat → Nat → St → Prop := fun k m σ => aN (ITP Tryz.prog) Tryz.prog none ops FIN S0 ps 7 k m σ
 have n21 : N 0 127 G0 := by
  exact zu5 hops hS0 hps (hFIN _ _ (Wk.refl _ _ _))
 have n20 : N 1 95 G0 := by
  refine zan hops hS0 hps 5 ?_
  refine w_o (a := v198) ?_
  exact zb n21 hS0 hps
 have n19 : N 1 63 G0 := by
  refine zan hops hS0 hps 6 ?_
  refine w_o (a := v199) ?_
  exact zb n21 hS0 hps
 have n18 : N 2 79 G0 := by
  refine zan hops hS0 hps 4 ?_
  refine w_o (a := v197) (h := zv (zcs (α := (List UInt8)) (l := [([] : List UInt8), ([120] : List UInt8), (List.replicate (Int.toNat (512 : Int)) (0 : UInt8)), (List.replicate (Int.toNat (513 : Int)) (0 : UInt8))]) (cs := Enc.cells (([] : List UInt8) : (List UInt8)) ++ (Enc.cells (([120] : List UInt8) : (List UInt8)) ++ (Enc.cells ((List.replicate (Int.toNat (512 : Int)) (0 : UInt8)) : (List UInt8)) ++ (Enc.cells ((List.replicate (Int.toNat (513 : Int)) (0 : UInt8)) : (List UInt8)) ++ [])))) (by kernel_rfl) (by rw [Enc.cons, Enc.cons, Enc.cons, Enc.cons, Enc.nil]))) ?_
  exact zb n20 hS0 hps
 have n17 : N 2 31 G0 := by
  refine zab hops hS0 hps 5 6 ?_ ?_
  refine w_o (a := v198) ?_
  exact zb n19 hS0 hps
  refine w_o (a := v199) ?_
  exact zb n20 hS0 hps
 have n16 : N 3 77 G0 := by
  refine zan hops hS0 hps 1 ?_
  refine w_o (a := v194) (h := zv (zdc (l := (List.replicate (Int.toNat (512 : Int)) (0 : UInt8))) rfl rfl ⟨rfl, rfl⟩ rfl)) ?_
  exact zb n18 hS0 hps
 have n15 : N 3 71 G0 := by
  refine zan hops hS0 hps 3 ?_
  refine w_o (a := v196) (h := zv (zdc (l := (List.replicate (Int.toNat (513 : Int)) (0 : UInt8))) rfl rfl ⟨rfl, rfl⟩ rfl)) ?_
  exact zb n18 hS0 hps
 have n14 : N 3 15 G0 := by
  refine zab hops hS0 hps 4 6 ?_ ?_
  refine w_o (a := v197) (h := zv (zcs (α := (List UInt8)) (l := [([] : List UInt8), ([120] : List UInt8), (List.replicate (Int.toNat (512 : Int)) (0 : UInt8)), (List.replicate (Int.toNat (513 : Int)) (0 : UInt8))]) (cs := Enc.cells (([] : List UInt8) : (List UInt8)) ++ (Enc.cells (([120] : List UInt8) : (List UInt8)) ++ (Enc.cells ((List.replicate (Int.toNat (512 : Int)) (0 : UInt8)) : (List UInt8)) ++ (Enc.cells ((List.replicate (Int.toNat (513 : Int)) (0 : UInt8)) : (List UInt8)) ++ [])))) (by kernel_rfl) (by rw [Enc.cons, Enc.cons, Enc.cons, Enc.cons, Enc.nil]))) ?_
  exact zb n17 hS0 hps
  refine w_o (a := v199) ?_
  exact zb n18 hS0 hps
 have n13 : N 4 76 G0 := by
  refine zan hops hS0 hps 0 ?_
  refine zdi (α := UInt8) (by' := 1) (0 : UInt8) g35 (zek (Enc.clo _) rfl) rfl rfl rfl rfl rfl rfl rfl rfl rfl rfl rfl rfl rfl ⟨rfl, by decide⟩ (by dsimp only [z6, List.set]) ?_
  exact zb n16 hS0 hps
 have n12 : N 4 69 G0 := by
  refine zab hops hS0 hps 1 3 ?_ ?_
  refine w_o (a := v194) (h := zv (zdc (l := (List.replicate (Int.toNat (512 : Int)) (0 : UInt8))) rfl rfl ⟨rfl, rfl⟩ rfl)) ?_
  exact zb n15 hS0 hps
  refine w_o (a := v196) (h := zv (zdc (l := (List.replicate (Int.toNat (513 : Int)) (0 : UInt8))) rfl rfl ⟨rfl, rfl⟩ rfl)) ?_
  exact zb n16 hS0 hps
 have n11 : N 4 13 G0 := by
  refine zab hops hS0 hps 1 6 ?_ ?_
  refine w_o (a := v194) (h := zv (zdc (l := (List.replicate (Int.toNat (512 : Int)) (0 : UInt8))) rfl rfl ⟨rfl, rfl⟩ rfl)) ?_
  exact zb n14 hS0 hps
  refine w_o (a := v199) ?_
  exact zb n16 hS0 hps
 have n10 : N 4 67 G0 := by
  refine zan hops hS0 hps 2 ?_
  refine zdi (α := UInt8) (by' := 1) (0 : UInt8) g36 (zek (Enc.clo _) rfl) rfl rfl rfl rfl rfl rfl rfl rfl rfl rfl rfl rfl rfl ⟨rfl, by decide⟩ (by dsimp only [z6, List.set]) ?_
  exact zb n15 hS0 hps
 have n9 : N 4 7 G0 := by
  refine zab hops hS0 hps 3 6 ?_ ?_
  refine w_o (a := v196) (h := zv (zdc (l := (List.replicate (Int.toNat (513 : Int)) (0 : UInt8))) rfl rfl ⟨rfl, rfl⟩ rfl)) ?_
  exact zb n14 hS0 hps
  refine w_o (a := v199) ?_
  exact zb n15 hS0 hps
 have n8 : N 5 68 G0 := by
  refine zab hops hS0 hps 0 3 ?_ ?_
  refine zdi (α := UInt8) (by' := 1) (0 : UInt8) g35 (zek (Enc.clo _) rfl) rfl rfl rfl rfl rfl rfl rfl rfl rfl rfl rfl rfl rfl ⟨rfl, by decide⟩ (by dsimp only [z6, List.set]) ?_
  exact zb n12 hS0 hps
  refine w_o (a := v196) (h := zv (zdc (l := (List.replicate (Int.toNat (513 : Int)) (0 : UInt8))) rfl rfl ⟨rfl, rfl⟩ rfl)) ?_
  exact zb n13 hS0 hps
 have n7 : N 5 12 G0 := by
  refine zab hops hS0 hps 0 6 ?_ ?_
  refine zdi (α := UInt8) (by' := 1) (0 : UInt8) g35 (zek (Enc.clo _) rfl) rfl rfl rfl rfl rfl rfl rfl rfl rfl rfl rfl rfl rfl ⟨rfl, by decide⟩ (by dsimp only [z6, List.set]) ?_
  exact zb n11 hS0 hps
  refine w_o (a := v199) ?_
  exact zb n13 hS0 hps
 have n6 : N 5 65 G0 := by
  refine zab hops hS0 hps 1 2 ?_ ?_
  refine w_o (a := v194) (h := zv (zdc (l := (List.replicate (Int.toNat (512 : Int)) (0 : UInt8))) rfl rfl ⟨rfl, rfl⟩ rfl)) ?_
  exact zb n10 hS0 hps
  refine zdi (α := UInt8) (by' := 1) (0 : UInt8) g36 (zek (Enc.clo _) rfl) rfl rfl rfl rfl rfl rfl rfl rfl rfl rfl rfl rfl rfl ⟨rfl, by decide⟩ (by dsimp only [z6, List.set]) ?_
  exact zb n12 hS0 hps
 have n5 : N 5 5 G0 := by
  refine zdy hops hS0 hps 1 3 6 ?_ ?_ ?_
  refine w_o (a := v194) (h := zv (zdc (l := (List.replicate (Int.toNat (512 : Int)) (0 : UInt8))) rfl rfl ⟨rfl, rfl⟩ rfl)) ?_
  exact zb n9 hS0 hps
  refine w_o (a := v196) (h := zv (zdc (l := (List.replicate (Int.toNat (513 : Int)) (0 : UInt8))) rfl rfl ⟨rfl, rfl⟩ rfl)) ?_
  exact zb n11 hS0 hps
  refine w_o (a := v199) ?_
  exact zb n12 hS0 hps
 have n4 : N 5 3 G0 := by
  refine zab hops hS0 hps 2 6 ?_ ?_
  refine zdi (α := UInt8) (by' := 1) (0 : UInt8) g36 (zek (Enc.clo _) rfl) rfl rfl rfl rfl rfl rfl rfl rfl rfl rfl rfl rfl rfl ⟨rfl, by decide⟩ (by dsimp only [z6, List.set]) ?_
  exact zb n9 hS0 hps
  refine w_o (a := v199) ?_
  exact zb n10 hS0 hps
 have n3 : N 6 64 G0 := by
  refine zab hops hS0 hps 0 2 ?_ ?_
  refine zdi (α := UInt8) (by' := 1) (0 : UInt8) g35 (zek (Enc.clo _) rfl) rfl rfl rfl rfl rfl rfl rfl rfl rfl rfl rfl rfl rfl ⟨rfl, by decide⟩ (by dsimp only [z6, List.set]) ?_
  exact zb n6 hS0 hps
  refine zdi (α := UInt8) (by' := 1) (0 : UInt8) g36 (zek (Enc.clo _) rfl) rfl rfl rfl rfl rfl rfl rfl rfl rfl rfl rfl rfl rfl ⟨rfl, by decide⟩ (by dsimp only [z6, List.set]) ?_
  exact zb n8 hS0 hps
 have n2 : N 6 4 G0 := by
  refine zdy hops hS0 hps 0 3 6 ?_ ?_ ?_
  refine zdi (α := UInt8) (by' := 1) (0 : UInt8) g35 (zek (Enc.clo _) rfl) rfl rfl rfl rfl rfl rfl rfl rfl rfl rfl rfl rfl rfl ⟨rfl, by decide⟩ (by dsimp only [z6, List.set]) ?_
  exact zb n5 hS0 hps
  refine w_o (a := v196) (h := zv (zdc (l := (List.replicate (Int.toNat (513 : Int)) (0 : UInt8))) rfl rfl ⟨rfl, rfl⟩ rfl)) ?_
  exact zb n7 hS0 hps
  refine w_o (a := v199) ?_
  exact zb n8 hS0 hps
 have n1 : N 6 1 G0 := by
  refine zdy hops hS0 hps 1 2 6 ?_ ?_ ?_
  refine w_o (a := v194) (h := zv (zdc (l := (List.replicate (Int.toNat (512 : Int)) (0 : UInt8))) rfl rfl ⟨rfl, rfl⟩ rfl)) ?_
  exact zb n4 hS0 hps
  refine zdi (α := UInt8) (by' := 1) (0 : UInt8) g36 (zek (Enc.clo _) rfl) rfl rfl rfl rfl rfl rfl rfl rfl rfl rfl rfl rfl rfl ⟨rfl, by decide⟩ (by dsimp only [z6, List.set]) ?_
  exact zb n5 hS0 hps
  refine w_o (a := v199) ?_
  exact zb n6 hS0 hps
 have n0 : N 7 0 G0 := by
  refine zdy hops hS0 hps 0 2 6 ?_ ?_ ?_
  refine zdi (α := UInt8) (by' := 1) (0 : UInt8) g35 (zek (Enc.clo _) rfl) rfl rfl rfl rfl rfl rfl rfl rfl rfl rfl rfl rfl rfl ⟨rfl, by decide⟩ (by dsimp only [z6, List.set]) ?_
  exact zb n1 hS0 hps
  refine zdi (α := UInt8) (by' := 1) (0 : UInt8) g36 (zek (Enc.clo _) rfl) rfl rfl rfl rfl rfl rfl rfl rfl rfl rfl rfl rfl rfl ⟨rfl, by decide⟩ (by dsimp only [z6, List.set]) ?_
  exact zb n2 hS0 hps
  refine w_o (a := v199) ?_
  exact zb n3 hS0 hps
 exact zc1 n0 hps
 refine zr ?_
 refine zap h (bz 0 226 107839786062862241713853366637924843355008768536284989533635110633473) (fun s8 => [(199, .i s8)]) (fun s8 => (.B [(27, (Enc.cells (j1 : Trc)))])) ?_ ?_
 exact zao (bl 261 3705346855486278468294878300693654822437695712116070581987459195610981455495166)
 intro s8 p8 h
 refine zbn ?_
 refine zk [.v (.b (decide (s8 < (List.length [([] : List UInt8), ([120] : List UInt8), (List.replicate (Int.toNat (512 : Int)) (0 : UInt8)), (List.replicate (Int.toNat (513 : Int)) (0 : UInt8))] : Int))))] ?_
 refine zj ?_
 refine za3 h (fun hc14 h => ?_) (fun hc14 h => ?_)
 refine zj ?_
 refine zr ?_
 refine zj (zc ?_)
 obtain ⟨g37, h⟩ := zf h
 obtain ⟨x23, hx23, h⟩ := zo h
 refine zpi hx23 g37 ?_
 refine w_r [.v (.s x23), .m _] ?_
 refine zk [.m _, .m _, .m _, .v (.A ((En.mk s7 0 x22 x23) : En))] ?_
 refine w_o (a := .F ([(En.mk s7 0 x22 x23)] : List En)) (h := zv (zcs (α := En) (l := [(En.mk s7 0 x22 x23)]) (cs := Enc.cells ((En.mk s7 0 x22 x23) : En) ++ []) rfl (by rw [Enc.cons, Enc.nil]))) ?_
 refine w_r [.m _, .m _, .v (.A ((Ed.mk s7 x22) : Ed))] ?_
 refine zvh (.A ((Trc.mk [(En.mk s7 0 x22 x23)] (Ed.mk s7 x22)) : Trc)) (a0 := (zqq (Trc.mk [(En.mk s7 0 x22 x23)] (Ed.mk s7 x22)) .full)) rfl rfl rfl (by kernel_rfl) (zbf _ _) (by dsimp only [z6, List.set]) ?_
 obtain ⟨x24, hx24, h⟩ := zl h
 refine zbc (zqp fuel (Trc.mk [(En.mk s7 0 x22 x23)] (Ed.mk s7 x22)) x24 hx24) ?_
 refine w_o (a := .b (!x24)) ?_
 refine zaa h (fun hc15 h => ?_) (fun hc15 h => ?_)
 refine zar hc15 ?_
 refine w_r [.p, .p, .p, .p, .p] ?_
 refine w_r [.p, .p, .p, .p, .v (.b true)] ?_
 refine za6 rfl ?_
 refine zk [.v (.b false)] ?_
 refine zh h (fun h => ?_)
 replace h := zq h hr8
 refine zh h (fun h => ?_)
 replace h := zq h hr7
 refine zh h (fun h => ?_)
 replace h := zq h hr6
 exact zaj h
 refine zar hc15 ?_
 refine w_r [.m _, .m _, .m _, .v (.A ((En.mk s7 x22 x22 []) : En))] ?_
 refine zai rfl rfl ?_
 refine w_o (a := .F ([(En.mk s7 x22 x22 [])] : List En)) (h := zv (zcs (α := En) (l := [(En.mk s7 x22 x22 [])]) (cs := Enc.cells ((En.mk s7 x22 x22 []) : En) ++ []) rfl (by rw [Enc.cons, Enc.nil]))) ?_
 refine zai rfl rfl ?_
 refine w_o (a := .A ((Ed.mk 3 0) : Ed)) ?_
 refine zai rfl rfl ?_
 refine zvh (.A ((Trc.mk [(En.mk s7 x22 x22 [])] (Ed.mk 3 0)) : Trc)) (a0 := (zqq (Trc.mk [(En.mk s7 x22 x22 [])] (Ed.mk 3 0)) .full)) rfl rfl rfl (by kernel_rfl) (zbf _ _) (by dsimp only [z6, List.set]) ?_
 refine zai rfl rfl ?_
 obtain ⟨x25, hx25, h⟩ := zl h
 refine zbc (zqp fuel (Trc.mk [(En.mk s7 x22 x22 [])] (Ed.mk 3 0)) x25 hx25) ?_
 refine w_r [.v (.b (!x25)), .v (.b (!x25))] ?_
 refine za3 h (fun hc16 h => ?_) (fun hc16 h => ?_)
 refine zk [.v (.b false)] ?_
 refine zh h (fun h => ?_)
 replace h := zq h hr8
 refine zh h (fun h => ?_)
 replace h := zq h hr7
 refine zh h (fun h => ?_)
 replace h := zq h hr6
 exact zaj h
 refine zc (k0 := 0) (id := 43) ?_
 obtain ⟨g38, h⟩ := zf h
 refine zej g38 ?_
 refine zp ?_
 refine zz (p := p8) ((s8 + 1)) h ?_
 exact zao (bl 261 3705346855486278468294878300693654822437695712116070581987459195610981455495166)
 refine zh h (fun h => ?_)
 refine zg (o := or8) () h ?_
 exact zao (bl 261 3705346855486278466888807511967038331338478881317553304780531576051037724573694)
 intro j8 h
 refine zbn ?_
 refine zc (k0 := 0) (id := 44) ?_
 refine w_r [.v (.u (IntKind.u8.wrap (s7 + 1))), .m _] ?_
 refine zz (p := p7) ((IntKind.u8.wrap (s7 + 1))) h ?_
 exact zao (bl 261 3705346855378438680218831836783754434573311279686678050061846895873146776027134)
 refine zh h (fun h => ?_)
 refine zg (o := or7) () h ?_
 exact zao (bl 261 3705346855378438680217262561349907764382352332330876133457821307012030767382526)
 intro j7 h
 refine zbn ?_
 refine zc (k0 := 0) (id := 45) ?_
 obtain ⟨g39, h⟩ := zf h
 refine zej g39 ?_
 refine zp ?_
 refine zz (p := p6) ((s6 + 1)) h ?_
 exact zao (bl 261 3705346855162759106880057442992571643686195286941778978077496727163201885388798)
 refine zh h (fun h => ?_)
 refine zg (o := or6) () h ?_
 exact zao (bl 261 3705346855162759106879885803491994664134059152074738143448931428381517321945086)
 intro j6 h
 refine zbn ?_
 refine zk [.v (.A ((En.mk 2 0 0 []) : En))] ?_
 refine w_o (a := .F ([(En.mk 2 0 0 [])] : List En)) (h := zv (zcs (α := En) (l := [(En.mk 2 0 0 [])]) (cs := Enc.cells ((En.mk 2 0 0 []) : En) ++ []) rfl (by rw [Enc.cons, Enc.nil]))) ?_
 obtain ⟨x26, hx26, h⟩ := zl h
 refine zbc (zwb fuel [(En.mk 2 0 0 [])] 65537 x26 hx26) ?_
 refine w_o (a := .A ((Ed.mk 1 0) : Ed)) ?_
 refine zvh (.A ((Trc.mk x26 (Ed.mk 1 0)) : Trc)) (a0 := (zqq (Trc.mk x26 (Ed.mk 1 0)) .none)) rfl rfl rfl (by kernel_rfl) (zbf _ _) (by dsimp only [z6, List.set]) ?_
 refine zbr (a := .ptr 1 0) (σ'' := (.B [(27, (Enc.cells (j1 : Trc))), (27, [.list 0 [] .full, .u 0, .i 0])])) ?_
 refine zcg 3 (.B [(27, (Enc.cells (j1 : Trc))), (27, (Enc.cells ((Trc.mk x26 (Ed.mk 1 0)) : Trc)))]) ?_
 refine zk [.v (.A ((Trc.mk x26 (Ed.mk 1 0)) : Trc))] ?_
 obtain ⟨x27, hx27, h⟩ := zl h
 refine zbc (zgh fuel (Trc.mk x26 (Ed.mk 1 0)) x27 hx27) ?_
 refine w_r [.m _, .x _, .x _, .m _, .m _] ?_
 refine zk [.v (.ptr 1 0), .v (.L ((Trc.mk x26 (Ed.mk 1 0)).l : List En))] ?_
 obtain ⟨g40, h⟩ := zf h
 refine zvh (.L ((sub ((Trc.mk x26 (Ed.mk 1 0)).l) (1 : Int) (List.length ((Trc.mk x26 (Ed.mk 1 0)).l) : Int)) : List En)) rfl rfl rfl (q_subL_ (α := En) (l := (Trc.mk x26 (Ed.mk 1 0)).l) g40 rfl rfl rfl rfl rfl) (ziq _ _ _) (by dsimp only [z6, List.set]) ?_
 refine w_o (a := .ptr 1 0) ?_
 refine zbr (σ'' := (.B [(27, (Enc.cells (j1 : Trc))), (27, (Enc.cells ((Trc.mk (sub ((Trc.mk x26 (Ed.mk 1 0)).l) (1 : Int) (List.length ((Trc.mk x26 (Ed.mk 1 0)).l) : Int)) ((Trc.mk x26 (Ed.mk 1 0)).e)) : Trc)))])) (h := zca (n := 1) rfl rfl rfl rfl rfl ⟨rfl, rfl, Nat.le_of_ble_eq_true rfl, by decide⟩) ?_
 refine zk [.v (.A ((Trc.mk (sub ((Trc.mk x26 (Ed.mk 1 0)).l) (1 : Int) (List.length ((Trc.mk x26 (Ed.mk 1 0)).l) : Int)) ((Trc.mk x26 (Ed.mk 1 0)).e)) : Trc))] ?_
 obtain ⟨x28, hx28, h⟩ := zl h
 refine zbc (zgh fuel (Trc.mk (sub ((Trc.mk x26 (Ed.mk 1 0)).l) (1 : Int) (List.length ((Trc.mk x26 (Ed.mk 1 0)).l) : Int)) ((Trc.mk x26 (Ed.mk 1 0)).e)) x28 hx28) ?_
 refine w_r [.m _, .x _, .x _, .m _, .m _] ?_
 refine zk [.m _, .v (.b (x27.2 == 5))] ?_
 refine zaa h (fun hc17 h => ?_) (fun hc17 h => ?_)
 refine zar hc17 ?_
 refine w_r [.m _, .v (.b (x28.2 == 0)), .v (.b (x28.2 == 0))] ?_
 refine zaa h (fun hc18 h => ?_) (fun hc18 h => ?_)
 refine zar hc18 ?_
 refine zai rfl rfl ?_
 refine w_o (a := .A ((Trc.mk (sub ((Trc.mk x26 (Ed.mk 1 0)).l) (1 : Int) (List.length ((Trc.mk x26 (Ed.mk 1 0)).l) : Int)) ((Trc.mk x26 (Ed.mk 1 0)).e)) : Trc)) ?_
 refine zai rfl rfl ?_
 obtain ⟨x29, hx29, h⟩ := zl h
 refine zbc (at_sh fuel (Trc.mk (sub ((Trc.mk x26 (Ed.mk 1 0)).l) (1 : Int) (List.length ((Trc.mk x26 (Ed.mk 1 0)).l) : Int)) ((Trc.mk x26 (Ed.mk 1 0)).e)) x29 hx29) ?_
 refine w_r [.v (.b (x29 == 0)), .v (.b (x29 == 0))] ?_
 refine zaa h (fun hc19 h => ?_) (fun hc19 h => ?_)
 refine zar hc19 ?_
 refine zai rfl rfl ?_
 refine zbc (r := .b true) zww ?_
 refine w_r [.v (.b true), .m _] ?_
 exact zaj h
 refine zar hc19 ?_
 refine w_r [.p, .v (.b false), .m _] ?_
 exact zaj h
 refine zar hc18 ?_
 refine w_r [.p, .p, .p, .v (.b false), .m _] ?_
 refine w_r [.p, .v (.b false), .m _] ?_
 exact zaj h
 refine zar hc17 ?_
 refine w_r [.p, .p, .v (.b false), .m _, .p] ?_
 refine w_r [.p, .p, .v (.b false), .m _, .p] ?_
 refine w_r [.v (.b false), .m _] ?_
 exact zaj h
end Go.Ab
