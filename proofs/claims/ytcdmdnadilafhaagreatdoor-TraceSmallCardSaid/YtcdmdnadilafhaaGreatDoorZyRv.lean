/-
  reparteeref02: what is said of one byte: the walks.
-/
import Derived.Test.YtcdmdnadilafhaaGreatDoorZyRb
import Derived.Test.YtcdmdnadilafhaaGreatDoorZdQr
set_option linter.unusedSimpArgs false
set_option linter.unusedVariables false
set_option maxRecDepth 100000
set_option maxHeartbeats 4000000
namespace Go.Ab
open Go Go.RowKit Go.Fwd Go.Proofs
def zh4 (n : Int) (up : Bool) : Option Int :=
 (bif up then (chk (0 ≤ n ∧ n < (List.length ([48, 49, 50, 51, 52, 53, 54, 55, 56, 57, 65, 66, 67, 68, 69, 70] : List UInt8) : Int)) (za7 (ix ([48, 49, 50, 51, 52, 53, 54, 55, 56, 57, 65, 66, 67, 68, 69, 70] : List UInt8) n) (fun x1 => (some (((x1).toNat : Nat) : Int))))) else (chk (0 ≤ n ∧ n < (List.length ([48, 49, 50, 51, 52, 53, 54, 55, 56, 57, 97, 98, 99, 100, 101, 102] : List UInt8) : Int)) (za7 (ix ([48, 49, 50, 51, 52, 53, 54, 55, 56, 57, 97, 98, 99, 100, 101, 102] : List UInt8) n) (fun x2 => (some (((x2).toNat : Nat) : Int))))))
theorem ent110 : Ent Tryz.prog 110 := enters_of Tryz.func110 (by kernel_rfl) rfl
theorem zhe (n : Int) (up : Bool) (r : Int) (h : zh4 n up = some r) : Pure (ITP Tryz.prog) Tryz.prog 110 [.raw (.int .i64 n), .raw (.bool up)] (.raw (.int .u8 r)) := by
 unfold zh4 at h
 refine zah 8 mix Tryz.func110 ent110 ?_
 refine zk [.v (.u 0)] ?_
 refine zj ?_
 refine zk [.m _] ?_
 refine za3 h (fun hc1 h => ?_) (fun hc1 h => ?_)
 refine zk [.m _] ?_
 obtain ⟨g1, h⟩ := zf h
 obtain ⟨x1, hx1, h⟩ := zo h
 refine w_o (a := .u (((x1).toNat : Nat) : Int)) (h := zv (by rw [← hx1]; exact (zbi (l := ([48, 49, 50, 51, 52, 53, 54, 55, 56, 57, 65, 66, 67, 68, 69, 70] : List UInt8)) (n := n) g1 rfl rfl rfl rfl))) ?_
 refine zp ?_
 exact zhx h
 refine zk [.m _] ?_
 obtain ⟨g2, h⟩ := zf h
 obtain ⟨x2, hx2, h⟩ := zo h
 refine w_o (a := .u (((x2).toNat : Nat) : Int)) (h := zv (by rw [← hx2]; exact (zbi (l := ([48, 49, 50, 51, 52, 53, 54, 55, 56, 57, 97, 98, 99, 100, 101, 102] : List UInt8)) (n := n) g2 rfl rfl rfl rfl))) ?_
 refine zp ?_
 exact zhx h
def zm3 (m : RSet) (c : Int) : Option Bool :=
 (zcr (τ := Unit) (bif (decide (c ≥ 48)) then (bif (decide (c ≤ 57)) then (some (Sum.inr false)) else (bif (decide (c ≥ 65)) then (bif (decide (c ≤ 90)) then (some (Sum.inr false)) else (bif (decide (c ≥ 97)) then (bif (decide (c ≤ 122)) then (some (Sum.inr false)) else (some (Sum.inl ()))) else (some (Sum.inl ())))) else (bif (decide (c ≥ 97)) then (bif (decide (c ≤ 122)) then (some (Sum.inr false)) else (some (Sum.inl ()))) else (some (Sum.inl ()))))) else (bif (decide (c ≥ 65)) then (bif (decide (c ≤ 90)) then (some (Sum.inr false)) else (bif (decide (c ≥ 97)) then (bif (decide (c ≤ 122)) then (some (Sum.inr false)) else (some (Sum.inl ()))) else (some (Sum.inl ())))) else (bif (decide (c ≥ 97)) then (bif (decide (c ≤ 122)) then (some (Sum.inr false)) else (some (Sum.inl ()))) else (some (Sum.inl ()))))) (fun j1 => (bif (decide (c > 31)) then (bif (decide (c < 127)) then (chk (0 ≤ c ∧ c < 256) (some ((rdA m c) == 1))) else (some false)) else (some false))))
theorem ent109 : Ent Tryz.prog 109 := enters_of Tryz.func109 (by kernel_rfl) rfl
theorem zpe (m : RSet) (c : Int) (r : Bool) (h : zm3 m c = some r) : Pure (ITP Tryz.prog) Tryz.prog 109 [.A (m : RSet), .raw (.int .u8 c)] (.raw (.bool r)) := by
 unfold zm3 at h
 refine zah 37 mix Tryz.func109 ent109 ?_
 refine zj (zc ?_)
 refine zbr (a := .ptr 0 0) (σ'' := (.B [(128, (Enc.cells (m : RSet)))])) ?_
 refine w_o (a := .b false) ?_
 refine zaf h (bz 0 39 549755813881) (fun j1 => []) (fun j1 => (.B [(128, (Enc.cells (m : RSet)))])) ?_ ?_
 intro or1 h hr1
 refine zk [.m _, .v (.b (decide (c ≥ 48)))] ?_
 refine zaa h (fun hc1 h => ?_) (fun hc1 h => ?_)
 refine zar hc1 ?_
 refine w_r [.m _, .v (.b (decide (c ≤ 57))), .v (.b (decide (c ≤ 57)))] ?_
 refine zaa h (fun hc2 h => ?_) (fun hc2 h => ?_)
 refine zar hc2 ?_
 refine w_r [.p, .p, .p, .p, .p] ?_
 refine w_r [.p, .v (.b true), .m _, .p, .p] ?_
 refine w_r [.p, .p, .p, .p, .v (.b true)] ?_
 refine za6 rfl ?_
 refine zk [.v (.b false)] ?_
 replace h := zq h hr1
 exact zaj h
 refine zar hc2 ?_
 refine w_r [.m _, .v (.b (decide (c ≥ 65)))] ?_
 refine zai rfl rfl ?_
 refine zaa h (fun hc3 h => ?_) (fun hc3 h => ?_)
 refine zar hc3 ?_
 refine w_r [.m _, .v (.b (decide (c ≤ 90))), .v (.b (decide (c ≤ 90))), .v (.b (decide (c ≤ 90)))] ?_
 refine zaa h (fun hc4 h => ?_) (fun hc4 h => ?_)
 refine zar hc4 ?_
 refine w_r [.p, .p, .p, .p, .p] ?_
 refine w_r [.p, .v (.b true)] ?_
 refine za6 rfl ?_
 refine zk [.v (.b false)] ?_
 replace h := zq h hr1
 exact zaj h
 refine zar hc4 ?_
 refine w_r [.m _, .v (.b (decide (c ≥ 97)))] ?_
 refine zai rfl rfl ?_
 refine zaa h (fun hc5 h => ?_) (fun hc5 h => ?_)
 refine zar hc5 ?_
 refine w_r [.m _, .v (.b (decide (c ≤ 122))), .v (.b (decide (c ≤ 122))), .v (.b (decide (c ≤ 122)))] ?_
 refine za3 h (fun hc6 h => ?_) (fun hc6 h => ?_)
 refine zk [.v (.b false)] ?_
 replace h := zq h hr1
 exact zaj h
 refine zg (o := or1) () h ?_
 exact zao (bl 39 6)
 refine zar hc5 ?_
 refine w_r [.p, .p, .v (.b false), .v (.b false)] ?_
 refine zbv rfl ?_
 refine zg (o := or1) () h ?_
 exact zao (bl 39 6)
 refine zar hc3 ?_
 refine w_r [.p, .p, .v (.b false), .v (.b false), .m _] ?_
 refine w_r [.m _, .v (.b (decide (c ≥ 97)))] ?_
 refine zai rfl rfl ?_
 refine zaa h (fun hc7 h => ?_) (fun hc7 h => ?_)
 refine zar hc7 ?_
 refine w_r [.m _, .v (.b (decide (c ≤ 122))), .v (.b (decide (c ≤ 122))), .v (.b (decide (c ≤ 122)))] ?_
 refine za3 h (fun hc8 h => ?_) (fun hc8 h => ?_)
 refine zk [.v (.b false)] ?_
 replace h := zq h hr1
 exact zaj h
 refine zg (o := or1) () h ?_
 exact zao (bl 39 6)
 refine zar hc7 ?_
 refine w_r [.p, .p, .v (.b false), .v (.b false)] ?_
 refine zbv rfl ?_
 refine zg (o := or1) () h ?_
 exact zao (bl 39 6)
 refine zar hc1 ?_
 refine w_r [.p, .p, .v (.b false), .m _, .m _] ?_
 refine w_r [.v (.b (decide (c ≥ 65)))] ?_
 refine zai rfl rfl ?_
 refine zaa h (fun hc9 h => ?_) (fun hc9 h => ?_)
 refine zar hc9 ?_
 refine w_r [.m _, .v (.b (decide (c ≤ 90))), .v (.b (decide (c ≤ 90))), .v (.b (decide (c ≤ 90)))] ?_
 refine zaa h (fun hc10 h => ?_) (fun hc10 h => ?_)
 refine zar hc10 ?_
 refine w_r [.p, .p, .p, .p, .p] ?_
 refine w_r [.p, .v (.b true)] ?_
 refine za6 rfl ?_
 refine zk [.v (.b false)] ?_
 replace h := zq h hr1
 exact zaj h
 refine zar hc10 ?_
 refine w_r [.m _, .v (.b (decide (c ≥ 97)))] ?_
 refine zai rfl rfl ?_
 refine zaa h (fun hc11 h => ?_) (fun hc11 h => ?_)
 refine zar hc11 ?_
 refine w_r [.m _, .v (.b (decide (c ≤ 122))), .v (.b (decide (c ≤ 122))), .v (.b (decide (c ≤ 122)))] ?_
 refine za3 h (fun hc12 h => ?_) (fun hc12 h => ?_)
 refine zk [.v (.b false)] ?_
 replace h := zq h hr1
 exact zaj h
 refine zg (o := or1) () h ?_
 exact zao (bl 39 6)
 refine zar hc11 ?_
 refine w_r [.p, .p, .v (.b false), .v (.b false)] ?_
 refine zbv rfl ?_
 refine zg (o := or1) () h ?_
 exact zao (bl 39 6)
 refine zar hc9 ?_
 refine w_r [.p, .p, .v (.b false), .v (.b false), .m _] ?_
 refine w_r [.m _, .v (.b (decide (c ≥ 97)))] ?_
 refine zai rfl rfl ?_
 refine zaa h (fun hc13 h => ?_) (fun hc13 h => ?_)
 refine zar hc13 ?_
 refine w_r [.m _, .v (.b (decide (c ≤ 122))), .v (.b (decide (c ≤ 122))), .v (.b (decide (c ≤ 122)))] ?_
 refine za3 h (fun hc14 h => ?_) (fun hc14 h => ?_)
 refine zk [.v (.b false)] ?_
 replace h := zq h hr1
 exact zaj h
 refine zg (o := or1) () h ?_
 exact zao (bl 39 6)
 refine zar hc13 ?_
 refine w_r [.p, .p, .v (.b false), .v (.b false)] ?_
 refine zbv rfl ?_
 refine zg (o := or1) () h ?_
 exact zao (bl 39 6)
 intro j1 h
 refine zbn ?_
 refine zk [.m _, .v (.b (decide (c > 31)))] ?_
 refine zaa h (fun hc15 h => ?_) (fun hc15 h => ?_)
 refine zar hc15 ?_
 refine w_r [.m _, .v (.b (decide (c < 127))), .v (.b (decide (c < 127)))] ?_
 refine zaa h (fun hc16 h => ?_) (fun hc16 h => ?_)
 refine zar hc16 ?_
 refine zai rfl rfl ?_
 refine zp ?_
 refine zai rfl rfl ?_
 obtain ⟨g1, h⟩ := zf h
 refine w_o (a := .ptr 0 (0 + Int.toNat c * 1)) (h := zv (q_idxA g1 rfl rfl rfl rfl rfl)) ?_
 refine zai rfl rfl ?_
 refine w_o (a := .i (rdA m c)) (h := zv (q_loadA m g1 rfl rfl rfl)) ?_
 refine w_r [.v (.b ((rdA m c) == 1)), .v (.b ((rdA m c) == 1)), .m _] ?_
 exact zaj h
 refine zar hc16 ?_
 refine w_r [.p, .p, .p, .p, .v (.b false)] ?_
 refine w_r [.m _] ?_
 exact zaj h
 refine zar hc15 ?_
 refine w_r [.p, .p, .v (.b false), .m _, .p] ?_
 refine w_r [.p, .p, .p, .v (.b false), .m _] ?_
 exact zaj h
def zpz (c : Int) (m : RSet) : Option (List UInt8) :=
 (bif (c == 10) then (some ([92, 110] : List UInt8)) else (bif (c == 13) then (some ([92, 114] : List UInt8)) else (bif (c == 9) then (some ([92, 116] : List UInt8)) else (bif (decide (c < 32)) then (chk (-9223372036854775808 ≤ c ∧ c < 9223372036854775808) (z1 (zh4 (IntKind.i64.wrap (Int.tdiv c 16)) false) (fun x1 => (chk (-9223372036854775808 ≤ c ∧ c < 9223372036854775808) (z1 (zh4 (Int.tmod c 16) false) (fun x2 => (chk (0 ≤ x1 ∧ x1 < 256) (chk (0 ≤ x2 ∧ x2 < 256) (chk (List.length ([92, 120] : List UInt8) + List.length ([(zas x1), (zas x2)] : List UInt8) ≤ 9223372036854775807) (some (([92, 120] : List UInt8) ++ ([(zas x1), (zas x2)] : List UInt8)))))))))))) else (bif (decide (c > 126)) then (chk (-9223372036854775808 ≤ c ∧ c < 9223372036854775808) (z1 (zh4 (IntKind.i64.wrap (Int.tdiv c 16)) false) (fun x3 => (chk (-9223372036854775808 ≤ c ∧ c < 9223372036854775808) (z1 (zh4 (Int.tmod c 16) false) (fun x4 => (chk (0 ≤ x3 ∧ x3 < 256) (chk (0 ≤ x4 ∧ x4 < 256) (chk (List.length ([92, 120] : List UInt8) + List.length ([(zas x3), (zas x4)] : List UInt8) ≤ 9223372036854775807) (some (([92, 120] : List UInt8) ++ ([(zas x3), (zas x4)] : List UInt8)))))))))))) else (z1 (zm3 m c) (fun x5 => (bif x5 then (chk (0 ≤ c ∧ c < 256) (chk (List.length ([92] : List UInt8) + List.length ([(zas c)] : List UInt8) ≤ 9223372036854775807) (some (([92] : List UInt8) ++ ([(zas c)] : List UInt8))))) else (bif (c == 92) then (chk (0 ≤ c ∧ c < 256) (chk (List.length ([92] : List UInt8) + List.length ([(zas c)] : List UInt8) ≤ 9223372036854775807) (some (([92] : List UInt8) ++ ([(zas c)] : List UInt8))))) else (chk (0 ≤ c ∧ c < 256) (some ([(zas c)] : List UInt8))))))))))))
theorem ent99 : Ent Tryz.prog 99 := enters_of Tryz.func99 (by kernel_rfl) rfl
theorem z0t (c : Int) (m : RSet) (r : (List UInt8)) (h : zpz c m = some r) : Pure (ITP Tryz.prog) Tryz.prog 99 [.raw (.int .u8 c), .A (m : RSet)] (.raw (.string (bs r))) := by
 unfold zpz at h
 refine zah 40 mix Tryz.func99 ent99 ?_
 refine zj (zc ?_)
 refine zbr (a := .ptr 0 0) (σ'' := (.B [(128, (Enc.cells (m : RSet)))])) ?_
 refine w_o (a := .s ([] : List UInt8)) ?_
 refine zj ?_
 refine zk [.m _, .v (.b (c == 10))] ?_
 refine za3 h (fun hc1 h => ?_) (fun hc1 h => ?_)
 refine zk [.v (.s ([92, 110] : List UInt8))] ?_
 exact zd7 h
 refine zj ?_
 refine zk [.m _, .v (.b (c == 13))] ?_
 refine za3 h (fun hc2 h => ?_) (fun hc2 h => ?_)
 refine zk [.v (.s ([92, 114] : List UInt8))] ?_
 exact zd7 h
 refine zj ?_
 refine zk [.m _, .v (.b (c == 9))] ?_
 refine za3 h (fun hc3 h => ?_) (fun hc3 h => ?_)
 refine zk [.v (.s ([92, 116] : List UInt8))] ?_
 exact zd7 h
 refine zj ?_
 refine zk [.m _, .v (.b (decide (c < 32)))] ?_
 refine zaa h (fun hc4 h => ?_) (fun hc4 h => ?_)
 refine zar hc4 ?_
 refine w_r [.p, .p, .v (.b true)] ?_
 refine za6 rfl ?_
 refine zk [.m _] ?_
 obtain ⟨g1, h⟩ := zf h
 refine w_o (a := .i c) (h := zv (zfo g1 rfl rfl rfl)) ?_
 refine w_o (a := .i (IntKind.i64.wrap (Int.tdiv c 16))) ?_
 obtain ⟨x1, hx1, h⟩ := zl h
 refine zbc (zhe (IntKind.i64.wrap (Int.tdiv c 16)) false x1 hx1) ?_
 refine zp ?_
 obtain ⟨g2, h⟩ := zf h
 refine w_o (a := .i c) (h := zv (zfo g2 rfl rfl rfl)) ?_
 refine w_o (a := .i (Int.tmod c 16)) ?_
 obtain ⟨x2, hx2, h⟩ := zl h
 refine zbc (zhe (Int.tmod c 16) false x2 hx2) ?_
 obtain ⟨g3, h⟩ := zf h
 obtain ⟨g4, h⟩ := zf h
 refine w_o (a := .F (([(zas x1), (zas x2)] : List UInt8) : List UInt8)) (h := zv (zcs (α := UInt8) (l := ([(zas x1), (zas x2)] : List UInt8)) (cs := [.u x1, .u x2]) rfl (by show List.map _ _ = _; simp only [List.map_cons, List.map_nil, u8c g3, u8c g4]))) ?_
 refine w_o (a := .s ([(zas x1), (zas x2)] : List UInt8)) (h := zv (zdc (l := ([(zas x1), (zas x2)] : List UInt8)) rfl rfl ⟨rfl, rfl⟩ rfl)) ?_
 obtain ⟨g5, h⟩ := zf h
 refine w_o (a := .s (([92, 120] : List UInt8) ++ ([(zas x1), (zas x2)] : List UInt8))) (h := zv (zad g5 rfl rfl rfl)) ?_
 refine zp ?_
 exact zd7 h
 refine zar hc4 ?_
 refine w_r [.m _, .v (.b (decide (c > 126))), .v (.b (decide (c > 126)))] ?_
 refine za3 h (fun hc5 h => ?_) (fun hc5 h => ?_)
 refine zk [.m _] ?_
 obtain ⟨g6, h⟩ := zf h
 refine w_o (a := .i c) (h := zv (zfo g6 rfl rfl rfl)) ?_
 refine w_o (a := .i (IntKind.i64.wrap (Int.tdiv c 16))) ?_
 obtain ⟨x3, hx3, h⟩ := zl h
 refine zbc (zhe (IntKind.i64.wrap (Int.tdiv c 16)) false x3 hx3) ?_
 refine zp ?_
 obtain ⟨g7, h⟩ := zf h
 refine w_o (a := .i c) (h := zv (zfo g7 rfl rfl rfl)) ?_
 refine w_o (a := .i (Int.tmod c 16)) ?_
 obtain ⟨x4, hx4, h⟩ := zl h
 refine zbc (zhe (Int.tmod c 16) false x4 hx4) ?_
 obtain ⟨g8, h⟩ := zf h
 obtain ⟨g9, h⟩ := zf h
 refine w_o (a := .F (([(zas x3), (zas x4)] : List UInt8) : List UInt8)) (h := zv (zcs (α := UInt8) (l := ([(zas x3), (zas x4)] : List UInt8)) (cs := [.u x3, .u x4]) rfl (by show List.map _ _ = _; simp only [List.map_cons, List.map_nil, u8c g8, u8c g9]))) ?_
 refine w_o (a := .s ([(zas x3), (zas x4)] : List UInt8)) (h := zv (zdc (l := ([(zas x3), (zas x4)] : List UInt8)) rfl rfl ⟨rfl, rfl⟩ rfl)) ?_
 obtain ⟨g10, h⟩ := zf h
 refine w_o (a := .s (([92, 120] : List UInt8) ++ ([(zas x3), (zas x4)] : List UInt8))) (h := zv (zad g10 rfl rfl rfl)) ?_
 refine zp ?_
 exact zd7 h
 refine zj ?_
 refine zj (zc ?_)
 refine w_o (a := .A (m : RSet)) (h := zv (zf4 m (by decide) rfl rfl rfl)) ?_
 refine zp ?_
 obtain ⟨x5, hx5, h⟩ := zl h
 refine zbc (zpe m c x5 hx5) ?_
 refine zaa h (fun hc6 h => ?_) (fun hc6 h => ?_)
 refine zar hc6 ?_
 refine w_r [.p, .p, .v (.b true)] ?_
 refine za6 rfl ?_
 refine zk [.m _] ?_
 obtain ⟨g11, h⟩ := zf h
 refine w_o (a := .F (([(zas c)] : List UInt8) : List UInt8)) (h := zv (zcs (α := UInt8) (l := ([(zas c)] : List UInt8)) (cs := [.u c]) rfl (by show List.map _ _ = _; simp only [List.map_cons, List.map_nil, u8c g11]))) ?_
 refine w_o (a := .s ([(zas c)] : List UInt8)) (h := zv (zdc (l := ([(zas c)] : List UInt8)) rfl rfl ⟨rfl, rfl⟩ rfl)) ?_
 obtain ⟨g12, h⟩ := zf h
 refine w_o (a := .s (([92] : List UInt8) ++ ([(zas c)] : List UInt8))) (h := zv (zad g12 rfl rfl rfl)) ?_
 refine zp ?_
 exact zd7 h
 refine zar hc6 ?_
 refine w_r [.m _, .v (.b (c == 92)), .v (.b (c == 92))] ?_
 refine za3 h (fun hc7 h => ?_) (fun hc7 h => ?_)
 refine zk [.m _] ?_
 obtain ⟨g13, h⟩ := zf h
 refine w_o (a := .F (([(zas c)] : List UInt8) : List UInt8)) (h := zv (zcs (α := UInt8) (l := ([(zas c)] : List UInt8)) (cs := [.u c]) rfl (by show List.map _ _ = _; simp only [List.map_cons, List.map_nil, u8c g13]))) ?_
 refine w_o (a := .s ([(zas c)] : List UInt8)) (h := zv (zdc (l := ([(zas c)] : List UInt8)) rfl rfl ⟨rfl, rfl⟩ rfl)) ?_
 obtain ⟨g14, h⟩ := zf h
 refine w_o (a := .s (([92] : List UInt8) ++ ([(zas c)] : List UInt8))) (h := zv (zad g14 rfl rfl rfl)) ?_
 refine zp ?_
 exact zd7 h
 refine zk [.m _] ?_
 obtain ⟨g15, h⟩ := zf h
 refine w_o (a := .F (([(zas c)] : List UInt8) : List UInt8)) (h := zv (zcs (α := UInt8) (l := ([(zas c)] : List UInt8)) (cs := [.u c]) rfl (by show List.map _ _ = _; simp only [List.map_cons, List.map_nil, u8c g15]))) ?_
 refine w_o (a := .s ([(zas c)] : List UInt8)) (h := zv (zdc (l := ([(zas c)] : List UInt8)) rfl rfl ⟨rfl, rfl⟩ rfl)) ?_
 refine zp ?_
 exact zd7 h
def zqy (fuel : Nat) (c : Int) (m : RSet) : Option (List (List UInt8)) :=
 (zcr (τ := (List (List UInt8))) (bif (decide (c ≥ 32)) then (bif (decide (c ≤ 126)) then (bif (c != 92) then (z1 (zm3 m c) (fun x1 => (bif (!x1) then (chk (0 ≤ c ∧ c < 256) (chk ((List.length ([] : List (List UInt8)) + List.length [([(zas c)] : List UInt8)]) * 16 ≤ 140737488355328) (some (Sum.inl ((([] : List (List UInt8)) ++ [([(zas c)] : List UInt8)])))))) else (some (Sum.inl (([] : (List (List UInt8))))))))) else (some (Sum.inl (([] : (List (List UInt8))))))) else (some (Sum.inl (([] : (List (List UInt8))))))) else (some (Sum.inl (([] : (List (List UInt8))))))) (fun j1 => (zcr (τ := (List (List UInt8))) (z1 (zm3 m c) (fun x2 => (bif x2 then (chk (0 ≤ c ∧ c < 256) (chk (List.length ([92] : List UInt8) + List.length ([(zas c)] : List UInt8) ≤ 9223372036854775807) (chk ((List.length j1 + List.length [(([92] : List UInt8) ++ ([(zas c)] : List UInt8))]) * 16 ≤ 140737488355328) (some (Sum.inl ((j1 ++ [(([92] : List UInt8) ++ ([(zas c)] : List UInt8))]))))))) else (bif (c == 92) then (chk (0 ≤ c ∧ c < 256) (chk (List.length ([92] : List UInt8) + List.length ([(zas c)] : List UInt8) ≤ 9223372036854775807) (chk ((List.length j1 + List.length [(([92] : List UInt8) ++ ([(zas c)] : List UInt8))]) * 16 ≤ 140737488355328) (some (Sum.inl ((j1 ++ [(([92] : List UInt8) ++ ([(zas c)] : List UInt8))]))))))) else (some (Sum.inl (j1))))))) (fun j2 => (zcr (τ := (List (List UInt8))) (zbh (β := (List (List UInt8)) × Int) (fun s1 => (bif (decide (s1.2 < (List.length [([110] : List UInt8), ([114] : List UInt8), ([116] : List UInt8)] : Int))) then (zcr (τ := (List (List UInt8))) (chk (0 ≤ s1.2 ∧ s1.2 < (List.length [([110] : List UInt8), ([114] : List UInt8), ([116] : List UInt8)] : Int)) (za7 (ix [([110] : List UInt8), ([114] : List UInt8), ([116] : List UInt8)] s1.2) (fun x3 => (chk (0 ≤ s1.2 ∧ s1.2 < (List.length ([10, 13, 9] : List UInt8) : Int)) (za7 (ix ([10, 13, 9] : List UInt8) s1.2) (fun x4 => (bif (c == (((x4).toNat : Nat) : Int)) then (chk (List.length ([92] : List UInt8) + List.length x3 ≤ 9223372036854775807) (chk ((List.length s1.1 + List.length [(([92] : List UInt8) ++ x3)]) * 16 ≤ 140737488355328) (some (Sum.inl ((s1.1 ++ [(([92] : List UInt8) ++ x3)])))))) else (some (Sum.inl (s1.1)))))))))) (fun j4 => (chk (-9223372036854775808 ≤ (s1.2 + 1) ∧ (s1.2 + 1) < 9223372036854775808) (some (Sum.inl (j4, (s1.2 + 1))))))) else (some (Sum.inr (Sum.inl (s1.1)))))) fuel (j2, 0)) (fun j3 => (zcr (τ := (List (List UInt8))) (zbh (β := (List (List UInt8)) × Int) (fun s2 => (bif (decide (s2.2 < 4)) then (chk (-9223372036854775808 ≤ c ∧ c < 9223372036854775808) (z1 (zh4 (IntKind.i64.wrap (Int.tdiv c 16)) ((Int.tmod s2.2 2) == 1)) (fun x5 => (chk (-9223372036854775808 ≤ c ∧ c < 9223372036854775808) (z1 (zh4 (Int.tmod c 16) ((IntKind.i64.wrap (Int.tdiv s2.2 2)) == 1)) (fun x6 => (chk (0 ≤ x5 ∧ x5 < 256) (chk (0 ≤ x6 ∧ x6 < 256) (chk (List.length ([92, 120] : List UInt8) + List.length ([(zas x5), (zas x6)] : List UInt8) ≤ 9223372036854775807) (chk ((List.length s2.1 + List.length [(([92, 120] : List UInt8) ++ ([(zas x5), (zas x6)] : List UInt8))]) * 16 ≤ 140737488355328) (chk (-9223372036854775808 ≤ (s2.2 + 1) ∧ (s2.2 + 1) < 9223372036854775808) (some (Sum.inl ((s2.1 ++ [(([92, 120] : List UInt8) ++ ([(zas x5), (zas x6)] : List UInt8))]), (s2.2 + 1))))))))))))))) else (some (Sum.inr (Sum.inl (s2.1)))))) fuel (j3, 0)) (fun j5 => (some j5)))))))))
theorem ent97 : Ent Tryz.prog 97 := enters_of Tryz.func97 (by kernel_rfl) rfl
theorem z1a (fuel : Nat) (c : Int) (m : RSet) (r : (List (List UInt8))) (h : zqy fuel c m = some r) : Pure (ITP Tryz.prog) Tryz.prog 97 [.raw (.int .u8 c), .A (m : RSet)] (.L (r : List (List UInt8))) := by
 unfold zqy at h
 refine zah 85 mix Tryz.func97 ent97 ?_
 refine zj (zc ?_)
 refine zbr (a := .ptr 0 0) (σ'' := (.B [(128, (Enc.cells (m : RSet)))])) ?_
 refine w_o (a := .list 0 [] .full) ?_
 refine zk [.v (.list 0 [] .full)] ?_
 refine zaf h (bz 0 87 154742504910672534362390518) (fun j1 => [(5, (.O (j1 : List (List UInt8))))]) (fun j1 => (z7 [(128, (Enc.cells (m : RSet)))] 9 (List.length (j1 : List (List UInt8))) 1)) ?_ ?_
 intro or1 h hr1
 refine zk [.m _, .v (.b (decide (c ≥ 32)))] ?_
 refine zaa h (fun hc1 h => ?_) (fun hc1 h => ?_)
 refine zar hc1 ?_
 refine w_r [.m _, .v (.b (decide (c ≤ 126))), .v (.b (decide (c ≤ 126)))] ?_
 refine zaa h (fun hc2 h => ?_) (fun hc2 h => ?_)
 refine zar hc2 ?_
 refine w_r [.m _, .v (.b (c != 92)), .v (.b (c != 92))] ?_
 refine zaa h (fun hc3 h => ?_) (fun hc3 h => ?_)
 refine zar hc3 ?_
 refine zai rfl rfl ?_
 refine w_o (a := .A (m : RSet)) (h := zv (zf4 m (by decide) rfl rfl rfl)) ?_
 refine zai rfl rfl ?_
 refine zp ?_
 refine zai rfl rfl ?_
 obtain ⟨x1, hx1, h⟩ := zl h
 refine zbc (zpe m c x1 hx1) ?_
 refine w_r [.v (.b (!x1)), .v (.b (!x1))] ?_
 refine za3 h (fun hc4 h => ?_) (fun hc4 h => ?_)
 refine zc (k0 := 0) (id := 3) ?_
 refine w_r [.m _, .m _] ?_
 obtain ⟨g1, h⟩ := zf h
 refine w_o (a := .F (([(zas c)] : List UInt8) : List UInt8)) (h := zv (zcs (α := UInt8) (l := ([(zas c)] : List UInt8)) (cs := [.u c]) rfl (by show List.map _ _ = _; simp only [List.map_cons, List.map_nil, u8c g1]))) ?_
 refine w_o (a := .s ([(zas c)] : List UInt8)) (h := zv (zdc (l := ([(zas c)] : List UInt8)) rfl rfl ⟨rfl, rfl⟩ rfl)) ?_
 refine w_o (a := .F ([([(zas c)] : List UInt8)] : List (List UInt8))) (h := zv (zcs (α := (List UInt8)) (l := [([(zas c)] : List UInt8)]) (cs := Enc.cells (([(zas c)] : List UInt8) : (List UInt8)) ++ []) rfl (by rw [Enc.cons, Enc.nil]))) ?_
 obtain ⟨g2, h⟩ := zf h
 refine zga (a := (.O ((([] : List (List UInt8)) ++ [([(zas c)] : List UInt8)]) : List (List UInt8)))) (σ'' := (z7 [(128, (Enc.cells (m : RSet)))] 9 (List.length ((([] : List (List UInt8)) ++ [([(zas c)] : List UInt8)]) : List (List UInt8))) 1)) rfl rfl rfl (zce rfl rfl rfl rfl (zbu (α := (List UInt8)) (bs := [(128, (Enc.cells (m : RSet)))]) (a := ([] : List (List UInt8))) (b := [([(zas c)] : List UInt8)]) g2 rfl rfl rfl rfl rfl ⟨rfl, by decide⟩)) (by dsimp only [z6, List.set]) rfl ?_
 refine zp ?_
 refine zg (o := or1) ((([] : List (List UInt8)) ++ [([(zas c)] : List UInt8)])) h ?_
 exact zao (bl 87 41)
 refine zg (o := or1) (([] : (List (List UInt8)))) h ?_
 exact zao (bl 87 41)
 refine zar hc3 ?_
 refine w_r [.p, .p, .p, .p, .v (.b false)] ?_
 refine zbv rfl ?_
 refine zg (o := or1) (([] : (List (List UInt8)))) h ?_
 exact zao (bl 87 41)
 refine zar hc2 ?_
 refine w_r [.p, .p, .v (.b false), .m _, .p] ?_
 refine w_r [.p, .p, .p, .v (.b false)] ?_
 refine zbv rfl ?_
 refine zg (o := or1) (([] : (List (List UInt8)))) h ?_
 exact zao (bl 87 41)
 refine zar hc1 ?_
 refine w_r [.p, .p, .v (.b false), .m _, .p] ?_
 refine w_r [.p, .v (.b false), .m _, .p, .p] ?_
 refine w_r [.p, .p, .v (.b false)] ?_
 refine zbv rfl ?_
 refine zg (o := or1) (([] : (List (List UInt8)))) h ?_
 exact zao (bl 87 41)
 intro j1 h
 refine zbn ?_
 refine zaf h (bz 0 45 35182224605224) (fun j2 => [(5, (.O (j2 : List (List UInt8))))]) (fun j2 => (z7 [(128, (Enc.cells (m : RSet)))] 9 (List.length (j2 : List (List UInt8))) 1)) ?_ ?_
 intro or2 h hr2
 refine zj (zc ?_)
 refine w_o (a := .A (m : RSet)) (h := zv (zf4 m (by decide) rfl rfl rfl)) ?_
 refine zp ?_
 obtain ⟨x2, hx2, h⟩ := zl h
 refine zbc (zpe m c x2 hx2) ?_
 refine zaa h (fun hc5 h => ?_) (fun hc5 h => ?_)
 refine zar hc5 ?_
 refine w_r [.p, .p, .v (.b true)] ?_
 refine za6 rfl ?_
 refine zc (k0 := 0) (id := 5) ?_
 refine w_r [.m _, .m _] ?_
 obtain ⟨g3, h⟩ := zf h
 refine w_o (a := .F (([(zas c)] : List UInt8) : List UInt8)) (h := zv (zcs (α := UInt8) (l := ([(zas c)] : List UInt8)) (cs := [.u c]) rfl (by show List.map _ _ = _; simp only [List.map_cons, List.map_nil, u8c g3]))) ?_
 refine w_o (a := .s ([(zas c)] : List UInt8)) (h := zv (zdc (l := ([(zas c)] : List UInt8)) rfl rfl ⟨rfl, rfl⟩ rfl)) ?_
 obtain ⟨g4, h⟩ := zf h
 refine w_o (a := .s (([92] : List UInt8) ++ ([(zas c)] : List UInt8))) (h := zv (zad g4 rfl rfl rfl)) ?_
 refine w_o (a := .F ([(([92] : List UInt8) ++ ([(zas c)] : List UInt8))] : List (List UInt8))) (h := zv (zcs (α := (List UInt8)) (l := [(([92] : List UInt8) ++ ([(zas c)] : List UInt8))]) (cs := Enc.cells ((([92] : List UInt8) ++ ([(zas c)] : List UInt8)) : (List UInt8)) ++ []) rfl (by rw [Enc.cons, Enc.nil]))) ?_
 obtain ⟨g5, h⟩ := zf h
 refine zga (a := (.O ((j1 ++ [(([92] : List UInt8) ++ ([(zas c)] : List UInt8))]) : List (List UInt8)))) (σ'' := (z7 [(128, (Enc.cells (m : RSet)))] 9 (List.length ((j1 ++ [(([92] : List UInt8) ++ ([(zas c)] : List UInt8))]) : List (List UInt8))) 1)) rfl rfl rfl (zce rfl rfl rfl rfl (zbu (α := (List UInt8)) (bs := [(128, (Enc.cells (m : RSet)))]) (a := j1) (b := [(([92] : List UInt8) ++ ([(zas c)] : List UInt8))]) g5 rfl rfl rfl rfl rfl ⟨rfl, by decide⟩)) (by dsimp only [z6, List.set]) rfl ?_
 refine zp ?_
 refine zg (o := or2) ((j1 ++ [(([92] : List UInt8) ++ ([(zas c)] : List UInt8))])) h ?_
 exact zao (bl 87 154742504910637352137785335)
 refine zar hc5 ?_
 refine w_r [.m _, .v (.b (c == 92)), .v (.b (c == 92))] ?_
 refine za3 h (fun hc6 h => ?_) (fun hc6 h => ?_)
 refine zc (k0 := 0) (id := 5) ?_
 refine w_r [.m _, .m _] ?_
 obtain ⟨g6, h⟩ := zf h
 refine w_o (a := .F (([(zas c)] : List UInt8) : List UInt8)) (h := zv (zcs (α := UInt8) (l := ([(zas c)] : List UInt8)) (cs := [.u c]) rfl (by show List.map _ _ = _; simp only [List.map_cons, List.map_nil, u8c g6]))) ?_
 refine w_o (a := .s ([(zas c)] : List UInt8)) (h := zv (zdc (l := ([(zas c)] : List UInt8)) rfl rfl ⟨rfl, rfl⟩ rfl)) ?_
 obtain ⟨g7, h⟩ := zf h
 refine w_o (a := .s (([92] : List UInt8) ++ ([(zas c)] : List UInt8))) (h := zv (zad g7 rfl rfl rfl)) ?_
 refine w_o (a := .F ([(([92] : List UInt8) ++ ([(zas c)] : List UInt8))] : List (List UInt8))) (h := zv (zcs (α := (List UInt8)) (l := [(([92] : List UInt8) ++ ([(zas c)] : List UInt8))]) (cs := Enc.cells ((([92] : List UInt8) ++ ([(zas c)] : List UInt8)) : (List UInt8)) ++ []) rfl (by rw [Enc.cons, Enc.nil]))) ?_
 obtain ⟨g8, h⟩ := zf h
 refine zga (a := (.O ((j1 ++ [(([92] : List UInt8) ++ ([(zas c)] : List UInt8))]) : List (List UInt8)))) (σ'' := (z7 [(128, (Enc.cells (m : RSet)))] 9 (List.length ((j1 ++ [(([92] : List UInt8) ++ ([(zas c)] : List UInt8))]) : List (List UInt8))) 1)) rfl rfl rfl (zce rfl rfl rfl rfl (zbu (α := (List UInt8)) (bs := [(128, (Enc.cells (m : RSet)))]) (a := j1) (b := [(([92] : List UInt8) ++ ([(zas c)] : List UInt8))]) g8 rfl rfl rfl rfl rfl ⟨rfl, by decide⟩)) (by dsimp only [z6, List.set]) rfl ?_
 refine zp ?_
 refine zg (o := or2) ((j1 ++ [(([92] : List UInt8) ++ ([(zas c)] : List UInt8))])) h ?_
 exact zao (bl 87 154742504910637352137785335)
 refine zg (o := or2) (j1) h ?_
 exact zao (bl 87 154742504910637352137785335)
 intro j2 h
 refine zbn ?_
 refine zaf h (bz 0 62 4611650834055299296) (fun j3 => [(5, (.O (j3 : List (List UInt8))))]) (fun j3 => (z7 [(128, (Enc.cells (m : RSet)))] 9 (List.length (j3 : List (List UInt8))) 1)) ?_ ?_
 intro or3 h hr3
 refine zj (zc ?_)
 refine w_o (a := .F ([([110] : List UInt8), ([114] : List UInt8), ([116] : List UInt8)] : List (List UInt8))) (h := zv (zcs (α := (List UInt8)) (l := [([110] : List UInt8), ([114] : List UInt8), ([116] : List UInt8)]) (cs := Enc.cells (([110] : List UInt8) : (List UInt8)) ++ (Enc.cells (([114] : List UInt8) : (List UInt8)) ++ (Enc.cells (([116] : List UInt8) : (List UInt8)) ++ []))) (by kernel_rfl) (by rw [Enc.cons, Enc.cons, Enc.cons, Enc.nil]))) ?_
 refine w_r [.v (.i (List.length [([110] : List UInt8), ([114] : List UInt8), ([116] : List UInt8)] : Int)), .v (.i 0)] ?_
 refine zr ?_
 refine zap h (bz 0 62 4611545280939032800) (fun s1 => [(5, (.O (s1.1 : List (List UInt8)))), (47, .i s1.2)]) (fun s1 => (z7 [(128, (Enc.cells (m : RSet)))] 9 (List.length (s1.1 : List (List UInt8))) 1)) ?_ ?_
 exact zao (bl 87 154742500299267990911713087)
 intro s1 p1 h
 refine zbn ?_
 refine zk [.v (.b (decide (s1.2 < (List.length [([110] : List UInt8), ([114] : List UInt8), ([116] : List UInt8)] : Int))))] ?_
 refine zj ?_
 refine za3 h (fun hc7 h => ?_) (fun hc7 h => ?_)
 refine zaf h (bz 0 61 2305561534236983520) (fun j4 => [(5, (.O (j4 : List (List UInt8))))]) (fun j4 => (z7 [(128, (Enc.cells (m : RSet)))] 9 (List.length (j4 : List (List UInt8))) 1)) ?_ ?_
 intro or4 h hr4
 refine zr ?_
 refine zk [.m _] ?_
 obtain ⟨g9, h⟩ := zf h
 obtain ⟨x3, hx3, h⟩ := zo h
 refine zpi hx3 g9 ?_
 refine w_r [.v (.s x3), .m _, .m _] ?_
 refine zk [.m _, .m _] ?_
 obtain ⟨g10, h⟩ := zf h
 obtain ⟨x4, hx4, h⟩ := zo h
 refine w_o (a := .u (((x4).toNat : Nat) : Int)) (h := zv (by rw [← hx4]; exact (zbi (l := ([10, 13, 9] : List UInt8)) (n := s1.2) g10 rfl rfl rfl rfl))) ?_
 refine w_o (a := .b (c == (((x4).toNat : Nat) : Int))) ?_
 refine za3 h (fun hc8 h => ?_) (fun hc8 h => ?_)
 refine zc (k0 := 0) (id := 10) ?_
 refine w_r [.m _, .m _] ?_
 obtain ⟨g11, h⟩ := zf h
 refine w_o (a := .s (([92] : List UInt8) ++ x3)) (h := zv (zad g11 rfl rfl rfl)) ?_
 refine w_o (a := .F ([(([92] : List UInt8) ++ x3)] : List (List UInt8))) (h := zv (zcs (α := (List UInt8)) (l := [(([92] : List UInt8) ++ x3)]) (cs := Enc.cells ((([92] : List UInt8) ++ x3) : (List UInt8)) ++ []) rfl (by rw [Enc.cons, Enc.nil]))) ?_
 obtain ⟨g12, h⟩ := zf h
 refine zga (a := (.O ((s1.1 ++ [(([92] : List UInt8) ++ x3)]) : List (List UInt8)))) (σ'' := (z7 [(128, (Enc.cells (m : RSet)))] 9 (List.length ((s1.1 ++ [(([92] : List UInt8) ++ x3)]) : List (List UInt8))) 1)) rfl rfl rfl (zce rfl rfl rfl rfl (zbu (α := (List UInt8)) (bs := [(128, (Enc.cells (m : RSet)))]) (a := s1.1) (b := [(([92] : List UInt8) ++ x3)]) g12 rfl rfl rfl rfl rfl ⟨rfl, by decide⟩)) (by dsimp only [z6, List.set]) rfl ?_
 refine zp ?_
 refine zg (o := or4) ((s1.1 ++ [(([92] : List UInt8) ++ x3)])) h ?_
 exact zao (bl 87 154742502605111000125407039)
 refine zg (o := or4) (s1.1) h ?_
 exact zao (bl 87 154742502605111000125407039)
 intro j4 h
 refine zbn ?_
 refine zc (k0 := 0) (id := 11) ?_
 obtain ⟨g13, h⟩ := zf h
 refine zej g13 ?_
 refine zp ?_
 refine zz (p := p1) (j4, (s1.2 + 1)) h ?_
 exact zao (bl 87 154742500299267990911713087)
 refine zh h (fun h => ?_)
 refine zg (o := or3) (s1.1) h ?_
 exact zao (bl 87 154742500299021700307091263)
 intro j3 h
 refine zbn ?_
 refine zaf h (bz 0 86 77371247843650248753807649) (fun j5 => [(5, (.O (j5 : List (List UInt8))))]) (fun j5 => (z7 [(128, (Enc.cells (m : RSet)))] 9 (List.length (j5 : List (List UInt8))) 1)) ?_ ?_
 intro or5 h hr5
 refine zk [.v (.i 0)] ?_
 refine zr ?_
 refine zap h (bz 0 86 77371247843650248753807648) (fun s2 => [(5, (.O (s2.1 : List (List UInt8)))), (8, .i s2.2)]) (fun s2 => (z7 [(128, (Enc.cells (m : RSet)))] 9 (List.length (s2.1 : List (List UInt8))) 1)) ?_ ?_
 exact zao (bl 87 77371257067022285608583167)
 intro s2 p2 h
 refine zbn ?_
 refine zj ?_
 refine zk [.m _, .v (.b (decide (s2.2 < 4)))] ?_
 refine za3 h (fun hc9 h => ?_) (fun hc9 h => ?_)
 refine zj ?_
 refine zr ?_
 refine zc (k0 := 0) (id := 15) ?_
 refine w_r [.m _, .m _] ?_
 obtain ⟨g14, h⟩ := zf h
 refine w_o (a := .i c) (h := zv (zfo g14 rfl rfl rfl)) ?_
 refine w_r [.v (.i (IntKind.i64.wrap (Int.tdiv c 16))), .m _, .v (.i (Int.tmod s2.2 2)), .v (.b ((Int.tmod s2.2 2) == 1))] ?_
 obtain ⟨x5, hx5, h⟩ := zl h
 refine zbc (zhe (IntKind.i64.wrap (Int.tdiv c 16)) ((Int.tmod s2.2 2) == 1) x5 hx5) ?_
 refine zp ?_
 obtain ⟨g15, h⟩ := zf h
 refine w_o (a := .i c) (h := zv (zfo g15 rfl rfl rfl)) ?_
 refine w_r [.v (.i (Int.tmod c 16)), .m _, .v (.i (IntKind.i64.wrap (Int.tdiv s2.2 2))), .v (.b ((IntKind.i64.wrap (Int.tdiv s2.2 2)) == 1))] ?_
 obtain ⟨x6, hx6, h⟩ := zl h
 refine zbc (zhe (Int.tmod c 16) ((IntKind.i64.wrap (Int.tdiv s2.2 2)) == 1) x6 hx6) ?_
 obtain ⟨g16, h⟩ := zf h
 obtain ⟨g17, h⟩ := zf h
 refine w_o (a := .F (([(zas x5), (zas x6)] : List UInt8) : List UInt8)) (h := zv (zcs (α := UInt8) (l := ([(zas x5), (zas x6)] : List UInt8)) (cs := [.u x5, .u x6]) rfl (by show List.map _ _ = _; simp only [List.map_cons, List.map_nil, u8c g16, u8c g17]))) ?_
 refine w_o (a := .s ([(zas x5), (zas x6)] : List UInt8)) (h := zv (zdc (l := ([(zas x5), (zas x6)] : List UInt8)) rfl rfl ⟨rfl, rfl⟩ rfl)) ?_
 obtain ⟨g18, h⟩ := zf h
 refine w_o (a := .s (([92, 120] : List UInt8) ++ ([(zas x5), (zas x6)] : List UInt8))) (h := zv (zad g18 rfl rfl rfl)) ?_
 refine w_o (a := .F ([(([92, 120] : List UInt8) ++ ([(zas x5), (zas x6)] : List UInt8))] : List (List UInt8))) (h := zv (zcs (α := (List UInt8)) (l := [(([92, 120] : List UInt8) ++ ([(zas x5), (zas x6)] : List UInt8))]) (cs := Enc.cells ((([92, 120] : List UInt8) ++ ([(zas x5), (zas x6)] : List UInt8)) : (List UInt8)) ++ []) rfl (by rw [Enc.cons, Enc.nil]))) ?_
 obtain ⟨g19, h⟩ := zf h
 refine zga (a := (.O ((s2.1 ++ [(([92, 120] : List UInt8) ++ ([(zas x5), (zas x6)] : List UInt8))]) : List (List UInt8)))) (σ'' := (z7 [(128, (Enc.cells (m : RSet)))] 9 (List.length ((s2.1 ++ [(([92, 120] : List UInt8) ++ ([(zas x5), (zas x6)] : List UInt8))]) : List (List UInt8))) 1)) rfl rfl rfl (zce rfl rfl rfl rfl (zbu (α := (List UInt8)) (bs := [(128, (Enc.cells (m : RSet)))]) (a := s2.1) (b := [(([92, 120] : List UInt8) ++ ([(zas x5), (zas x6)] : List UInt8))]) g19 rfl rfl rfl rfl rfl ⟨rfl, by decide⟩)) (by dsimp only [z6, List.set]) rfl ?_
 refine zp ?_
 refine zc (k0 := 0) (id := 14) ?_
 refine zp ?_
 obtain ⟨g20, h⟩ := zf h
 refine zej g20 ?_
 refine zp ?_
 refine zz (p := p2) ((s2.1 ++ [(([92, 120] : List UInt8) ++ ([(zas x5), (zas x6)] : List UInt8))]), (s2.2 + 1)) h ?_
 exact zao (bl 87 77371257067022285608583167)
 refine zh h (fun h => ?_)
 refine zg (o := or5) (s2.1) h ?_
 exact zao (bl 87 77371257067022285608582910)
 intro j5 h
 refine zbn ?_
 refine zk [.m _, .m _] ?_
 exact zam (fun (r : (List (List UInt8))) => .L (r : List (List UInt8))) h (.O (j5 : List (List UInt8)))
def zvc (fuel : Nat) (c : Int) : Option Int :=
 (zcr (τ := Unit) (zbh (β := Int) (fun s1 => (bif (decide (s1 < 16)) then (z1 (zh4 s1 false) (fun x1 => (bif (c == x1) then (some (Sum.inr (Sum.inr s1))) else (z1 (zh4 s1 true) (fun x2 => (bif (c == x2) then (some (Sum.inr (Sum.inr s1))) else (chk (-9223372036854775808 ≤ (s1 + 1) ∧ (s1 + 1) < 9223372036854775808) (some (Sum.inl ((s1 + 1))))))))))) else (some (Sum.inr (Sum.inl ()))))) fuel (0)) (fun j1 => (some 0)))
theorem ent108 : Ent Tryz.prog 108 := enters_of Tryz.func108 (by kernel_rfl) rfl
theorem rdig_sh (fuel : Nat) (c : Int) (r : Int) (h : zvc fuel c = some r) : Pure (ITP Tryz.prog) Tryz.prog 108 [.raw (.int .u8 c)] (.raw (.int .i64 r)) := by
 unfold zvc at h
 refine zah 18 mix Tryz.func108 ent108 ?_
 refine zk [.v (.i 0)] ?_
 refine zaf h (bz 0 19 524287) (fun j1 => []) (fun j1 => (.B [])) ?_ ?_
 intro or1 h hr1
 refine zk [.v (.i 0)] ?_
 refine zr ?_
 refine zap h (bz 0 19 524286) (fun s1 => [(3, .i s1)]) (fun s1 => (.B [])) ?_ ?_
 exact zao (bl 19 9)
 intro s1 p1 h
 refine zbn ?_
 refine zj ?_
 refine zk [.m _, .v (.b (decide (s1 < 16)))] ?_
 refine za3 h (fun hc1 h => ?_) (fun hc1 h => ?_)
 refine zj ?_
 refine zr ?_
 refine zk [.m _, .m _] ?_
 obtain ⟨x1, hx1, h⟩ := zl h
 refine zbc (zhe s1 false x1 hx1) ?_
 refine w_o (a := .b (c == x1)) ?_
 refine zaa h (fun hc2 h => ?_) (fun hc2 h => ?_)
 refine zar hc2 ?_
 refine w_r [.p, .p, .p, .p, .v (.b true)] ?_
 refine za6 rfl ?_
 refine zk [.m _, .m _] ?_
 refine zh h (fun h => ?_)
 replace h := zq h hr1
 exact zhx h
 refine zar hc2 ?_
 refine w_r [.m _, .m _] ?_
 refine zai rfl rfl ?_
 obtain ⟨x2, hx2, h⟩ := zl h
 refine zbc (zhe s1 true x2 hx2) ?_
 refine w_r [.v (.b (c == x2)), .v (.b (c == x2))] ?_
 refine za3 h (fun hc3 h => ?_) (fun hc3 h => ?_)
 refine zk [.m _, .m _] ?_
 refine zh h (fun h => ?_)
 replace h := zq h hr1
 exact zhx h
 refine zc (k0 := 0) (id := 3) ?_
 refine zp ?_
 obtain ⟨g1, h⟩ := zf h
 refine zej g1 ?_
 refine zp ?_
 refine zz (p := p1) ((s1 + 1)) h ?_
 exact zao (bl 19 9)
 refine zh h (fun h => ?_)
 refine zg (o := or1) () h ?_
 exact zao (bl 19 0)
 intro j1 h
 refine zbn ?_
 refine zk [.v (.i 0)] ?_
 exact zhx h
end Go.Ab
