/-
  reparteeref02 and reparteeref33: numbers, quoting.
-/
import Derived.Test.YtcdmdnadilafhaaGreatDoorZyRc
import Derived.Test.YtcdmdnadilafhaaGreatDoorZdQr
set_option linter.unusedSimpArgs false
set_option linter.unusedVariables false
set_option maxRecDepth 100000
set_option maxHeartbeats 4000000
namespace Go.Ab
open Go Go.RowKit Go.Fwd Go.Proofs
def zg5 (s : (List UInt8)) (t : (List UInt8)) : Option Bool :=
 (bif (decide ((List.length s : Int) ≥ (List.length t : Int))) then (chk (0 ≤ 0 ∧ 0 ≤ (List.length t : Int) ∧ (List.length t : Int) ≤ (List.length s : Int)) (za7 (sub s 0 (List.length t : Int)) (fun x1 => (some (x1 == t))))) else (some false))
theorem ent98 : Ent Tryz.prog 98 := enters_of Tryz.func98 (by kernel_rfl) rfl
theorem zwo (s : (List UInt8)) (t : (List UInt8)) (r : Bool) (h : zg5 s t = some r) : Pure (ITP Tryz.prog) Tryz.prog 98 [.raw (.string (bs s)), .raw (.string (bs t))] (.raw (.bool r)) := by
 unfold zg5 at h
 refine zah 16 mix Tryz.func98 ent98 ?_
 refine zk [.v (.b false)] ?_
 refine zk [.m _] ?_
 refine w_o (a := .i (List.length s : Int)) (h := zv (zba rfl rfl rfl)) ?_
 refine zp ?_
 refine w_o (a := .i (List.length t : Int)) (h := zv (zba rfl rfl rfl)) ?_
 refine w_o (a := .b (decide ((List.length s : Int) ≥ (List.length t : Int)))) ?_
 refine zaa h (fun hc1 h => ?_) (fun hc1 h => ?_)
 refine zar hc1 ?_
 refine w_r [.m _, .m _] ?_
 refine zai rfl rfl ?_
 refine w_o (a := .i (List.length t : Int)) (h := zv (zba rfl rfl rfl)) ?_
 refine zai rfl rfl ?_
 obtain ⟨g1, h⟩ := zf h
 obtain ⟨x1, hx1, h⟩ := zo h
 refine w_o (a := .s x1) (h := zv (by rw [← hx1]; exact (znr (l := s) g1 rfl rfl rfl rfl))) ?_
 refine zai rfl rfl ?_
 refine zp ?_
 refine zai rfl rfl ?_
 refine w_o (a := .b (x1 == t)) (h := zv (zb7 rfl rfl rfl)) ?_
 refine w_r [.v (.b (x1 == t)), .m _] ?_
 exact zaj h
 refine zar hc1 ?_
 refine w_r [.p, .p, .p, .p, .p] ?_
 refine w_r [.p, .v (.b false), .m _] ?_
 exact zaj h
def zq5 (s : (List UInt8)) : Option (List UInt8) :=
 (bif ((List.length s : Int) == 0) then (chk (0 ≤ 0 ∧ 0 ≤ (min (List.length s : Int) 1) ∧ (min (List.length s : Int) 1) ≤ (List.length s : Int)) (za7 (sub s 0 (min (List.length s : Int) 1)) (fun x1 => (some x1)))) else (chk (0 ≤ (0 : Int) ∧ (0 : Int) < (List.length s : Int)) (za7 (ix s (0 : Int)) (fun x2 => (bif ((((x2).toNat : Nat) : Int) != 92) then (chk (0 ≤ 0 ∧ 0 ≤ (min (List.length s : Int) 1) ∧ (min (List.length s : Int) 1) ≤ (List.length s : Int)) (za7 (sub s 0 (min (List.length s : Int) 1)) (fun x3 => (some x3)))) else (bif (decide ((List.length s : Int) > 1)) then (chk (0 ≤ (1 : Int) ∧ (1 : Int) < (List.length s : Int)) (za7 (ix s (1 : Int)) (fun x4 => (chk (0 ≤ (((x4).toNat : Nat) : Int) ∧ (((x4).toNat : Nat) : Int) < 256) (chk ((List.length ([9, 10, 13] : List UInt8) + List.length ([(zas (((x4).toNat : Nat) : Int))] : List UInt8)) * 1 ≤ 140737488355328) (bif (decide ((List.length s : Int) > 3)) then (chk (0 ≤ (2 : Int) ∧ (2 : Int) < (List.length s : Int)) (za7 (ix s (2 : Int)) (fun x5 => (za7 (zv5 x5) (fun x6 => (chk (-9223372036854775808 ≤ (16 * x6) ∧ (16 * x6) < 9223372036854775808) (chk (0 ≤ (3 : Int) ∧ (3 : Int) < (List.length s : Int)) (za7 (ix s (3 : Int)) (fun x7 => (za7 (zv5 x7) (fun x8 => (chk (-9223372036854775808 ≤ ((16 * x6) + x8) ∧ ((16 * x6) + x8) < 9223372036854775808) (chk (0 ≤ (IntKind.u8.wrap ((16 * x6) + x8)) ∧ (IntKind.u8.wrap ((16 * x6) + x8)) < 256) (chk ((List.length (([9, 10, 13] : List UInt8) ++ ([(zas (((x4).toNat : Nat) : Int))] : List UInt8)) + List.length ([(zas (IntKind.u8.wrap ((16 * x6) + x8)))] : List UInt8)) * 1 ≤ 140737488355328) (some ((([9, 10, 13] : List UInt8) ++ ([(zas (((x4).toNat : Nat) : Int))] : List UInt8)) ++ ([(zas (IntKind.u8.wrap ((16 * x6) + x8)))] : List UInt8))))))))))))))))) else (some (([9, 10, 13] : List UInt8) ++ ([(zas (((x4).toNat : Nat) : Int))] : List UInt8))))))))) else (bif (decide ((List.length s : Int) > 3)) then (chk (0 ≤ (2 : Int) ∧ (2 : Int) < (List.length s : Int)) (za7 (ix s (2 : Int)) (fun x9 => (za7 (zv5 x9) (fun x10 => (chk (-9223372036854775808 ≤ (16 * x10) ∧ (16 * x10) < 9223372036854775808) (chk (0 ≤ (3 : Int) ∧ (3 : Int) < (List.length s : Int)) (za7 (ix s (3 : Int)) (fun x11 => (za7 (zv5 x11) (fun x12 => (chk (-9223372036854775808 ≤ ((16 * x10) + x12) ∧ ((16 * x10) + x12) < 9223372036854775808) (chk (0 ≤ (IntKind.u8.wrap ((16 * x10) + x12)) ∧ (IntKind.u8.wrap ((16 * x10) + x12)) < 256) (chk ((List.length ([9, 10, 13] : List UInt8) + List.length ([(zas (IntKind.u8.wrap ((16 * x10) + x12)))] : List UInt8)) * 1 ≤ 140737488355328) (some (([9, 10, 13] : List UInt8) ++ ([(zas (IntKind.u8.wrap ((16 * x10) + x12)))] : List UInt8))))))))))))))))) else (some ([9, 10, 13] : List UInt8)))))))))
theorem ent96 : Ent Tryz.prog 96 := enters_of Tryz.func96 (by kernel_rfl) rfl
theorem rmay_sh (s : (List UInt8)) (r : (List UInt8)) (h : zq5 s = some r) : Pure (ITP Tryz.prog) Tryz.prog 96 [.raw (.string (bs s))] (.L (r : List UInt8)) := by
 unfold zq5 at h
 refine zah 42 mix Tryz.func96 ent96 ?_
 refine zk [.v (.list 0 [] .full)] ?_
 refine zj ?_
 refine zk [.m _] ?_
 refine w_o (a := .i (List.length s : Int)) (h := zv (zba rfl rfl rfl)) ?_
 refine w_o (a := .b ((List.length s : Int) == 0)) ?_
 refine zaa h (fun hc1 h => ?_) (fun hc1 h => ?_)
 refine zar hc1 ?_
 refine w_r [.p, .p, .p, .v (.b true)] ?_
 refine za6 rfl ?_
 refine zk [.m _, .m _] ?_
 refine w_o (a := .i (List.length s : Int)) (h := zv (zba rfl rfl rfl)) ?_
 refine w_o (a := .i (min (List.length s : Int) 1)) (h := zv (q_min rfl rfl rfl rfl rfl)) ?_
 obtain ⟨g1, h⟩ := zf h
 obtain ⟨x1, hx1, h⟩ := zo h
 refine w_o (a := .s x1) (h := zv (by rw [← hx1]; exact (znr (l := s) g1 rfl rfl rfl rfl))) ?_
 refine zmn (a := .L (x1 : List UInt8)) (σ'' := (.B [])) rfl rfl rfl (zuz (l := x1) rfl rfl rfl rfl rfl) (by dsimp only [z6, List.set]) rfl ?_
 refine zp ?_
 exact zam (fun (r : (List UInt8)) => .L (r : List UInt8)) h (.L (x1 : List UInt8))
 refine zar hc1 ?_
 refine zai rfl rfl ?_
 refine zp ?_
 refine zai rfl rfl ?_
 obtain ⟨g2, h⟩ := zf h
 obtain ⟨x2, hx2, h⟩ := zo h
 refine w_o (a := .u (((x2).toNat : Nat) : Int)) (h := zv (by rw [← hx2]; exact (zbi (l := s) (n := (0 : Int)) g2 rfl rfl rfl rfl))) ?_
 refine w_r [.v (.b ((((x2).toNat : Nat) : Int) != 92)), .v (.b ((((x2).toNat : Nat) : Int) != 92))] ?_
 refine za3 h (fun hc2 h => ?_) (fun hc2 h => ?_)
 refine zk [.m _, .m _] ?_
 refine w_o (a := .i (List.length s : Int)) (h := zv (zba rfl rfl rfl)) ?_
 refine w_o (a := .i (min (List.length s : Int) 1)) (h := zv (q_min rfl rfl rfl rfl rfl)) ?_
 obtain ⟨g3, h⟩ := zf h
 obtain ⟨x3, hx3, h⟩ := zo h
 refine w_o (a := .s x3) (h := zv (by rw [← hx3]; exact (znr (l := s) g3 rfl rfl rfl rfl))) ?_
 refine zmn (a := .L (x3 : List UInt8)) (σ'' := (.B [])) rfl rfl rfl (zuz (l := x3) rfl rfl rfl rfl rfl) (by dsimp only [z6, List.set]) rfl ?_
 refine zp ?_
 exact zam (fun (r : (List UInt8)) => .L (r : List UInt8)) h (.L (x3 : List UInt8))
 refine zj (zc ?_)
 refine w_o (a := .F (([9, 10, 13] : List UInt8) : List UInt8)) (h := zv (zcs (α := UInt8) (l := ([9, 10, 13] : List UInt8)) (cs := [.u 9, .u 10, .u 13]) (by kernel_rfl) rfl)) ?_
 refine zp ?_
 refine zj ?_
 refine zk [.m _] ?_
 refine w_o (a := .i (List.length s : Int)) (h := zv (zba rfl rfl rfl)) ?_
 refine w_o (a := .b (decide ((List.length s : Int) > 1))) ?_
 refine za3 h (fun hc3 h => ?_) (fun hc3 h => ?_)
 refine zc (k0 := 0) (id := 5) ?_
 refine w_r [.m _, .m _] ?_
 obtain ⟨g4, h⟩ := zf h
 obtain ⟨x4, hx4, h⟩ := zo h
 refine w_o (a := .u (((x4).toNat : Nat) : Int)) (h := zv (by rw [← hx4]; exact (zbi (l := s) (n := (1 : Int)) g4 rfl rfl rfl rfl))) ?_
 obtain ⟨g5, h⟩ := zf h
 refine w_o (a := .F (([(zas (((x4).toNat : Nat) : Int))] : List UInt8) : List UInt8)) (h := zv (zcs (α := UInt8) (l := ([(zas (((x4).toNat : Nat) : Int))] : List UInt8)) (cs := [.u (((x4).toNat : Nat) : Int)]) rfl (by show List.map _ _ = _; simp only [List.map_cons, List.map_nil, u8c g5]))) ?_
 obtain ⟨g6, h⟩ := zf h
 refine zga (a := (.O ((([9, 10, 13] : List UInt8) ++ ([(zas (((x4).toNat : Nat) : Int))] : List UInt8)) : List UInt8))) (σ'' := (z7 [] 5 (List.length ((([9, 10, 13] : List UInt8) ++ ([(zas (((x4).toNat : Nat) : Int))] : List UInt8)) : List UInt8)) 1)) rfl rfl rfl (zce rfl rfl rfl rfl (zla (α := UInt8) (bx := []) (a := ([9, 10, 13] : List UInt8)) (b := ([(zas (((x4).toNat : Nat) : Int))] : List UInt8)) g6 (Nat.zero_lt_succ _) rfl rfl rfl rfl rfl ⟨rfl, by decide⟩)) (by dsimp only [z6, List.set]) rfl ?_
 refine zp ?_
 refine zj ?_
 refine zk [.m _] ?_
 refine w_o (a := .i (List.length s : Int)) (h := zv (zba rfl rfl rfl)) ?_
 refine w_o (a := .b (decide ((List.length s : Int) > 3))) ?_
 refine za3 h (fun hc4 h => ?_) (fun hc4 h => ?_)
 refine zb3 (k0 := 0) (id := 7) 11 (by kernel_rfl) (by kernel_rfl) ?_
 refine zbg ?_
 refine zbg ?_
 obtain ⟨g7, h⟩ := zf h
 obtain ⟨x5, hx5, h⟩ := zo h
 refine h_o (a := .u (((x5).toNat : Nat) : Int)) (h := by rw [← hx5]; exact (zbi (l := s) (n := (2 : Int)) g7 rfl rfl rfl rfl)) ?_
 obtain ⟨x6, hx6, h⟩ := zo h
 refine zgr (args' := [.u (((x5).toNat : Nat) : Int)]) (r := .i x6) (by rw [← hx6]; exact (zlz x5)) ?_
 obtain ⟨g8, h⟩ := zf h
 refine h_o (a := .i (16 * x6)) (h := q_mul rfl rfl rfl rfl g8.1 g8.2) ?_
 refine zbg ?_
 obtain ⟨g9, h⟩ := zf h
 obtain ⟨x7, hx7, h⟩ := zo h
 refine h_o (a := .u (((x7).toNat : Nat) : Int)) (h := by rw [← hx7]; exact (zbi (l := s) (n := (3 : Int)) g9 rfl rfl rfl rfl)) ?_
 obtain ⟨x8, hx8, h⟩ := zo h
 refine zgr (args' := [.u (((x7).toNat : Nat) : Int)]) (r := .i x8) (by rw [← hx8]; exact (zlz x7)) ?_
 obtain ⟨g10, h⟩ := zf h
 refine h_o (a := .i ((16 * x6) + x8)) (h := ztt rfl rfl rfl rfl g10.1 g10.2) ?_
 refine h_o (a := .u (IntKind.u8.wrap ((16 * x6) + x8))) ?_
 obtain ⟨g11, h⟩ := zf h
 refine h_o (a := .F (([(zas (IntKind.u8.wrap ((16 * x6) + x8)))] : List UInt8) : List UInt8)) (h := zcs (α := UInt8) (l := ([(zas (IntKind.u8.wrap ((16 * x6) + x8)))] : List UInt8)) (cs := [.u (IntKind.u8.wrap ((16 * x6) + x8))]) rfl (by show List.map _ _ = _; simp only [List.map_cons, List.map_nil, u8c g11])) ?_
 refine zbq ?_
 obtain ⟨g12, h⟩ := zf h
 refine zga (a := (.O (((([9, 10, 13] : List UInt8) ++ ([(zas (((x4).toNat : Nat) : Int))] : List UInt8)) ++ ([(zas (IntKind.u8.wrap ((16 * x6) + x8)))] : List UInt8)) : List UInt8))) (σ'' := (z7 [] 5 (List.length (((([9, 10, 13] : List UInt8) ++ ([(zas (((x4).toNat : Nat) : Int))] : List UInt8)) ++ ([(zas (IntKind.u8.wrap ((16 * x6) + x8)))] : List UInt8)) : List UInt8)) 1)) rfl rfl rfl (zce rfl rfl rfl rfl (zbu (α := UInt8) (bs := []) (a := (([9, 10, 13] : List UInt8) ++ ([(zas (((x4).toNat : Nat) : Int))] : List UInt8))) (b := ([(zas (IntKind.u8.wrap ((16 * x6) + x8)))] : List UInt8)) g12 rfl rfl rfl rfl rfl ⟨rfl, by decide⟩)) (by dsimp only [z6, List.set]) rfl ?_
 refine zp ?_
 refine zk [.m _, .m _] ?_
 exact zam (fun (r : (List UInt8)) => .L (r : List UInt8)) h (.O (((([9, 10, 13] : List UInt8) ++ ([(zas (((x4).toNat : Nat) : Int))] : List UInt8)) ++ ([(zas (IntKind.u8.wrap ((16 * x6) + x8)))] : List UInt8)) : List UInt8))
 refine zk [.m _, .m _] ?_
 exact zam (fun (r : (List UInt8)) => .L (r : List UInt8)) h (.O ((([9, 10, 13] : List UInt8) ++ ([(zas (((x4).toNat : Nat) : Int))] : List UInt8)) : List UInt8))
 refine zj ?_
 refine zk [.m _] ?_
 refine w_o (a := .i (List.length s : Int)) (h := zv (zba rfl rfl rfl)) ?_
 refine w_o (a := .b (decide ((List.length s : Int) > 3))) ?_
 refine za3 h (fun hc5 h => ?_) (fun hc5 h => ?_)
 refine zb3 (k0 := 0) (id := 7) 11 (by kernel_rfl) (by kernel_rfl) ?_
 refine zbg ?_
 refine zbg ?_
 obtain ⟨g13, h⟩ := zf h
 obtain ⟨x9, hx9, h⟩ := zo h
 refine h_o (a := .u (((x9).toNat : Nat) : Int)) (h := by rw [← hx9]; exact (zbi (l := s) (n := (2 : Int)) g13 rfl rfl rfl rfl)) ?_
 obtain ⟨x10, hx10, h⟩ := zo h
 refine zgr (args' := [.u (((x9).toNat : Nat) : Int)]) (r := .i x10) (by rw [← hx10]; exact (zlz x9)) ?_
 obtain ⟨g14, h⟩ := zf h
 refine h_o (a := .i (16 * x10)) (h := q_mul rfl rfl rfl rfl g14.1 g14.2) ?_
 refine zbg ?_
 obtain ⟨g15, h⟩ := zf h
 obtain ⟨x11, hx11, h⟩ := zo h
 refine h_o (a := .u (((x11).toNat : Nat) : Int)) (h := by rw [← hx11]; exact (zbi (l := s) (n := (3 : Int)) g15 rfl rfl rfl rfl)) ?_
 obtain ⟨x12, hx12, h⟩ := zo h
 refine zgr (args' := [.u (((x11).toNat : Nat) : Int)]) (r := .i x12) (by rw [← hx12]; exact (zlz x11)) ?_
 obtain ⟨g16, h⟩ := zf h
 refine h_o (a := .i ((16 * x10) + x12)) (h := ztt rfl rfl rfl rfl g16.1 g16.2) ?_
 refine h_o (a := .u (IntKind.u8.wrap ((16 * x10) + x12))) ?_
 obtain ⟨g17, h⟩ := zf h
 refine h_o (a := .F (([(zas (IntKind.u8.wrap ((16 * x10) + x12)))] : List UInt8) : List UInt8)) (h := zcs (α := UInt8) (l := ([(zas (IntKind.u8.wrap ((16 * x10) + x12)))] : List UInt8)) (cs := [.u (IntKind.u8.wrap ((16 * x10) + x12))]) rfl (by show List.map _ _ = _; simp only [List.map_cons, List.map_nil, u8c g17])) ?_
 refine zbq ?_
 obtain ⟨g18, h⟩ := zf h
 refine zga (a := (.O ((([9, 10, 13] : List UInt8) ++ ([(zas (IntKind.u8.wrap ((16 * x10) + x12)))] : List UInt8)) : List UInt8))) (σ'' := (z7 [] 5 (List.length ((([9, 10, 13] : List UInt8) ++ ([(zas (IntKind.u8.wrap ((16 * x10) + x12)))] : List UInt8)) : List UInt8)) 1)) rfl rfl rfl (zce rfl rfl rfl rfl (zla (α := UInt8) (bx := []) (a := ([9, 10, 13] : List UInt8)) (b := ([(zas (IntKind.u8.wrap ((16 * x10) + x12)))] : List UInt8)) g18 (Nat.zero_lt_succ _) rfl rfl rfl rfl rfl ⟨rfl, by decide⟩)) (by dsimp only [z6, List.set]) rfl ?_
 refine zp ?_
 refine zk [.m _, .m _] ?_
 exact zam (fun (r : (List UInt8)) => .L (r : List UInt8)) h (.O ((([9, 10, 13] : List UInt8) ++ ([(zas (IntKind.u8.wrap ((16 * x10) + x12)))] : List UInt8)) : List UInt8))
 refine zk [.m _, .m _] ?_
 exact zam (fun (r : (List UInt8)) => .L (r : List UInt8)) h (.F (([9, 10, 13] : List UInt8) : List UInt8))
def zfd (fuel : Nat) (s : (List UInt8)) (m : RSet) : Option (Int × Int × Int) :=
 (z1 (zq5 s) (fun x1 => (zcr (τ := Unit) (zbh (β := Int) (fun s1 => (bif (decide (s1 < (List.length x1 : Int))) then (zcr (τ := Unit) (chk (0 ≤ s1 ∧ s1 < (List.length x1 : Int)) (chk (m = RSet.mk false) (za7 (ze5 (ix x1 s1)) (fun x2 => (zbh (β := Int) (fun s2 => (bif (decide (s2 < (List.length x2 : Int))) then (chk (0 ≤ s2 ∧ s2 < (List.length x2 : Int)) (z1 (zg5 s (ix x2 s2)) (fun x3 => (bif x3 then (chk (0 ≤ s1 ∧ s1 < (List.length x1 : Int)) (chk (0 ≤ s2 ∧ s2 < (List.length x2 : Int)) (some (Sum.inr (Sum.inr (Sum.inr (Sum.inr (((((ix x1 s1)).toNat : Nat) : Int), (List.length (ix x2 s2) : Int), 0)))))))) else (chk (-9223372036854775808 ≤ (s2 + 1) ∧ (s2 + 1) < 9223372036854775808) (some (Sum.inl ((s2 + 1))))))))) else (some (Sum.inr (Sum.inl ()))))) fuel (0)))))) (fun j2 => (chk (-9223372036854775808 ≤ (s1 + 1) ∧ (s1 + 1) < 9223372036854775808) (some (Sum.inl ((s1 + 1))))))) else (some (Sum.inr (Sum.inl ()))))) fuel (0)) (fun j1 => (some (0, 0, 20))))))
theorem ent78 : Ent Tryz.prog 78 := enters_of Tryz.func78 (by kernel_rfl) rfl
theorem zro (fuel : Nat) (s : (List UInt8)) (m : RSet) (r : (Int × Int × Int)) (h : zfd fuel s m = some r) : Pure (ITP Tryz.prog) Tryz.prog 78 [.raw (.string (bs s)), .A (m : RSet)] (.tup [.raw (.int .u8 r.1), .raw (.int .i64 r.2.1), .raw (.int .i64 r.2.2)]) := by
 unfold zfd at h
 refine zah 44 mix Tryz.func78 ent78 ?_
 refine zj (zc ?_)
 refine zbr (a := .ptr 0 0) (σ'' := (.B [(128, (Enc.cells (m : RSet)))])) ?_
 refine w_r [.v (.u 0), .v (.i 0), .v (.i 0)] ?_
 refine zk [.m _] ?_
 obtain ⟨x1, hx1, h⟩ := zl h
 refine zbc (rmay_sh s x1 hx1) ?_
 refine zp ?_
 refine zaf h (bz 0 46 70368744177663) (fun j1 => []) (fun j1 => (.B [(128, (Enc.cells (m : RSet)))])) ?_ ?_
 intro or1 h hr1
 refine zk [.v (.i 0)] ?_
 refine zr ?_
 refine zap h (bz 0 46 70368744177526) (fun s1 => [(8, .i s1)]) (fun s1 => (.B [(128, (Enc.cells (m : RSet)))])) ?_ ?_
 exact zao (bl 46 393)
 intro s1 p1 h
 refine zbn ?_
 refine zj ?_
 refine zk [.m _, .m _, .v (.i (List.length x1 : Int)), .v (.b (decide (s1 < (List.length x1 : Int))))] ?_
 refine za3 h (fun hc1 h => ?_) (fun hc1 h => ?_)
 refine zaf h (bz 0 46 70368743777904) (fun j2 => []) (fun j2 => (.B [(128, (Enc.cells (m : RSet)))])) ?_ ?_
 intro or2 h hr2
 refine zr ?_
 refine zj ?_
 refine zb3 (k0 := 0) (id := 5) 5 (by kernel_rfl) (by kernel_rfl) ?_
 refine zbg ?_
 refine zbg ?_
 obtain ⟨g1, h⟩ := zf h
 refine h_o (a := .iptr (Enc.cells (ix x1 s1) ++ Enc.cellsL (List.drop (Int.toNat s1 + 1) x1))) (h := zgd (α := UInt8) (l := x1) g1 rfl rfl rfl rfl rfl) ?_
 refine h_o (a := .u ((((ix x1 s1)).toNat : Nat) : Int)) ?_
 refine h_o (a := .A (m : RSet)) (h := zf4 m (by decide) rfl rfl rfl) ?_
 refine zbq ?_
 obtain ⟨g2, h⟩ := zf h
 obtain ⟨x2, hx2, h⟩ := zo h
 refine zbc (args' := [.u ((((ix x1 s1)).toNat : Nat) : Int), .A (m : RSet)]) (r := .L (x2 : List (List UInt8))) (by rw [← hx2]; exact (by rw [g2]; exact zwk (ix x1 s1))) ?_
 refine zp ?_
 refine zk [.v (.i 0)] ?_
 refine zr ?_
 refine zap h (bz 0 46 70368743777392) (fun s2 => [(10, .i s2)]) (fun s2 => (.B [(128, (Enc.cells (m : RSet)))])) ?_ ?_
 exact zao (bl 46 401295)
 intro s2 p2 h
 refine zbn ?_
 refine zj ?_
 refine zk [.m _, .m _, .v (.i (List.length x2 : Int)), .v (.b (decide (s2 < (List.length x2 : Int))))] ?_
 refine za3 h (fun hc2 h => ?_) (fun hc2 h => ?_)
 refine zj ?_
 refine zr ?_
 refine zk [.m _, .m _, .m _] ?_
 obtain ⟨g3, h⟩ := zf h
 refine w_o (a := .iptr (Enc.cells (ix x2 s2) ++ Enc.cellsL (List.drop (Int.toNat s2 + 1) x2))) (h := zv (zgd (α := (List UInt8)) (l := x2) g3 rfl rfl rfl rfl rfl)) ?_
 refine w_o (a := .s (ix x2 s2)) ?_
 obtain ⟨x3, hx3, h⟩ := zl h
 refine zbc (zwo s (ix x2 s2) x3 hx3) ?_
 refine za3 h (fun hc3 h => ?_) (fun hc3 h => ?_)
 refine zj ?_
 refine zb3 (k0 := 0) (id := 10) 10 (by kernel_rfl) (by kernel_rfl) ?_
 refine zbg ?_
 refine zbg ?_
 obtain ⟨g4, h⟩ := zf h
 refine h_o (a := .iptr (Enc.cells (ix x1 s1) ++ Enc.cellsL (List.drop (Int.toNat s1 + 1) x1))) (h := zgd (α := UInt8) (l := x1) g4 rfl rfl rfl rfl rfl) ?_
 refine h_o (a := .u ((((ix x1 s1)).toNat : Nat) : Int)) ?_
 refine zbg ?_
 refine zbg ?_
 obtain ⟨g5, h⟩ := zf h
 refine h_o (a := .iptr (Enc.cells (ix x2 s2) ++ Enc.cellsL (List.drop (Int.toNat s2 + 1) x2))) (h := zgd (α := (List UInt8)) (l := x2) g5 rfl rfl rfl rfl rfl) ?_
 refine h_o (a := .s (ix x2 s2)) ?_
 refine h_o (a := .i (List.length (ix x2 s2) : Int)) (h := zba rfl rfl rfl) ?_
 refine zbg ?_
 refine zbq ?_
 refine w_r [.m _, .v (.i 0)] ?_
 refine zh h (fun h => ?_)
 replace h := zq h hr2
 refine zh h (fun h => ?_)
 replace h := zq h hr1
 exact zam (fun (r : (Int × Int × Int)) => .tup [.u r.1, .i r.2.1, .i r.2.2]) h (.tup [.u ((((ix x1 s1)).toNat : Nat) : Int), .i (List.length (ix x2 s2) : Int), .i 0])
 refine zc (k0 := 0) (id := 8) ?_
 refine zp ?_
 obtain ⟨g6, h⟩ := zf h
 refine zej g6 ?_
 refine zp ?_
 refine zz (p := p2) ((s2 + 1)) h ?_
 exact zao (bl 46 401295)
 refine zh h (fun h => ?_)
 refine zg (o := or2) () h ?_
 exact zao (bl 46 399759)
 intro j2 h
 refine zbn ?_
 refine zc (k0 := 0) (id := 4) ?_
 refine zp ?_
 obtain ⟨g7, h⟩ := zf h
 refine zej g7 ?_
 refine zp ?_
 refine zz (p := p1) ((s1 + 1)) h ?_
 exact zao (bl 46 393)
 refine zh h (fun h => ?_)
 refine zg (o := or1) () h ?_
 exact zao (bl 46 0)
 intro j1 h
 refine zbn ?_
 refine zk [.v (.u 0), .v (.i 0), .v (.i 20)] ?_
 exact zam (fun (r : (Int × Int × Int)) => .tup [.u r.1, .i r.2.1, .i r.2.2]) h (.tup [.u 0, .i 0, .i 20])
def zi0 (fuel : Nat) (b : (List UInt8)) (m : RSet) : Option (List UInt8) :=
 (zcr (τ := (List UInt8)) (zbh (β := (List UInt8) × Int) (fun s1 => (bif (decide (s1.2 < (List.length b : Int))) then (chk (0 ≤ s1.2 ∧ s1.2 < (List.length b : Int)) (za7 (ix b s1.2) (fun x1 => (chk (m = RSet.mk false) (za7 (byteP x1) (fun x2 => (chk ((List.length s1.1 + List.length x2) * 1 ≤ 140737488355328) (chk (-9223372036854775808 ≤ (s1.2 + 1) ∧ (s1.2 + 1) < 9223372036854775808) (some (Sum.inl ((s1.1 ++ x2), (s1.2 + 1)))))))))))) else (some (Sum.inr (Sum.inl (s1.1)))))) fuel (([] : (List UInt8)), 0)) (fun j1 => (some j1)))
theorem ent79 : Ent Tryz.prog 79 := enters_of Tryz.func79 (by kernel_rfl) rfl
theorem zw6 (fuel : Nat) (b : (List UInt8)) (m : RSet) (r : (List UInt8)) (h : zi0 fuel b m = some r) : Pure (ITP Tryz.prog) Tryz.prog 79 [.raw (.string (bs b)), .A (m : RSet)] (.raw (.string (bs r))) := by
 unfold zi0 at h
 refine zah 20 mix Tryz.func79 ent79 ?_
 refine zj (zc ?_)
 refine zbr (a := .ptr 0 0) (σ'' := (.B [(128, (Enc.cells (m : RSet)))])) ?_
 refine w_o (a := .s ([] : List UInt8)) ?_
 refine zk [.v (.list 0 [] .full)] ?_
 refine zaf h (bz 0 22 4194303) (fun j1 => [(5, (.O (j1 : List UInt8)))]) (fun j1 => (z7 [(128, (Enc.cells (m : RSet)))] 5 (List.length (j1 : List UInt8)) 1)) ?_ ?_
 intro or1 h hr1
 refine zk [.v (.i 0)] ?_
 refine zr ?_
 refine zap h (bz 0 22 4194294) (fun s1 => [(5, (.O (s1.1 : List UInt8))), (6, .i s1.2)]) (fun s1 => (z7 [(128, (Enc.cells (m : RSet)))] 5 (List.length (s1.1 : List UInt8)) 1)) ?_ ?_
 exact zao (bl 22 105)
 intro s1 p1 h
 refine zbn ?_
 refine zj ?_
 refine zk [.m _, .m _] ?_
 refine w_o (a := .i (List.length b : Int)) (h := zv (zba rfl rfl rfl)) ?_
 refine w_o (a := .b (decide (s1.2 < (List.length b : Int)))) ?_
 refine za3 h (fun hc1 h => ?_) (fun hc1 h => ?_)
 refine zj ?_
 refine zr ?_
 refine zb3 (k0 := 0) (id := 5) 6 (by kernel_rfl) (by kernel_rfl) ?_
 refine zbg ?_
 refine zbg ?_
 refine zbg ?_
 obtain ⟨g1, h⟩ := zf h
 obtain ⟨x1, hx1, h⟩ := zo h
 refine h_o (a := .u (((x1).toNat : Nat) : Int)) (h := by rw [← hx1]; exact (zbi (l := b) (n := s1.2) g1 rfl rfl rfl rfl)) ?_
 refine h_o (a := .A (m : RSet)) (h := zf4 m (by decide) rfl rfl rfl) ?_
 obtain ⟨g2, h⟩ := zf h
 obtain ⟨x2, hx2, h⟩ := zo h
 refine zgr (args' := [.u (((x1).toNat : Nat) : Int), .A (m : RSet)]) (r := .s x2) (by rw [← hx2]; exact (by rw [g2]; exact zwj x1)) ?_
 refine zbq ?_
 obtain ⟨g3, h⟩ := zf h
 refine zga (a := (.O ((s1.1 ++ x2) : List UInt8))) (σ'' := (z7 [(128, (Enc.cells (m : RSet)))] 5 (List.length ((s1.1 ++ x2) : List UInt8)) 1)) rfl rfl rfl (zwr rfl rfl rfl rfl (by decide) (zt9 (bx := [(128, (Enc.cells (m : RSet)))]) (a := s1.1) (b := x2) g3 rfl rfl rfl rfl rfl rfl rfl)) (by dsimp only [z6, List.set]) rfl ?_
 refine zp ?_
 refine zc (k0 := 0) (id := 4) ?_
 refine zp ?_
 obtain ⟨g4, h⟩ := zf h
 refine zej g4 ?_
 refine zp ?_
 refine zz (p := p1) ((s1.1 ++ x2), (s1.2 + 1)) h ?_
 exact zao (bl 22 105)
 refine zh h (fun h => ?_)
 refine zg (o := or1) (s1.1) h ?_
 exact zao (bl 22 32)
 intro j1 h
 refine zbn ?_
 refine zk [.m _] ?_
 refine w_o (a := .s j1) (h := zv (zud (l := j1) rfl rfl ⟨rfl, rfl⟩ rfl)) ?_
 refine zp ?_
 exact zd7 h
def zd8 (fuel : Nat) (s : (List UInt8)) : Option ((List UInt8) × Int × Int) :=
 (bif ((List.length s : Int) == 0) then (some (([] : List UInt8), 0, 21)) else (chk (0 ≤ (0 : Int) ∧ (0 : Int) < (List.length s : Int)) (za7 (ix s (0 : Int)) (fun x1 => (bif ((((x1).toNat : Nat) : Int) != 34) then (some (([] : List UInt8), 0, 21)) else (zcr (τ := (List UInt8) × Int) (zbh (β := (List UInt8) × Int) (fun s1 => (bif (decide (s1.2 < (List.length s : Int))) then (chk (0 ≤ s1.2 ∧ s1.2 < (List.length s : Int)) (za7 (ix s s1.2) (fun x2 => (bif ((((x2).toNat : Nat) : Int) != 34) then (chk (0 ≤ s1.2 ∧ s1.2 ≤ (List.length s : Int) ∧ (List.length s : Int) ≤ (List.length s : Int)) (za7 (sub s s1.2 (List.length s : Int)) (fun x3 => (z1 (zfd fuel x3 (RSet.mk false)) (fun x4 => (bif (x4.2.2 != 0) then (some (Sum.inr (Sum.inr (([] : List UInt8), s1.2, x4.2.2)))) else (chk (0 ≤ x4.1 ∧ x4.1 < 256) (chk ((List.length s1.1 + List.length ([(zas x4.1)] : List UInt8)) * 1 ≤ 140737488355328) (chk (-9223372036854775808 ≤ (s1.2 + x4.2.1) ∧ (s1.2 + x4.2.1) < 9223372036854775808) (some (Sum.inl ((s1.1 ++ ([(zas x4.1)] : List UInt8)), (s1.2 + x4.2.1))))))))))))) else (some (Sum.inr (Sum.inl (s1.1, s1.2)))))))) else (some (Sum.inr (Sum.inl (s1.1, s1.2)))))) fuel (([] : (List UInt8)), 1)) (fun j1 => (bif (j1.2 == (List.length s : Int)) then (some (([] : List UInt8), j1.2, 21)) else (chk (-9223372036854775808 ≤ (j1.2 + 1) ∧ (j1.2 + 1) < 9223372036854775808) (some (j1.1, (j1.2 + 1), 0)))))))))))
theorem ent60 : Ent Tryz.prog 60 := enters_of Tryz.func60 (by kernel_rfl) rfl
theorem zta (fuel : Nat) (s : (List UInt8)) (r : ((List UInt8) × Int × Int)) (h : zd8 fuel s = some r) : Pure (ITP Tryz.prog) Tryz.prog 60 [.raw (.string (bs s))] (.tup [.raw (.string (bs r.1)), .raw (.int .i64 r.2.1), .raw (.int .i64 r.2.2)]) := by
 unfold zd8 at h
 refine zah 59 mix Tryz.func60 ent60 ?_
 refine zk [.v (.s ([] : List UInt8)), .v (.i 0), .v (.i 0)] ?_
 refine zj ?_
 refine zk [.m _] ?_
 refine w_o (a := .i (List.length s : Int)) (h := zv (zba rfl rfl rfl)) ?_
 refine w_o (a := .b ((List.length s : Int) == 0)) ?_
 refine zaa h (fun hc1 h => ?_) (fun hc1 h => ?_)
 refine zar hc1 ?_
 refine w_r [.p, .p, .p, .v (.b true)] ?_
 refine za6 rfl ?_
 refine zk [.v (.s ([] : List UInt8)), .v (.i 0), .v (.i 21)] ?_
 exact zam (fun (r : ((List UInt8) × Int × Int)) => .tup [.s r.1, .i r.2.1, .i r.2.2]) h (.tup [.s ([] : List UInt8), .i 0, .i 21])
 refine zar hc1 ?_
 refine zai rfl rfl ?_
 refine zp ?_
 refine zai rfl rfl ?_
 obtain ⟨g1, h⟩ := zf h
 obtain ⟨x1, hx1, h⟩ := zo h
 refine w_o (a := .u (((x1).toNat : Nat) : Int)) (h := zv (by rw [← hx1]; exact (zbi (l := s) (n := (0 : Int)) g1 rfl rfl rfl rfl))) ?_
 refine w_r [.v (.b ((((x1).toNat : Nat) : Int) != 34)), .v (.b ((((x1).toNat : Nat) : Int) != 34))] ?_
 refine za3 h (fun hc2 h => ?_) (fun hc2 h => ?_)
 refine zk [.v (.s ([] : List UInt8)), .v (.i 0), .v (.i 21)] ?_
 exact zam (fun (r : ((List UInt8) × Int × Int)) => .tup [.s r.1, .i r.2.1, .i r.2.2]) h (.tup [.s ([] : List UInt8), .i 0, .i 21])
 refine zj (zc ?_)
 refine w_o (a := .F (([34] : List UInt8) : List UInt8)) (h := zv (zcs (α := UInt8) (l := ([34] : List UInt8)) (cs := [.u 34]) rfl rfl)) ?_
 refine zbc (r := .A ((RSet.mk false) : RSet)) zuk ?_
 refine zga (a := .ptr 0 0) (σ'' := (.B [(128, (Enc.cells ((RSet.mk true) : RSet)))])) rfl rfl rfl (zyf (by decide) rfl) (by dsimp only [z6, List.set]) rfl ?_
 refine zbr (σ'' := (.B [(128, (Enc.cells ((RSet.mk false) : RSet)))])) (h := zm0 (n := 256) rfl rfl rfl rfl rfl (Enc.len _) rfl (Enc.len _) (by decide)) ?_
 refine zk [.v (.list 0 [] .full)] ?_
 refine zk [.v (.i 1)] ?_
 refine zaf h (bz 0 60 1152921504606846974) (fun j1 => [(6, (.O (j1.1 : List UInt8))), (7, .i j1.2)]) (fun j1 => (z7 [(128, (Enc.cells ((RSet.mk false) : RSet)))] 5 (List.length (j1.1 : List UInt8)) 1)) ?_ ?_
 intro or1 h hr1
 refine zr ?_
 refine zap h (bz 0 60 1152921504606846942) (fun s1 => [(6, (.O (s1.1 : List UInt8))), (7, .i s1.2)]) (fun s1 => (z7 [(128, (Enc.cells ((RSet.mk false) : RSet)))] 5 (List.length (s1.1 : List UInt8)) 1)) ?_ ?_
 exact zao (bl 60 225)
 intro s1 p1 h
 refine zbn ?_
 refine zj ?_
 refine zk [.m _, .m _] ?_
 refine w_o (a := .i (List.length s : Int)) (h := zv (zba rfl rfl rfl)) ?_
 refine w_o (a := .b (decide (s1.2 < (List.length s : Int)))) ?_
 refine zaa h (fun hc3 h => ?_) (fun hc3 h => ?_)
 refine zar hc3 ?_
 refine w_r [.m _, .m _] ?_
 refine zai rfl rfl ?_
 obtain ⟨g2, h⟩ := zf h
 obtain ⟨x2, hx2, h⟩ := zo h
 refine w_o (a := .u (((x2).toNat : Nat) : Int)) (h := zv (by rw [← hx2]; exact (zbi (l := s) (n := s1.2) g2 rfl rfl rfl rfl))) ?_
 refine w_r [.v (.b ((((x2).toNat : Nat) : Int) != 34)), .v (.b ((((x2).toNat : Nat) : Int) != 34))] ?_
 refine za3 h (fun hc4 h => ?_) (fun hc4 h => ?_)
 refine zr ?_
 refine zj ?_
 refine zb3 (k0 := 0) (id := 7) 11 (by kernel_rfl) (by kernel_rfl) ?_
 refine zbg ?_
 refine zbg ?_
 obtain ⟨g3, h⟩ := zf h
 obtain ⟨x3, hx3, h⟩ := zo h
 refine h_o (a := .s x3) (h := by rw [← hx3]; exact (zmq (l := s) g3 rfl rfl rfl rfl)) ?_
 refine h_o (a := .A ((RSet.mk false) : RSet)) (h := zf4 (RSet.mk false) (by decide) rfl rfl rfl) ?_
 obtain ⟨x4, hx4, h⟩ := zl h
 refine zgr (zro fuel x3 (RSet.mk false) x4 hx4) ?_
 refine zbg ?_
 refine h_ex ?_
 refine h_ex ?_
 refine h_ex ?_
 refine zbg ?_
 refine zbg ?_
 refine zbq ?_
 refine zp ?_
 refine zj ?_
 refine zk [.m _, .v (.b (x4.2.2 != 0))] ?_
 refine za3 h (fun hc5 h => ?_) (fun hc5 h => ?_)
 refine zk [.m _, .m _, .v (.s ([] : List UInt8)), .m _, .m _] ?_
 refine zh h (fun h => ?_)
 replace h := zq h hr1
 exact zam (fun (r : ((List UInt8) × Int × Int)) => .tup [.s r.1, .i r.2.1, .i r.2.2]) h (.tup [.s ([] : List UInt8), .i s1.2, .i x4.2.2])
 refine zk [.m _, .m _] ?_
 obtain ⟨g4, h⟩ := zf h
 refine w_o (a := .F (([(zas x4.1)] : List UInt8) : List UInt8)) (h := zv (zcs (α := UInt8) (l := ([(zas x4.1)] : List UInt8)) (cs := [.u x4.1]) rfl (by show List.map _ _ = _; simp only [List.map_cons, List.map_nil, u8c g4]))) ?_
 obtain ⟨g5, h⟩ := zf h
 refine zga (a := (.O ((s1.1 ++ ([(zas x4.1)] : List UInt8)) : List UInt8))) (σ'' := (z7 [(128, (Enc.cells ((RSet.mk false) : RSet)))] 5 (List.length ((s1.1 ++ ([(zas x4.1)] : List UInt8)) : List UInt8)) 1)) rfl rfl rfl (zce rfl rfl rfl rfl (zbu (α := UInt8) (bs := [(128, (Enc.cells ((RSet.mk false) : RSet)))]) (a := s1.1) (b := ([(zas x4.1)] : List UInt8)) g5 rfl rfl rfl rfl rfl ⟨rfl, by decide⟩)) (by dsimp only [z6, List.set]) rfl ?_
 refine zp ?_
 refine zc (k0 := 0) (id := 11) ?_
 refine w_r [.m _, .m _] ?_
 obtain ⟨g6, h⟩ := zf h
 refine zej g6 ?_
 refine zp ?_
 refine zz (p := p1) ((s1.1 ++ ([(zas x4.1)] : List UInt8)), (s1.2 + x4.2.1)) h ?_
 exact zao (bl 60 225)
 refine zh h (fun h => ?_)
 refine zg (o := or1) (s1.1, s1.2) h ?_
 exact zao (bl 60 193)
 refine zar hc3 ?_
 refine w_r [.p, .p, .p, .p, .v (.b false)] ?_
 refine zbv rfl ?_
 refine zh h (fun h => ?_)
 refine zg (o := or1) (s1.1, s1.2) h ?_
 exact zao (bl 60 193)
 intro j1 h
 refine zbn ?_
 refine zj ?_
 refine zk [.m _, .m _] ?_
 refine w_o (a := .i (List.length s : Int)) (h := zv (zba rfl rfl rfl)) ?_
 refine w_o (a := .b (j1.2 == (List.length s : Int))) ?_
 refine za3 h (fun hc6 h => ?_) (fun hc6 h => ?_)
 refine zk [.m _, .v (.s ([] : List UInt8)), .m _, .v (.i 21)] ?_
 exact zam (fun (r : ((List UInt8) × Int × Int)) => .tup [.s r.1, .i r.2.1, .i r.2.2]) h (.tup [.s ([] : List UInt8), .i j1.2, .i 21])
 refine zk [.m _] ?_
 refine w_o (a := .s j1.1) (h := zv (zud (l := j1.1) rfl rfl ⟨rfl, rfl⟩ rfl)) ?_
 refine zp ?_
 obtain ⟨g7, h⟩ := zf h
 refine zej g7 ?_
 refine w_r [.m _, .m _, .v (.i 0)] ?_
 exact zam (fun (r : ((List UInt8) × Int × Int)) => .tup [.s r.1, .i r.2.1, .i r.2.2]) h (.tup [.s j1.1, .i (j1.2 + 1), .i 0])
def z0o (m : Int) (n : Int) : Option (List UInt8) :=
 (bif (decide (n < 10)) then (chk (-9223372036854775808 ≤ (n + 1) ∧ (n + 1) < 9223372036854775808) (chk (0 ≤ n ∧ n ≤ (n + 1) ∧ (n + 1) ≤ (List.length ([48, 49, 50, 51, 52, 53, 54, 55, 56, 57] : List UInt8) : Int)) (za7 (sub ([48, 49, 50, 51, 52, 53, 54, 55, 56, 57] : List UInt8) n (n + 1)) (fun x1 => (some x1))))) else (chk (0 ≤ (IntKind.i64.wrap (Int.tdiv n 10)) ∧ (IntKind.i64.wrap (Int.tdiv n 10)) < m) (za7 (Lib.itoa (IntKind.i64.wrap (Int.tdiv n 10))) (fun x2 => (chk (-9223372036854775808 ≤ ((Int.tmod n 10) + 1) ∧ ((Int.tmod n 10) + 1) < 9223372036854775808) (chk (0 ≤ (Int.tmod n 10) ∧ (Int.tmod n 10) ≤ ((Int.tmod n 10) + 1) ∧ ((Int.tmod n 10) + 1) ≤ (List.length ([48, 49, 50, 51, 52, 53, 54, 55, 56, 57] : List UInt8) : Int)) (za7 (sub ([48, 49, 50, 51, 52, 53, 54, 55, 56, 57] : List UInt8) (Int.tmod n 10) ((Int.tmod n 10) + 1)) (fun x3 => (chk (List.length x2 + List.length x3 ≤ 9223372036854775807) (some (x2 ++ x3)))))))))))
theorem ent80 : Ent Tryz.prog 80 := enters_of Tryz.func80 (by kernel_rfl) rfl
theorem dec_sh (m : Int) (n : Int) (r : (List UInt8)) (ih : ∀ x : Int, 0 ≤ x ∧ x < m → Pure (ITP Tryz.prog) Tryz.prog 80 [.raw (.int .i64 x)] (.raw (.string (bs (Lib.itoa x))))) (h : z0o m n = some r) : Pure (ITP Tryz.prog) Tryz.prog 80 [.raw (.int .i64 n)] (.raw (.string (bs r))) := by
 unfold z0o at h
 refine zah 18 mix Tryz.func80 ent80 ?_
 refine zk [.v (.s ([] : List UInt8))] ?_
 refine zj ?_
 refine zk [.m _, .v (.b (decide (n < 10)))] ?_
 refine za3 h (fun hc1 h => ?_) (fun hc1 h => ?_)
 refine zk [.m _, .m _] ?_
 obtain ⟨g1, h⟩ := zf h
 refine zej g1 ?_
 obtain ⟨g2, h⟩ := zf h
 obtain ⟨x1, hx1, h⟩ := zo h
 refine w_o (a := .s x1) (h := zv (by rw [← hx1]; exact (zuf (l := ([48, 49, 50, 51, 52, 53, 54, 55, 56, 57] : List UInt8)) g2 rfl rfl rfl rfl rfl))) ?_
 refine zp ?_
 exact zd7 h
 refine zj ?_
 refine zb3 (k0 := 0) (id := 3) 9 (by kernel_rfl) (by kernel_rfl) ?_
 refine zbg ?_
 refine h_o (a := .i (IntKind.i64.wrap (Int.tdiv n 10))) ?_
 obtain ⟨g3, h⟩ := zf h
 obtain ⟨x2, hx2, h⟩ := zo h
 refine zgr (args' := [.i (IntKind.i64.wrap (Int.tdiv n 10))]) (r := .s x2) (by rw [← hx2]; exact (ih (IntKind.i64.wrap (Int.tdiv n 10)) g3)) ?_
 refine zbg ?_
 refine h_o (a := .i (Int.tmod n 10)) ?_
 refine zbg ?_
 refine h_o (a := .i (Int.tmod n 10)) ?_
 obtain ⟨g4, h⟩ := zf h
 refine h_o (a := .i ((Int.tmod n 10) + 1)) (h := ztt rfl rfl rfl rfl g4.1 g4.2) ?_
 obtain ⟨g5, h⟩ := zf h
 obtain ⟨x3, hx3, h⟩ := zo h
 refine h_o (a := .s x3) (h := by rw [← hx3]; exact (zuf (l := ([48, 49, 50, 51, 52, 53, 54, 55, 56, 57] : List UInt8)) g5 rfl rfl rfl rfl rfl)) ?_
 refine zbq ?_
 obtain ⟨g6, h⟩ := zf h
 refine w_o (a := .s (x2 ++ x3)) (h := zv (zad g6 rfl rfl rfl)) ?_
 refine zp ?_
 exact zd7 h
def zhb (fuel : Nat) (s : (List UInt8)) : Option (List Int) :=
 (zcr (τ := (List Int)) (zbh (β := (List Int) × Int) (fun s1 => (bif (decide (s1.2 < (List.length s : Int))) then (chk (0 ≤ s1.2 ∧ s1.2 < (List.length s : Int)) (za7 (ix s s1.2) (fun x1 => (bif ((((x1).toNat : Nat) : Int) != 32) then (some (Sum.inr (Sum.inr ([] : (List Int))))) else (chk (-9223372036854775808 ≤ (s1.2 + 1) ∧ (s1.2 + 1) < 9223372036854775808) (zcr (τ := Int × Int) (zbh (β := Int × Int) (fun s2 => (bif (decide (s2.2 < (List.length s : Int))) then (chk (0 ≤ s2.2 ∧ s2.2 < (List.length s : Int)) (za7 (ix s s2.2) (fun x2 => (bif (decide ((((x2).toNat : Nat) : Int) ≥ 48)) then (chk (0 ≤ s2.2 ∧ s2.2 < (List.length s : Int)) (za7 (ix s s2.2) (fun x3 => (bif (decide ((((x3).toNat : Nat) : Int) ≤ 57)) then (chk (-9223372036854775808 ≤ (s1.2 + 11) ∧ (s1.2 + 11) < 9223372036854775808) (bif (decide (s2.2 < (s1.2 + 11))) then (chk (-9223372036854775808 ≤ (s2.1 * 10) ∧ (s2.1 * 10) < 9223372036854775808) (chk (0 ≤ s2.2 ∧ s2.2 < (List.length s : Int)) (za7 (ix s s2.2) (fun x4 => (chk (-9223372036854775808 ≤ (((x4).toNat : Nat) : Int) ∧ (((x4).toNat : Nat) : Int) < 9223372036854775808) (chk (-9223372036854775808 ≤ ((s2.1 * 10) + (((x4).toNat : Nat) : Int)) ∧ ((s2.1 * 10) + (((x4).toNat : Nat) : Int)) < 9223372036854775808) (chk (-9223372036854775808 ≤ (((s2.1 * 10) + (((x4).toNat : Nat) : Int)) - 48) ∧ (((s2.1 * 10) + (((x4).toNat : Nat) : Int)) - 48) < 9223372036854775808) (chk (-9223372036854775808 ≤ (s2.2 + 1) ∧ (s2.2 + 1) < 9223372036854775808) (some (Sum.inl ((((s2.1 * 10) + (((x4).toNat : Nat) : Int)) - 48), (s2.2 + 1)))))))))))) else (some (Sum.inr (Sum.inl (s2.1, s2.2)))))) else (some (Sum.inr (Sum.inl (s2.1, s2.2)))))))) else (some (Sum.inr (Sum.inl (s2.1, s2.2)))))))) else (some (Sum.inr (Sum.inl (s2.1, s2.2)))))) fuel (0, (s1.2 + 1))) (fun j2 => (zcr (τ := Unit) (chk (-9223372036854775808 ≤ (s1.2 + 1) ∧ (s1.2 + 1) < 9223372036854775808) (bif (j2.2 == (s1.2 + 1)) then (some (Sum.inr (Sum.inr (Sum.inr ([] : (List Int)))))) else (chk (-9223372036854775808 ≤ (s1.2 + 1) ∧ (s1.2 + 1) < 9223372036854775808) (chk (0 ≤ (s1.2 + 1) ∧ (s1.2 + 1) < (List.length s : Int)) (za7 (ix s (s1.2 + 1)) (fun x5 => (bif ((((x5).toNat : Nat) : Int) == 48) then (chk (-9223372036854775808 ≤ (s1.2 + 2) ∧ (s1.2 + 2) < 9223372036854775808) (bif (decide (j2.2 > (s1.2 + 2))) then (some (Sum.inr (Sum.inr (Sum.inr ([] : (List Int)))))) else (some (Sum.inl ())))) else (some (Sum.inl ()))))))))) (fun j3 => (chk ((List.length s1.1 + List.length [j2.1]) * 8 ≤ 140737488355328) (some (Sum.inl ((s1.1 ++ [j2.1]), j2.2))))))))))))) else (some (Sum.inr (Sum.inl (s1.1)))))) fuel (([] : (List Int)), 0)) (fun j1 => (some j1)))
theorem ent59 : Ent Tryz.prog 59 := enters_of Tryz.func59 (by kernel_rfl) rfl
theorem zui (fuel : Nat) (s : (List UInt8)) (r : (List Int)) (h : zhb fuel s = some r) : Pure (ITP Tryz.prog) Tryz.prog 59 [.raw (.string (bs s))] (.L (r : List Int)) := by
 unfold zhb at h
 refine zah 71 mix Tryz.func59 ent59 ?_
 refine zk [.v (.list 0 [] .full)] ?_
 refine zk [.v (.list 0 [] .full)] ?_
 refine zaf h (bz 0 72 4722366482869645213695) (fun j1 => [(3, (.O (j1 : List Int)))]) (fun j1 => (z7 [] 3 (List.length (j1 : List Int)) 1)) ?_ ?_
 intro or1 h hr1
 refine zk [.v (.i 0)] ?_
 refine zr ?_
 refine zap h (bz 0 72 4722366482869645213694) (fun s1 => [(3, (.O (s1.1 : List Int))), (4, .i s1.2)]) (fun s1 => (z7 [] 3 (List.length (s1.1 : List Int)) 1)) ?_ ?_
 exact zao (bl 72 25)
 intro s1 p1 h
 refine zbn ?_
 refine zj ?_
 refine zk [.m _, .m _] ?_
 refine w_o (a := .i (List.length s : Int)) (h := zv (zba rfl rfl rfl)) ?_
 refine w_o (a := .b (decide (s1.2 < (List.length s : Int)))) ?_
 refine za3 h (fun hc1 h => ?_) (fun hc1 h => ?_)
 refine zr ?_
 refine zj ?_
 refine zk [.m _, .m _] ?_
 obtain ⟨g1, h⟩ := zf h
 obtain ⟨x1, hx1, h⟩ := zo h
 refine w_o (a := .u (((x1).toNat : Nat) : Int)) (h := zv (by rw [← hx1]; exact (zbi (l := s) (n := s1.2) g1 rfl rfl rfl rfl))) ?_
 refine w_o (a := .b ((((x1).toNat : Nat) : Int) != 32)) ?_
 refine za3 h (fun hc2 h => ?_) (fun hc2 h => ?_)
 refine zk [.v (.list 0 [] .full)] ?_
 refine zh h (fun h => ?_)
 replace h := zq h hr1
 exact zdt (fun (r : (List Int)) => (.L (r : List Int) : AV)) h rfl rfl rfl
 refine zk [.m _] ?_
 obtain ⟨g2, h⟩ := zf h
 refine zej g2 ?_
 refine w_r [.v (.i 0), .m _] ?_
 refine zaf h (bz 0 49 562949953421280) (fun j2 => [(5, .i j2.1), (6, .i j2.2)]) (fun j2 => (z7 [] 3 (List.length (s1.1 : List Int)) 1)) ?_ ?_
 intro or2 h hr2
 refine zr ?_
 refine zap h (bz 0 49 562949953421280) (fun s2 => [(5, .i s2.1), (6, .i s2.2)]) (fun s2 => (z7 [] 3 (List.length (s1.1 : List Int)) 1)) ?_ ?_
 exact zao (bl 72 4722365919919691792511)
 intro s2 p2 h
 refine zbn ?_
 refine zj ?_
 refine zk [.m _, .m _] ?_
 refine w_o (a := .i (List.length s : Int)) (h := zv (zba rfl rfl rfl)) ?_
 refine w_o (a := .b (decide (s2.2 < (List.length s : Int)))) ?_
 refine zaa h (fun hc3 h => ?_) (fun hc3 h => ?_)
 refine zar hc3 ?_
 refine w_r [.m _, .m _] ?_
 refine zai rfl rfl ?_
 obtain ⟨g3, h⟩ := zf h
 obtain ⟨x2, hx2, h⟩ := zo h
 refine w_o (a := .u (((x2).toNat : Nat) : Int)) (h := zv (by rw [← hx2]; exact (zbi (l := s) (n := s2.2) g3 rfl rfl rfl rfl))) ?_
 refine w_r [.v (.b (decide ((((x2).toNat : Nat) : Int) ≥ 48))), .v (.b (decide ((((x2).toNat : Nat) : Int) ≥ 48)))] ?_
 refine zaa h (fun hc4 h => ?_) (fun hc4 h => ?_)
 refine zar hc4 ?_
 refine w_r [.m _, .m _] ?_
 refine zai rfl rfl ?_
 obtain ⟨g4, h⟩ := zf h
 obtain ⟨x3, hx3, h⟩ := zo h
 refine w_o (a := .u (((x3).toNat : Nat) : Int)) (h := zv (by rw [← hx3]; exact (zbi (l := s) (n := s2.2) g4 rfl rfl rfl rfl))) ?_
 refine w_r [.v (.b (decide ((((x3).toNat : Nat) : Int) ≤ 57))), .v (.b (decide ((((x3).toNat : Nat) : Int) ≤ 57)))] ?_
 refine zaa h (fun hc5 h => ?_) (fun hc5 h => ?_)
 refine zar hc5 ?_
 refine w_r [.m _, .m _] ?_
 refine zai rfl rfl ?_
 obtain ⟨g5, h⟩ := zf h
 refine zej g5 ?_
 refine w_r [.v (.b (decide (s2.2 < (s1.2 + 11)))), .v (.b (decide (s2.2 < (s1.2 + 11))))] ?_
 refine za3 h (fun hc6 h => ?_) (fun hc6 h => ?_)
 refine zr ?_
 refine zk [.m _] ?_
 obtain ⟨g6, h⟩ := zf h
 refine w_o (a := .i (s2.1 * 10)) (h := zv (q_mul rfl rfl rfl rfl g6.1 g6.2)) ?_
 refine w_r [.m _, .m _] ?_
 obtain ⟨g7, h⟩ := zf h
 obtain ⟨x4, hx4, h⟩ := zo h
 refine w_o (a := .u (((x4).toNat : Nat) : Int)) (h := zv (by rw [← hx4]; exact (zbi (l := s) (n := s2.2) g7 rfl rfl rfl rfl))) ?_
 obtain ⟨g8, h⟩ := zf h
 refine w_o (a := .i (((x4).toNat : Nat) : Int)) (h := zv (zfo g8 rfl rfl rfl)) ?_
 obtain ⟨g9, h⟩ := zf h
 refine zej g9 ?_
 obtain ⟨g10, h⟩ := zf h
 refine w_sb g10 ?_
 refine zp ?_
 refine zc (k0 := 0) (id := 9) ?_
 refine zp ?_
 obtain ⟨g11, h⟩ := zf h
 refine zej g11 ?_
 refine zp ?_
 refine zz (p := p2) ((((s2.1 * 10) + (((x4).toNat : Nat) : Int)) - 48), (s2.2 + 1)) h ?_
 exact zao (bl 72 4722365919919691792511)
 refine zh h (fun h => ?_)
 refine zg (o := or2) (s2.1, s2.2) h ?_
 exact zao (bl 72 4722365919919691792511)
 refine zar hc5 ?_
 refine w_r [.p, .p, .p, .p, .v (.b false)] ?_
 refine zbv rfl ?_
 refine zh h (fun h => ?_)
 refine zg (o := or2) (s2.1, s2.2) h ?_
 exact zao (bl 72 4722365919919691792511)
 refine zar hc4 ?_
 refine w_r [.p, .p, .p, .p, .v (.b false)] ?_
 refine w_r [.m _, .p, .p, .p, .p] ?_
 refine w_r [.v (.b false)] ?_
 refine zbv rfl ?_
 refine zh h (fun h => ?_)
 refine zg (o := or2) (s2.1, s2.2) h ?_
 exact zao (bl 72 4722365919919691792511)
 refine zar hc3 ?_
 refine w_r [.p, .p, .p, .p, .v (.b false)] ?_
 refine w_r [.m _, .p, .p, .p, .p] ?_
 refine w_r [.v (.b false), .m _, .p, .p, .p] ?_
 refine w_r [.p, .v (.b false)] ?_
 refine zbv rfl ?_
 refine zh h (fun h => ?_)
 refine zg (o := or2) (s2.1, s2.2) h ?_
 exact zao (bl 72 4722365919919691792511)
 intro j2 h
 refine zbn ?_
 refine zaf h (bz 0 66 73786413344884785172) (fun j3 => []) (fun j3 => (z7 [] 3 (List.length (s1.1 : List Int)) 1)) ?_ ?_
 intro or3 h hr3
 refine zk [.m _, .m _] ?_
 obtain ⟨g12, h⟩ := zf h
 refine zej g12 ?_
 refine w_o (a := .b (j2.2 == (s1.2 + 1))) ?_
 refine zaa h (fun hc7 h => ?_) (fun hc7 h => ?_)
 refine zar hc7 ?_
 refine w_r [.p, .p, .p, .p, .p] ?_
 refine w_r [.p, .p, .p, .p, .p] ?_
 refine w_r [.p, .v (.b true)] ?_
 refine za6 rfl ?_
 refine zk [.v (.list 0 [] .full)] ?_
 replace h := zq h hr3
 refine zh h (fun h => ?_)
 replace h := zq h hr1
 exact zdt (fun (r : (List Int)) => (.L (r : List Int) : AV)) h rfl rfl rfl
 refine zar hc7 ?_
 refine w_r [.m _, .m _] ?_
 refine zai rfl rfl ?_
 obtain ⟨g13, h⟩ := zf h
 refine zej g13 ?_
 refine zai rfl rfl ?_
 obtain ⟨g14, h⟩ := zf h
 obtain ⟨x5, hx5, h⟩ := zo h
 refine w_o (a := .u (((x5).toNat : Nat) : Int)) (h := zv (by rw [← hx5]; exact (zbi (l := s) (n := (s1.2 + 1)) g14 rfl rfl rfl rfl))) ?_
 refine zai rfl rfl ?_
 refine w_o (a := .b ((((x5).toNat : Nat) : Int) == 48)) ?_
 refine zai rfl rfl ?_
 refine zaa h (fun hc8 h => ?_) (fun hc8 h => ?_)
 refine zar hc8 ?_
 refine w_r [.m _, .m _] ?_
 refine zai rfl rfl ?_
 obtain ⟨g15, h⟩ := zf h
 refine zej g15 ?_
 refine w_r [.v (.b (decide (j2.2 > (s1.2 + 2)))), .v (.b (decide (j2.2 > (s1.2 + 2)))), .v (.b (decide (j2.2 > (s1.2 + 2))))] ?_
 refine za3 h (fun hc9 h => ?_) (fun hc9 h => ?_)
 refine zk [.v (.list 0 [] .full)] ?_
 replace h := zq h hr3
 refine zh h (fun h => ?_)
 replace h := zq h hr1
 exact zdt (fun (r : (List Int)) => (.L (r : List Int) : AV)) h rfl rfl rfl
 refine zg (o := or3) () h ?_
 exact zao (bl 72 4648580069524760428523)
 refine zar hc8 ?_
 refine w_r [.p, .p, .p, .p, .v (.b false)] ?_
 refine w_r [.v (.b false)] ?_
 refine zbv rfl ?_
 refine zg (o := or3) () h ?_
 exact zao (bl 72 4648580069524760428523)
 intro j3 h
 refine zbn ?_
 refine zk [.m _, .m _] ?_
 refine w_o (a := .F ([j2.1] : List Int)) (h := zv (zcs (α := Int) (l := [j2.1]) (cs := Enc.cells (j2.1 : Int) ++ []) rfl (by rw [Enc.cons, Enc.nil]))) ?_
 obtain ⟨g16, h⟩ := zf h
 refine zga (a := (.O ((s1.1 ++ [j2.1]) : List Int))) (σ'' := (z7 [] 3 (List.length ((s1.1 ++ [j2.1]) : List Int)) 1)) rfl rfl rfl (zce rfl rfl rfl rfl (zbu (α := Int) (bs := []) (a := s1.1) (b := [j2.1]) g16 rfl rfl rfl rfl rfl ⟨rfl, by decide⟩)) (by dsimp only [z6, List.set]) rfl ?_
 refine zp ?_
 refine zc (k0 := 0) (id := 13) ?_
 refine w_r [.m _, .m _] ?_
 refine zz (p := p1) ((s1.1 ++ [j2.1]), j2.2) h ?_
 exact zao (bl 72 25)
 refine zh h (fun h => ?_)
 refine zg (o := or1) (s1.1) h ?_
 exact zao (bl 72 8)
 intro j1 h
 refine zbn ?_
 refine zk [.m _, .m _] ?_
 exact zam (fun (r : (List Int)) => .L (r : List Int)) h (.O (j1 : List Int))
end Go.Ab
