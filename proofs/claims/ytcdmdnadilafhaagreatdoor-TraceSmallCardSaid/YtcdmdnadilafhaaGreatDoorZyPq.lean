/-
  trace: what is right; what Made makes is right.
-/
import Derived.Test.YtcdmdnadilafhaaGreatDoorZyEn2
import Derived.Test.YtcdmdnadilafhaaGreatDoorZdQr
import Derived.Test.YtcdmdnadilafhaaGreatDoorZyBld
import Derived.Test.YtcdmdnadilafhaaGreatDoorZyQc
set_option linter.unusedSimpArgs false
set_option linter.unusedVariables false
set_option maxRecDepth 100000
set_option maxHeartbeats 4000000
namespace Go.Ab
open Go Go.RowKit Go.Fwd Go.Proofs
def zmo (fuel : Nat) (a : (List En)) (b : (List En)) : Option Bool :=
 (bif ((List.length a : Int) != (List.length b : Int)) then (some false) else (zcr (τ := Unit) (zbh (β := Int) (fun s1 => (bif (decide (s1 < (List.length a : Int))) then (chk (0 ≤ s1 ∧ s1 < (List.length a : Int)) (za7 (ix a s1) (fun x1 => (chk (0 ≤ s1 ∧ s1 < (List.length b : Int)) (za7 (ix b s1) (fun x2 => (bif (decide (x1 ≠ x2)) then (some (Sum.inr (Sum.inr false))) else (chk (-9223372036854775808 ≤ (s1 + 1) ∧ (s1 + 1) < 9223372036854775808) (some (Sum.inl ((s1 + 1)))))))))))) else (some (Sum.inr (Sum.inl ()))))) fuel (0)) (fun j1 => (some true))))
theorem ent50 : Ent Tryz.prog 50 := enters_of Tryz.func50 (by kernel_rfl) rfl
theorem z1u (fuel : Nat) (a : (List En)) (b : (List En)) (r : Bool) (h : zmo fuel a b = some r) : Pure (ITP Tryz.prog) Tryz.prog 50 [.L (a : List En), .L (b : List En)] (.raw (.bool r)) := by
 unfold zmo at h
 refine zah 24 mix Tryz.func50 ent50 ?_
 refine zk [.v (.b false)] ?_
 refine zj ?_
 refine zk [.m _, .v (.i (List.length a : Int)), .m _, .v (.i (List.length b : Int)), .v (.b ((List.length a : Int) != (List.length b : Int)))] ?_
 refine za3 h (fun hc1 h => ?_) (fun hc1 h => ?_)
 refine zk [.v (.b false)] ?_
 exact zaj h
 refine zaf h (bz 0 26 67108863) (fun j1 => []) (fun j1 => (.B [])) ?_ ?_
 intro or1 h hr1
 refine zk [.m _, .v (.i (List.length a : Int)), .v (.i 0)] ?_
 refine zr ?_
 refine zap h (bz 0 26 67104764) (fun s1 => [(13, .i s1)]) (fun s1 => (.B [])) ?_ ?_
 exact zao (bl 26 12291)
 intro s1 p1 h
 refine zbn ?_
 refine zk [.v (.b (decide (s1 < (List.length a : Int))))] ?_
 refine zj ?_
 refine za3 h (fun hc2 h => ?_) (fun hc2 h => ?_)
 refine zj ?_
 refine zr ?_
 refine zk [.m _, .m _] ?_
 refine zj ?_
 refine zb3 (k0 := 0) (id := 6) 8 (by kernel_rfl) (by kernel_rfl) ?_
 refine zbg ?_
 refine zbg ?_
 obtain ⟨g1, h⟩ := zf h
 obtain ⟨x1, hx1, h⟩ := zo h
 refine zn8 hx1 g1 ?_
 refine h_o (a := .A (x1 : En)) ?_
 refine zbg ?_
 refine zbg ?_
 obtain ⟨g2, h⟩ := zf h
 obtain ⟨x2, hx2, h⟩ := zo h
 refine zn8 hx2 g2 ?_
 refine h_o (a := .A (x2 : En)) ?_
 refine zbq ?_
 refine zoc (.b (decide (x1 ≠ x2))) rfl rfl rfl (z02 x1 x2 rfl rfl rfl) (by dsimp only [z6, List.set]) ?_
 refine za3 h (fun hc3 h => ?_) (fun hc3 h => ?_)
 refine zk [.v (.b false)] ?_
 refine zh h (fun h => ?_)
 replace h := zq h hr1
 exact zaj h
 refine zc (k0 := 0) (id := 8) ?_
 obtain ⟨g3, h⟩ := zf h
 refine zej g3 ?_
 refine zp ?_
 refine zz (p := p1) ((s1 + 1)) h ?_
 exact zao (bl 26 12291)
 refine zh h (fun h => ?_)
 refine zg (o := or1) () h ?_
 exact zao (bl 26 0)
 intro j1 h
 refine zbn ?_
 refine zk [.v (.b true)] ?_
 exact zaj h
def zq8 (fuel : Nat) (a : Trc) (b : Trc) : Option Bool :=
 (z1 (zmo fuel a.l b.l) (fun x1 => (bif x1 then (some (decide (a.e = b.e))) else (some false))))
theorem ent21 : Ent Tryz.prog 21 := enters_of Tryz.func21 (by kernel_rfl) rfl
theorem same_sh (fuel : Nat) (a : Trc) (b : Trc) (r : Bool) (h : zq8 fuel a b = some r) : Pure (ITP Tryz.prog) Tryz.prog 21 [.A (a : Trc), .A (b : Trc)] (.raw (.bool r)) := by
 unfold zq8 at h
 refine zah 15 mix Tryz.func21 ent21 ?_
 refine zj (zc ?_)
 refine zbr (a := .ptr 0 0) (σ'' := (.B [(27, (Enc.cells (a : Trc)))])) ?_
 refine zbr (a := .ptr 1 0) (σ'' := (.B [(27, (Enc.cells (a : Trc))), (27, (Enc.cells (b : Trc)))])) ?_
 refine w_o (a := .b false) ?_
 refine zk [.v (.ptr 0 0), .v (.L (a.l : List En)), .v (.ptr 1 0), .v (.L (b.l : List En))] ?_
 obtain ⟨x1, hx1, h⟩ := zl h
 refine zbc (z1u fuel a.l b.l x1 hx1) ?_
 refine zaa h (fun hc1 h => ?_) (fun hc1 h => ?_)
 refine zar hc1 ?_
 refine w_r [.v (.ptr 0 1), .v (.A (a.e : Ed)), .v (.ptr 1 1), .v (.A (b.e : Ed))] ?_
 refine zai rfl rfl ?_
 refine zoc (.b (decide (a.e = b.e))) rfl rfl rfl (zsw a.e b.e rfl rfl rfl) (by dsimp only [z6, List.set]) ?_
 refine w_r [.v (.b (decide (a.e = b.e))), .m _] ?_
 exact zaj h
 refine zar hc1 ?_
 refine w_r [.p, .p, .p, .p, .p] ?_
 refine w_r [.v (.b false), .m _] ?_
 exact zaj h
def zhp (fuel : Nat) (a : Trc) (b : Trc) : Option (Int × Bool) :=
 (zcr (τ := Int) (zbh (β := Int) (fun s1 => (bif (decide (s1 < (min (List.length a.l : Int) (List.length b.l : Int)))) then (chk (0 ≤ s1 ∧ s1 < (List.length a.l : Int)) (za7 (ix a.l s1) (fun x1 => (chk (0 ≤ s1 ∧ s1 < (List.length b.l : Int)) (za7 (ix b.l s1) (fun x2 => (bif (decide (x1 = x2)) then (chk (-9223372036854775808 ≤ (s1 + 1) ∧ (s1 + 1) < 9223372036854775808) (some (Sum.inl ((s1 + 1))))) else (some (Sum.inr (Sum.inl (s1))))))))))) else (some (Sum.inr (Sum.inl (s1)))))) fuel (0)) (fun j1 => (zcr (τ := Unit) (bif (j1 == (List.length a.l : Int)) then (bif (j1 == (List.length b.l : Int)) then (bif (decide (a.e = b.e)) then (some (Sum.inr (0, false))) else (some (Sum.inl ()))) else (some (Sum.inl ()))) else (some (Sum.inl ()))) (fun j2 => (some (j1, true))))))
theorem ent20 : Ent Tryz.prog 20 := enters_of Tryz.func20 (by kernel_rfl) rfl
theorem zr9 (fuel : Nat) (a : Trc) (b : Trc) (r : (Int × Bool)) (h : zhp fuel a b = some r) : Pure (ITP Tryz.prog) Tryz.prog 20 [.A (a : Trc), .A (b : Trc)] (.tup [.raw (.int .i64 r.1), .raw (.bool r.2)]) := by
 unfold zhp at h
 refine zah 49 mix Tryz.func20 ent20 ?_
 refine zj (zc ?_)
 refine zbr (a := .ptr 0 0) (σ'' := (.B [(27, (Enc.cells (a : Trc)))])) ?_
 refine zbr (a := .ptr 1 0) (σ'' := (.B [(27, (Enc.cells (a : Trc))), (27, (Enc.cells (b : Trc)))])) ?_
 refine w_r [.v (.i 0), .v (.b false)] ?_
 refine zk [.v (.i 0)] ?_
 refine zaf h (bz 0 51 2251799813685235) (fun j1 => [(6, .i j1)]) (fun j1 => (.B [(27, (Enc.cells (a : Trc))), (27, (Enc.cells (b : Trc)))])) ?_ ?_
 intro or1 h hr1
 refine zr ?_
 refine zap h (bz 0 51 2251799813685235) (fun s1 => [(6, .i s1)]) (fun s1 => (.B [(27, (Enc.cells (a : Trc))), (27, (Enc.cells (b : Trc)))])) ?_ ?_
 exact zao (bl 51 76)
 intro s1 p1 h
 refine zbn ?_
 refine zj ?_
 refine zj ?_
 refine zb3 (k0 := 0) (id := 2) 20 (by kernel_rfl) (by kernel_rfl) ?_
 refine zbg ?_
 refine h_o (a := .ptr 0 0) ?_
 refine h_o (a := .L (a.l : List En)) ?_
 refine h_o (a := .i (List.length a.l : Int)) ?_
 refine h_o (a := .ptr 1 0) ?_
 refine h_o (a := .L (b.l : List En)) ?_
 refine h_o (a := .i (List.length b.l : Int)) ?_
 refine h_o (a := .i (min (List.length a.l : Int) (List.length b.l : Int))) (h := q_min rfl rfl rfl rfl rfl) ?_
 refine h_o (a := .b (decide (s1 < (min (List.length a.l : Int) (List.length b.l : Int))))) ?_
 refine zaa h (fun hc1 h => ?_) (fun hc1 h => ?_)
 refine h_o (a := .b true) (h := zae rfl hc1) ?_
 refine zag rfl rfl ?_
 refine h_o (a := .ptr 0 0) ?_
 refine zag rfl rfl ?_
 refine h_o (a := .L (a.l : List En)) ?_
 refine zag rfl rfl ?_
 refine zbg ?_
 refine zag rfl rfl ?_
 obtain ⟨g1, h⟩ := zf h
 obtain ⟨x1, hx1, h⟩ := zo h
 refine zn8 hx1 g1 ?_
 refine zag rfl rfl ?_
 refine h_o (a := .A (x1 : En)) ?_
 refine zag rfl rfl ?_
 refine h_o (a := .ptr 1 0) ?_
 refine zag rfl rfl ?_
 refine h_o (a := .L (b.l : List En)) ?_
 refine zag rfl rfl ?_
 refine zbg ?_
 refine zag rfl rfl ?_
 obtain ⟨g2, h⟩ := zf h
 obtain ⟨x2, hx2, h⟩ := zo h
 refine zn8 hx2 g2 ?_
 refine zag rfl rfl ?_
 refine h_o (a := .A (x2 : En)) ?_
 refine zbq ?_
 refine zai rfl rfl ?_
 refine zoc (.b (decide (x1 = x2))) rfl rfl rfl (ztg x1 x2 rfl rfl rfl) (by dsimp only [z6, List.set]) ?_
 refine w_o (a := .b (decide (x1 = x2))) ?_
 refine za3 h (fun hc2 h => ?_) (fun hc2 h => ?_)
 refine zr ?_
 refine zc (k0 := 0) (id := 3) ?_
 refine zp ?_
 obtain ⟨g3, h⟩ := zf h
 refine zej g3 ?_
 refine zp ?_
 refine zz (p := p1) ((s1 + 1)) h ?_
 exact zao (bl 51 76)
 refine zh h (fun h => ?_)
 refine zg (o := or1) (s1) h ?_
 exact zao (bl 51 76)
 refine h_o (a := .b false) (h := zae rfl hc1) ?_
 refine z8 ?_
 refine z8 ?_
 refine z8 ?_
 refine z8 ?_
 refine z8 ?_
 refine z8 ?_
 refine z8 ?_
 refine z8 ?_
 refine z8 ?_
 refine z8 ?_
 refine zbq ?_
 refine w_r [.p, .v (.b false)] ?_
 refine zbv rfl ?_
 refine zh h (fun h => ?_)
 refine zg (o := or1) (s1) h ?_
 exact zao (bl 51 76)
 intro j1 h
 refine zbn ?_
 refine zaf h (bz 0 50 1125897759359036) (fun j2 => []) (fun j2 => (.B [(27, (Enc.cells (a : Trc))), (27, (Enc.cells (b : Trc)))])) ?_ ?_
 intro or2 h hr2
 refine zk [.m _, .v (.ptr 0 0), .v (.L (a.l : List En)), .v (.i (List.length a.l : Int)), .v (.b (j1 == (List.length a.l : Int)))] ?_
 refine zaa h (fun hc3 h => ?_) (fun hc3 h => ?_)
 refine zar hc3 ?_
 refine w_r [.m _, .v (.ptr 1 0), .v (.L (b.l : List En)), .v (.i (List.length b.l : Int)), .v (.b (j1 == (List.length b.l : Int)))] ?_
 refine w_r [.v (.b (j1 == (List.length b.l : Int)))] ?_
 refine zaa h (fun hc4 h => ?_) (fun hc4 h => ?_)
 refine zar hc4 ?_
 refine w_r [.v (.ptr 0 1), .v (.A (a.e : Ed)), .v (.ptr 1 1), .v (.A (b.e : Ed))] ?_
 refine zai rfl rfl ?_
 refine zoc (.b (decide (a.e = b.e))) rfl rfl rfl (zsw a.e b.e rfl rfl rfl) (by dsimp only [z6, List.set]) ?_
 refine w_o (a := .b (decide (a.e = b.e))) ?_
 refine za3 h (fun hc5 h => ?_) (fun hc5 h => ?_)
 refine zk [.v (.i 0), .v (.b false)] ?_
 replace h := zq h hr2
 exact zam (fun (r : (Int × Bool)) => .tup [.i r.1, .b r.2]) h (.tup [.i 0, .b false])
 refine zg (o := or2) () h ?_
 exact zao (bl 51 1125902054326211)
 refine zar hc4 ?_
 refine w_r [.p, .p, .p, .p, .p] ?_
 refine w_r [.v (.b false)] ?_
 refine zbv rfl ?_
 refine zg (o := or2) () h ?_
 exact zao (bl 51 1125902054326211)
 refine zar hc3 ?_
 refine w_r [.p, .p, .p, .p, .p] ?_
 refine w_r [.v (.b false), .m _, .p, .p, .p] ?_
 refine w_r [.p, .p, .v (.b false)] ?_
 refine zbv rfl ?_
 refine zg (o := or2) () h ?_
 exact zao (bl 51 1125902054326211)
 intro j2 h
 refine zbn ?_
 refine zk [.m _, .m _, .v (.b true)] ?_
 exact zam (fun (r : (Int × Bool)) => .tup [.i r.1, .b r.2]) h (.tup [.i j1, .b true])
def zq9 (fuel : Nat) (a : Trc) (b : Trc) : Option Bool :=
 (z1 (zhp fuel a b) (fun x1 => (bif (!x1.2) then (some true) else (bif (decide (a.e = (Ed.mk 1 0))) then (some (x1.1 == (List.length a.l : Int))) else (some false)))))
theorem ent25 : Ent Tryz.prog 25 := enters_of Tryz.func25 (by kernel_rfl) rfl
theorem goes_sh (fuel : Nat) (a : Trc) (b : Trc) (r : Bool) (h : zq9 fuel a b = some r) : Pure (ITP Tryz.prog) Tryz.prog 25 [.A (a : Trc), .A (b : Trc)] (.raw (.bool r)) := by
 unfold zq9 at h
 refine zah 26 mix Tryz.func25 ent25 ?_
 refine zj (zc ?_)
 refine zbr (a := .ptr 0 0) (σ'' := (.B [(27, (Enc.cells (a : Trc)))])) ?_
 refine zbr (a := .ptr 1 0) (σ'' := (.B [(27, (Enc.cells (a : Trc))), (27, (Enc.cells (b : Trc)))])) ?_
 refine w_o (a := .b false) ?_
 refine zk [.v (.A (a : Trc)), .v (.A (b : Trc))] ?_
 obtain ⟨x1, hx1, h⟩ := zl h
 refine zbc (zr9 fuel a b x1 hx1) ?_
 refine w_r [.m _, .x _, .x _, .m _, .m _] ?_
 refine zk [.m _, .v (.b (!x1.2))] ?_
 refine zaa h (fun hc1 h => ?_) (fun hc1 h => ?_)
 refine zar hc1 ?_
 refine w_r [.p, .p, .p, .p, .p] ?_
 refine w_r [.p, .p, .p, .p, .p] ?_
 refine w_r [.p, .v (.b true), .m _] ?_
 exact zaj h
 refine zar hc1 ?_
 refine w_r [.v (.ptr 0 1), .v (.A (a.e : Ed)), .v (.A ((Ed.mk 1 0) : Ed))] ?_
 refine zai rfl rfl ?_
 refine zoc (.b (decide (a.e = (Ed.mk 1 0)))) rfl rfl rfl (zsw a.e (Ed.mk 1 0) rfl rfl rfl) (by dsimp only [z6, List.set]) ?_
 refine zai rfl rfl ?_
 refine zaa h (fun hc2 h => ?_) (fun hc2 h => ?_)
 refine zar hc2 ?_
 refine w_r [.m _, .v (.ptr 0 0), .v (.L (a.l : List En)), .v (.i (List.length a.l : Int)), .v (.b (x1.1 == (List.length a.l : Int)))] ?_
 refine w_r [.v (.b (x1.1 == (List.length a.l : Int))), .v (.b (x1.1 == (List.length a.l : Int))), .m _] ?_
 exact zaj h
 refine zar hc2 ?_
 refine w_r [.p, .p, .p, .p, .p] ?_
 refine w_r [.v (.b false), .v (.b false), .m _] ?_
 exact zaj h
end Go.Ab
set_option linter.unusedSimpArgs false
set_option linter.unusedVariables false
namespace Go.Ab
open Go Go.RowKit Go.Fwd Go.Proofs
structure Ct where
 f : Nat
 args : List AV
 r : AV
def tblT (T : List Ct) : CallP := fun f args => match T.find? (fun c => c.f == f && ziv c.args args) with
 | some c => some c.r
 | none => libP f args
def zhw (c : Ct) : Prop := Pure (ITP Tryz.prog) Tryz.prog c.f c.args c.r
theorem zf3 {T : List Ct} (h : ∀ c ∈ T, zhw c) : Good Tryz.prog (tblT T) bldS := ⟨mix, ents, fun f args r e => by
 unfold tblT at e
 split at e
 ·rename_i c hc
  cases e
  have h1 := List.find?_some hc
  simp only [Bool.and_eq_true, beq_iff_eq] at h1
  have h2 := h c (List.mem_of_find?_eq_some hc)
  rw [zhw, h1.1, zd9 _ _ h1.2] at h2
  exact h2
 ·exact zyw f args r e, zy9⟩
def sV (l : List Nat) : AV := .raw (.string ⟨(l.map fun b => UInt8.ofNat b).toArray⟩)
def iV (n : Int) : AV := .raw (.int .i64 n)
def uV (n : Int) : AV := .raw (.int .u8 n)
def bV (b : Bool) : AV := .raw (.bool b)
def enV (k : Int) (a b : Int) (s : List Nat) : List AV := [uV k, iV a, iV b, sV s]
def trV (n : Nat) (cs : List AV) (k c : Int) : AV := .agg [.list n cs .none, uV k, iV c]
def exC : List AV := enV 1 0 0 [104, 105] ++ enV 2 0 3 [] ++ enV 3 3 5 [] ++ enV 2 5 5 []
def exT : AV := trV 4 exC 2 7
def fiT (k c : Int) : AV := trV 2 (enV 1 0 0 [104, 105] ++ enV 2 0 3 []) k c
def noT : AV := trV 0 [] 0 0
theorem aw0 : zhw ⟨27, [(sV [115, 101, 110, 100, 32, 34, 104, 105, 34])], (.tup [.agg [uV 0, iV 0], bV false])⟩ := zt zef 300 (by kernel_rfl)
theorem aw1 : zhw ⟨28, [(sV [115, 101, 110, 100, 32, 34, 104, 105, 34])], (.tup [(.agg (enV 1 0 0 [104, 105])), bV true])⟩ := zt zef 300 (by kernel_rfl)
theorem aw2 : zhw ⟨27, [(sV [116, 97, 107, 101, 32, 48, 32, 51])], (.tup [.agg [uV 0, iV 0], bV false])⟩ := zt zef 300 (by kernel_rfl)
theorem aw3 : zhw ⟨28, [(sV [116, 97, 107, 101, 32, 48, 32, 51])], (.tup [(.agg (enV 2 0 3 [])), bV true])⟩ := zt zef 300 (by kernel_rfl)
theorem aw4 : zhw ⟨27, [(sV [108, 111, 115, 101, 32, 51, 32, 53])], (.tup [.agg [uV 0, iV 0], bV false])⟩ := zt zef 300 (by kernel_rfl)
theorem aw5 : zhw ⟨28, [(sV [108, 111, 115, 101, 32, 51, 32, 53])], (.tup [(.agg (enV 3 3 5 [])), bV true])⟩ := zt zef 300 (by kernel_rfl)
theorem aw6 : zhw ⟨27, [(sV [116, 97, 107, 101, 32, 53, 32, 53])], (.tup [.agg [uV 0, iV 0], bV false])⟩ := zt zef 300 (by kernel_rfl)
theorem aw7 : zhw ⟨28, [(sV [116, 97, 107, 101, 32, 53, 32, 53])], (.tup [(.agg (enV 2 5 5 [])), bV true])⟩ := zt zef 300 (by kernel_rfl)
theorem aw8 : zhw ⟨27, [(sV [101, 120, 105, 116, 32, 55])], (.tup [.agg [uV 2, iV 7], bV true])⟩ := zt zef 300 (by kernel_rfl)
theorem aw9 : zhw ⟨27, [(sV [116, 97, 107, 101, 32, 49, 32, 50])], (.tup [.agg [uV 0, iV 0], bV false])⟩ := zt zef 300 (by kernel_rfl)
theorem aw10 : zhw ⟨28, [(sV [116, 97, 107, 101, 32, 49, 32, 50])], (.tup [(.agg (enV 2 1 2 [])), bV true])⟩ := zt zef 300 (by kernel_rfl)
theorem aw11 : zhw ⟨27, [(sV [108, 111, 115, 101, 32, 48, 32, 48])], (.tup [.agg [uV 0, iV 0], bV false])⟩ := zt zef 300 (by kernel_rfl)
theorem aw12 : zhw ⟨28, [(sV [108, 111, 115, 101, 32, 48, 32, 48])], (.tup [(.agg (enV 3 0 0 [])), bV true])⟩ := zt zef 300 (by kernel_rfl)
theorem aw13 : zhw ⟨27, [(sV [114, 117, 110, 110, 105, 110, 103])], (.tup [.agg [uV 1, iV 0], bV true])⟩ := zt zef 300 (by kernel_rfl)
def lnTbl : List Ct := [
 ⟨27, [(sV [115, 101, 110, 100, 32, 34, 104, 105, 34])], (.tup [.agg [uV 0, iV 0], bV false])⟩,
 ⟨28, [(sV [115, 101, 110, 100, 32, 34, 104, 105, 34])], (.tup [(.agg (enV 1 0 0 [104, 105])), bV true])⟩,
 ⟨27, [(sV [116, 97, 107, 101, 32, 48, 32, 51])], (.tup [.agg [uV 0, iV 0], bV false])⟩,
 ⟨28, [(sV [116, 97, 107, 101, 32, 48, 32, 51])], (.tup [(.agg (enV 2 0 3 [])), bV true])⟩,
 ⟨27, [(sV [108, 111, 115, 101, 32, 51, 32, 53])], (.tup [.agg [uV 0, iV 0], bV false])⟩,
 ⟨28, [(sV [108, 111, 115, 101, 32, 51, 32, 53])], (.tup [(.agg (enV 3 3 5 [])), bV true])⟩,
 ⟨27, [(sV [116, 97, 107, 101, 32, 53, 32, 53])], (.tup [.agg [uV 0, iV 0], bV false])⟩,
 ⟨28, [(sV [116, 97, 107, 101, 32, 53, 32, 53])], (.tup [(.agg (enV 2 5 5 [])), bV true])⟩,
 ⟨27, [(sV [101, 120, 105, 116, 32, 55])], (.tup [.agg [uV 2, iV 7], bV true])⟩,
 ⟨27, [(sV [116, 97, 107, 101, 32, 49, 32, 50])], (.tup [.agg [uV 0, iV 0], bV false])⟩,
 ⟨28, [(sV [116, 97, 107, 101, 32, 49, 32, 50])], (.tup [(.agg (enV 2 1 2 [])), bV true])⟩,
 ⟨27, [(sV [108, 111, 115, 101, 32, 48, 32, 48])], (.tup [.agg [uV 0, iV 0], bV false])⟩,
 ⟨28, [(sV [108, 111, 115, 101, 32, 48, 32, 48])], (.tup [(.agg (enV 3 0 0 [])), bV true])⟩,
 ⟨27, [(sV [114, 117, 110, 110, 105, 110, 103])], (.tup [.agg [uV 1, iV 0], bV true])⟩]
theorem zjb : ∀ c ∈ lnTbl, zhw c := by
 unfold lnTbl
 simp only [List.forall_mem_cons, List.not_mem_nil, false_implies, implies_true, and_true]
 exact ⟨aw0, aw1, aw2, aw3, aw4, aw5, aw6, aw7, aw8, aw9, aw10, aw11, aw12, aw13⟩
theorem aw14 : zhw ⟨7, [(sV [115, 101, 110, 100, 32, 34, 104, 105, 34, 10, 116, 97, 107, 101, 32, 48, 32, 51, 10, 108, 111, 115, 101, 32, 51, 32, 53, 10, 116, 97, 107, 101, 32, 53, 32, 53, 10, 101, 120, 105, 116, 32, 55, 10])], (.tup [exT, iV 0, iV 0])⟩ := zt (zf3 zjb) 300 (by kernel_rfl)
theorem aw15 : zhw ⟨7, [(sV [116, 97, 107, 101, 32, 49, 32, 50, 10])], (.tup [noT, iV 1, iV 332])⟩ := zt (zf3 zjb) 300 (by kernel_rfl)
theorem aw16 : zhw ⟨7, [(sV [108, 111, 115, 101, 32, 48, 32, 48, 10])], (.tup [noT, iV 1, iV 332])⟩ := zt (zf3 zjb) 300 (by kernel_rfl)
theorem aw17 : zhw ⟨7, [(sV [114, 117, 110, 110, 105, 110, 103, 10, 114, 117, 110, 110, 105, 110, 103, 10])], (.tup [noT, iV 2, iV 332])⟩ := zt (zf3 zjb) 300 (by kernel_rfl)
theorem aw18 : zhw ⟨7, [(sV [])], (.tup [noT, iV 1, iV 332])⟩ := zt (zf3 zjb) 300 (by kernel_rfl)
theorem aw19 : zhw ⟨18, [], exT⟩ := zt zef 300 (by kernel_rfl)
theorem aw20 : zhw ⟨19, [exT], (.tup [(sV [115, 101, 110, 100, 32, 34, 104, 105, 34, 10, 116, 97, 107, 101, 32, 48, 32, 51, 10, 108, 111, 115, 101, 32, 51, 32, 53, 10, 116, 97, 107, 101, 32, 53, 32, 53, 10, 101, 120, 105, 116, 32, 55, 10]), iV 0])⟩ := zt zef 300 (by kernel_rfl)
theorem aw21 : zhw ⟨20, [fiT 1 0, exT], (.tup [iV 2, bV true])⟩ := zt zef 300 (by kernel_rfl)
theorem aw22 : zhw ⟨21, [exT, exT], (bV true)⟩ := zt zef 300 (by kernel_rfl)
theorem aw23 : zhw ⟨22, [exT], (sV [104, 105])⟩ := zt zef 300 (by kernel_rfl)
theorem aw24 : zhw ⟨23, [exT], (iV 3)⟩ := zt zef 300 (by kernel_rfl)
theorem aw25 : zhw ⟨24, [exT], (iV 2)⟩ := zt zef 300 (by kernel_rfl)
theorem aw26 : zhw ⟨17, [exT], (iV 5)⟩ := zt zef 300 (by kernel_rfl)
theorem aw27 : zhw ⟨25, [fiT 1 0, exT], (bV true)⟩ := zt zef 300 (by kernel_rfl)
theorem aw28 : zhw ⟨25, [fiT 2 7, exT], (bV false)⟩ := zt zef 300 (by kernel_rfl)
def awTbl : List Ct := [
 ⟨7, [(sV [115, 101, 110, 100, 32, 34, 104, 105, 34, 10, 116, 97, 107, 101, 32, 48, 32, 51, 10, 108, 111, 115, 101, 32, 51, 32, 53, 10, 116, 97, 107, 101, 32, 53, 32, 53, 10, 101, 120, 105, 116, 32, 55, 10])], (.tup [exT, iV 0, iV 0])⟩,
 ⟨7, [(sV [116, 97, 107, 101, 32, 49, 32, 50, 10])], (.tup [noT, iV 1, iV 332])⟩,
 ⟨7, [(sV [108, 111, 115, 101, 32, 48, 32, 48, 10])], (.tup [noT, iV 1, iV 332])⟩,
 ⟨7, [(sV [114, 117, 110, 110, 105, 110, 103, 10, 114, 117, 110, 110, 105, 110, 103, 10])], (.tup [noT, iV 2, iV 332])⟩,
 ⟨7, [(sV [])], (.tup [noT, iV 1, iV 332])⟩,
 ⟨18, [], exT⟩,
 ⟨19, [exT], (.tup [(sV [115, 101, 110, 100, 32, 34, 104, 105, 34, 10, 116, 97, 107, 101, 32, 48, 32, 51, 10, 108, 111, 115, 101, 32, 51, 32, 53, 10, 116, 97, 107, 101, 32, 53, 32, 53, 10, 101, 120, 105, 116, 32, 55, 10]), iV 0])⟩,
 ⟨20, [fiT 1 0, exT], (.tup [iV 2, bV true])⟩,
 ⟨21, [exT, exT], (bV true)⟩,
 ⟨22, [exT], (sV [104, 105])⟩,
 ⟨23, [exT], (iV 3)⟩,
 ⟨24, [exT], (iV 2)⟩,
 ⟨17, [exT], (iV 5)⟩,
 ⟨25, [fiT 1 0, exT], (bV true)⟩,
 ⟨25, [fiT 2 7, exT], (bV false)⟩]
theorem zz4 : ∀ c ∈ awTbl, zhw c := by
 unfold awTbl
 simp only [List.forall_mem_cons, List.not_mem_nil, false_implies, implies_true, and_true]
 exact ⟨aw14, aw15, aw16, aw17, aw18, aw19, aw20, aw21, aw22, aw23, aw24, aw25, aw26, aw27, aw28⟩
theorem zww : Pure (ITP Tryz.prog) Tryz.prog 6 [] (.raw (.bool true)) := zt (zf3 zz4) 300 (by kernel_rfl)
end Go.Ab
set_option linter.unusedSimpArgs false
set_option linter.unusedVariables false
namespace Go.Ab
open Go Go.RowKit Go.Fwd Go.Proofs
theorem za1 {α β : Type} {e : α} {k : α → Option β} {r : Option β} (h : k e = r) : za7 e k = r := h
def lcp : List En → List En → Nat
 | x :: a, y :: b => if x = y then lcp a b + 1 else 0
 | _, _ => 0
theorem zm9 : ∀ a b, lcp a b ≤ a.length ∧ lcp a b ≤ b.length
 | x :: a, y :: b => by
  rw [lcp]
  have := zm9 a b
  split <;> simp <;> omega
 | [], _ => by simp [lcp]
 | _ :: _, [] => by simp [lcp]
theorem zgk : ∀ (a b : List En) (i : Nat), i < lcp a b → a.getD i Enc.inh = b.getD i Enc.inh
 | x :: a, y :: b, i, h => by
  rw [lcp] at h
  split at h
  ·rename_i e
   cases i with
   | zero => simp [e]
   | succ i => simpa using zgk a b i (by omega)
  ·omega
 | [], _, i, h => by simp [lcp] at h
 | _ :: _, [], i, h => by simp [lcp] at h
theorem zjo : ∀ (a b : List En), lcp a b < a.length → lcp a b < b.length → a.getD (lcp a b) Enc.inh ≠ b.getD (lcp a b) Enc.inh
 | x :: a, y :: b, h1, h2 => by
  rw [lcp] at h1 h2 ⊢
  split
  ·rename_i e
   rw [if_pos e] at h1 h2
   simp at h1 h2
   simpa using zjo a b h1 h2
  ·rename_i e; simpa using e
 | [], _, h, _ => by simp at h
 | _ :: _, [], _, h => by simp at h
theorem zg3 : ∀ (a b : List En), lcp a b = a.length ↔ a <+: b
 | [], b => by simp [lcp]
 | x :: a, [] => by simp [lcp]
 | x :: a, y :: b => by
  rw [lcp, List.cons_prefix_cons]
  have := zg3 a b
  split
  ·rename_i e; simp [e, this]
  ·rename_i e; simp [e]
def z1o (a b : Trc) : Int × Bool := if lcp a.l b.l = a.l.length ∧ lcp a.l b.l = b.l.length ∧ a.e = b.e then (0, false) else ((lcp a.l b.l : Int), true)
theorem zsg (fuel : Nat) (a b : Trc) (h : a.l.length < fuel) (hm : fuel < 2 ^ 60) : zhp fuel a b = some (z1o a b) := by
 have hl := zm9 a.l b.l
 unfold zhp
 refine zdd ((lcp a.l b.l : Nat) : Int) ?_ ?_
 ·refine zfi (lcp a.l b.l) (fun i => (i : Int)) rfl ?_ ?_ (by omega)
  ·intro i hi
   refine zaq (by simp; omega) ?_
   refine zal (by omega) (za1 (zal (by omega) (za1 ?_)))
   refine zaq ?_ (zal (by omega) rfl)
   simp only [ix, Int.toNat_natCast]
   exact decide_eq_true (zgk _ _ i hi)
  ·by_cases hx : lcp a.l b.l < a.l.length ∧ lcp a.l b.l < b.l.length
   ·refine zaq (by simp; omega) ?_
    refine zal (by omega) (za1 (zal (by omega) (za1 ?_)))
    refine zat ?_ rfl
    simp only [ix, Int.toNat_natCast]
    exact decide_eq_false (zjo _ _ hx.1 hx.2)
   ·exact zat (by simp; omega) rfl
 ·unfold z1o
  have c1 : ((((lcp a.l b.l : Nat) : Int)) == (List.length a.l : Int)) = decide (lcp a.l b.l = a.l.length) := by
   by_cases h : lcp a.l b.l = a.l.length
   ·simp [h]
   ·have : ¬ ((lcp a.l b.l : Nat) : Int) = (List.length a.l : Int) := by omega
    simp [h, this]
  have c2 : ((((lcp a.l b.l : Nat) : Int)) == (List.length b.l : Int)) = decide (lcp a.l b.l = b.l.length) := by
   by_cases h : lcp a.l b.l = b.l.length
   ·simp [h]
   ·have : ¬ ((lcp a.l b.l : Nat) : Int) = (List.length b.l : Int) := by omega
    simp [h, this]
  rw [c1, c2]
  by_cases h1 : lcp a.l b.l = a.l.length
  ·by_cases h2 : lcp a.l b.l = b.l.length
   ·by_cases h3 : a.e = b.e
    ·rw [if_pos ⟨h1, h2, h3⟩]
     exact zlb (0, false) (zaq (decide_eq_true h1) (zaq (decide_eq_true h2) (zaq (decide_eq_true h3) rfl))) rfl
    ·rw [if_neg (fun h => h3 h.2.2)]
     exact zdd () (zaq (decide_eq_true h1) (zaq (decide_eq_true h2) (zat (decide_eq_false h3) rfl))) rfl
   ·rw [if_neg (fun h => h2 h.2.1)]
    exact zdd () (zaq (decide_eq_true h1) (zat (decide_eq_false h2) rfl)) rfl
  ·rw [if_neg (fun h => h1 h.1)]
   exact zdd () (zat (decide_eq_false h1) rfl) rfl
theorem z1c (fuel : Nat) (a b : List En) (h : a.length < fuel) (hm : fuel < 2 ^ 60) : zmo fuel a b = some (decide (a = b)) := by
 have hl := zm9 a b
 have hp := zg3 a b
 unfold zmo
 by_cases hn : a.length = b.length
 ·refine zat (by simp [hn]) ?_
  have body : ∀ i : Nat, i < lcp a b → i < a.length ∧ i < b.length := fun i hi => by omega
  by_cases hx : lcp a b = a.length
  ·have hab : a = b := (hp.1 hx).eq_of_length hn
   rw [decide_eq_true hab]
   refine zdd () (zfi (lcp a b) (fun i => (i : Int)) rfl ?_ ?_ (by omega)) rfl
   ·intro i hi
    refine zaq (by simp; omega) ?_
    refine zal (by omega) (za1 (zal (by omega) (za1 ?_)))
    refine zat ?_ (zal (by omega) rfl)
    simp only [ix, Int.toNat_natCast]
    exact decide_eq_false (fun h => h (zgk _ _ i hi))
   ·exact zat (by simp; omega) rfl
  ·have hab : ¬ a = b := fun e => by subst e; exact hx ((zg3 a a).2 (List.prefix_refl _))
   rw [decide_eq_false hab]
   refine zlb false (zfi (lcp a b) (fun i => (i : Int)) rfl ?_ ?_ (by omega)) rfl
   ·intro i hi
    refine zaq (by simp; omega) ?_
    refine zal (by omega) (za1 (zal (by omega) (za1 ?_)))
    refine zat ?_ (zal (by omega) rfl)
    simp only [ix, Int.toNat_natCast]
    exact decide_eq_false (fun h => h (zgk _ _ i hi))
   ·refine zaq (by simp; omega) ?_
    refine zal (by omega) (za1 (zal (by omega) (za1 ?_)))
    refine zaq ?_ rfl
    simp only [ix, Int.toNat_natCast]
    exact decide_eq_true (zjo _ _ (by omega) (by omega))
 ·have : ¬ ((a.length : Nat) : Int) = (b.length : Int) := by omega
  refine zaq (by simp; omega) ?_
  rw [decide_eq_false (fun e => hn (by rw [e]))]
theorem same_eq (fuel : Nat) (a b : Trc) (h : a.l.length < fuel) (hm : fuel < 2 ^ 60) : zq8 fuel a b = some (decide (a = b)) := by
 unfold zq8
 refine zcj _ (z1c fuel _ _ h hm) ?_
 obtain ⟨al, ae⟩ := a
 obtain ⟨bl, be⟩ := b
 simp only [Trc.mk.injEq]
 by_cases h1 : al = bl
 ·rw [decide_eq_true h1]
  refine zaq rfl ?_
  simp [h1]
 ·rw [decide_eq_false h1]
  refine zat rfl ?_
  simp [h1]
def z0l (a b : Trc) : Bool := decide (a = b) || (decide (a.e = ⟨1, 0⟩) && decide (a.l <+: b.l))
theorem goes_eq (fuel : Nat) (a b : Trc) (h : a.l.length < fuel) (hm : fuel < 2 ^ 60) : zq9 fuel a b = some (z0l a b) := by
 unfold zq9
 refine zcj _ (zsg fuel a b h hm) ?_
 have hl := zm9 a.l b.l
 have hp := zg3 a.l b.l
 unfold z1o z0l
 by_cases hs : lcp a.l b.l = a.l.length ∧ lcp a.l b.l = b.l.length ∧ a.e = b.e
 ·rw [if_pos hs]
  have hab : a = b := by
   obtain ⟨al, ae⟩ := a
   obtain ⟨bl, be⟩ := b
   simp only at hs hp
   have hpre := hp.1 hs.1
   have := hpre.eq_of_length (by omega)
   rw [this, hs.2.2]
  refine zaq rfl ?_
  rw [decide_eq_true hab]; rfl
 ·rw [if_neg hs]
  have hab : ¬ a = b := fun e => by
   subst e
   refine hs ⟨?_, ?_, rfl⟩ <;> exact (zg3 a.l a.l).2 (List.prefix_refl _)
  refine zat rfl ?_
  rw [decide_eq_false hab, Bool.false_or]
  by_cases he : a.e = ⟨1, 0⟩
  ·refine zaq (decide_eq_true he) ?_
   rw [decide_eq_true he, Bool.true_and]
   by_cases hx : lcp a.l b.l = a.l.length
   ·rw [decide_eq_true (hp.1 hx)]; simp [hx]
   ·rw [decide_eq_false (fun h => hx (hp.2 h))]
    have : ¬ ((lcp a.l b.l : Nat) : Int) = (List.length a.l : Int) := by omega
    simp [this]
  ·refine zat (decide_eq_false he) ?_
   rw [decide_eq_false he]; rfl
end Go.Ab
set_option linter.unusedSimpArgs false
set_option linter.unusedVariables false
namespace Go.Ab
open Go Go.RowKit Go.Fwd Go.Proofs
theorem loop_ex {β ρ : Type} {body : β → Option (β ⊕ ρ)} (T : Nat → β → Prop) (Q : ρ → Prop) (N : Nat) (hs : ∀ i s, i < N → T i s → ∃ s', body s = some (.inl s') ∧ T (i + 1) s') (he : ∀ s, T N s → ∃ o, body s = some (.inr o) ∧ Q o) {n : Nat} (hn : N < n) {s0 : β} (h0 : T 0 s0) : ∃ o, zbh body n s0 = some o ∧ Q o := by
 suffices ∀ k i n s, i + k = N → k < n → T i s → ∃ o, zbh body n s = some o ∧ Q o from this N 0 n s0 (by omega) hn h0
 intro k
 induction k with
 | zero =>
  intro i n s hi hk ht
  obtain rfl : i = N := by omega
  match n, hk with
  | n + 1, _ =>
   obtain ⟨o, h1, h2⟩ := he s ht
   exact ⟨o, by rw [zbh, h1], h2⟩
 | succ k ih =>
  intro i n s hi hk ht
  match n, hk with
  | n + 1, hk =>
   obtain ⟨s', h1, h2⟩ := hs i s (by omega) ht
   rw [zbh, h1]
   exact ih (i + 1) n s' (by omega) (by omega) h2
theorem zfn {α : Type} (l : List α) (j : Int) : sub l 0 j = l.take j.toNat := by simp [sub]
end Go.Ab
set_option linter.unusedSimpArgs false
set_option linter.unusedVariables false
namespace Go.Ab
open Go Go.RowKit Go.Fwd Go.Proofs
theorem zia {x : Int} (h1 : 0 ≤ x) (h2 : x < 256) : IntKind.u8.wrap x = x := by
 have : x % 256 = x := Int.emod_eq_of_lt h1 h2
 simp [IntKind.wrap, IntKind.bits, IntKind.signed, this]
def zbt (e : En) (a : Int) : Prop :=
 (e.k = 1 ∧ e.fr = 0 ∧ e.to = 0 ∧ e.b.length ≤ 512) ∨ ((e.k = 2 ∨ e.k = 3) ∧ e.fr = a ∧ e.b = [] ∧ a ≤ e.to ∧ e.to ≤ 1073741824 ∧ (e.k = 2 ∨ a < e.to))
instance (e : En) (a : Int) : Decidable (zbt e a) := by unfold zbt; infer_instance
def atL : Int → List En → Int
 | a, [] => a
 | a, e :: l => atL (max a e.to) l
def okL : Int → List En → Prop
 | _, [] => True
 | a, e :: l => zbt e a ∧ okL (max a e.to) l
theorem zki : ∀ (a : Int) (l m : List En), atL a (l ++ m) = atL (atL a l) m
 | _, [], _ => rfl
 | a, e :: l, m => by rw [List.cons_append, atL, atL, zki]
theorem zpk : ∀ (a : Int) (l m : List En), okL a (l ++ m) ↔ okL a l ∧ okL (atL a l) m
 | _, [], _ => by simp [okL, atL]
 | a, e :: l, m => by rw [List.cons_append, okL, okL, atL, zpk, and_assoc]
theorem zg7 : ∀ (a : Int) (l : List En), a ≤ atL a l
 | _, [] => Int.le_refl _
 | a, e :: l => by rw [atL]; have := zg7 (max a e.to) l; omega
end Go.Ab
