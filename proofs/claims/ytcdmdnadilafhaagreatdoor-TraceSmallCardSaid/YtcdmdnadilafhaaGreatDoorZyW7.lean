/-
  trace: Check, Taken, Lost, At.
-/
import Derived.Test.YtcdmdnadilafhaaGreatDoorZyEn2
import Derived.Test.YtcdmdnadilafhaaGreatDoorZyQc
import Derived.Test.YtcdmdnadilafhaaGreatDoorZdQr
set_option linter.unusedSimpArgs false
set_option linter.unusedVariables false
set_option maxRecDepth 100000
set_option maxHeartbeats 4000000
namespace Go.Ab
open Go Go.RowKit Go.Fwd Go.Proofs
def zku (e : En) (a : Int) : Option Bool :=
 (bif (e.k == 1) then (bif (decide (e = (En.mk 1 0 0 e.b))) then (some (decide ((List.length e.b : Int) ≤ 512))) else (some false)) else (zcr (τ := Bool) (bif (e.k == 2) then (some (Sum.inl ((e.k == 2)))) else (some (Sum.inl ((e.k == 3))))) (fun j1 => (bif j1 then (bif (decide (e = (En.mk e.k a e.to []))) then (bif (decide (e.to ≥ a)) then (bif (decide (e.to ≤ 1073741824)) then (bif (e.k == 2) then (some true) else (some (decide (e.to > a)))) else (some false)) else (some false)) else (some false)) else (some false)))))
theorem ent29 : Ent Tryz.prog 29 := enters_of Tryz.func29 (by kernel_rfl) rfl
theorem zu7 (e : En) (a : Int) (r : Bool) (h : zku e a = some r) : Pure (ITP Tryz.prog) Tryz.prog 29 [.A (e : En), .raw (.int .i64 a)] (.raw (.bool r)) := by
 unfold zku at h
 refine zah 51 mix Tryz.func29 ent29 ?_
 refine zj (zc ?_)
 refine zbr (a := .ptr 0 0) (σ'' := (.B [(41, (Enc.cells (e : En)))])) ?_
 refine w_o (a := .b false) ?_
 refine zj ?_
 refine zk [.v (.ptr 0 0), .v (.u e.k)] ?_
 refine zr ?_
 refine zk [.v (.b (e.k == 1)), .m _] ?_
 refine za3 h (fun hc1 h => ?_) (fun hc1 h => ?_)
 refine zk [.v (.A (e : En)), .v (.ptr 0 3), .v (.s e.b), .v (.A ((En.mk 1 0 0 e.b) : En))] ?_
 refine zoc (.b (decide (e = (En.mk 1 0 0 e.b)))) rfl rfl rfl (ztg e (En.mk 1 0 0 e.b) rfl rfl rfl) (by dsimp only [z6, List.set]) ?_
 refine zaa h (fun hc2 h => ?_) (fun hc2 h => ?_)
 refine zar hc2 ?_
 refine w_r [.v (.ptr 0 3), .v (.s e.b)] ?_
 refine zai rfl rfl ?_
 refine w_o (a := .i (List.length e.b : Int)) (h := zv (zba rfl rfl rfl)) ?_
 refine w_r [.v (.b (decide ((List.length e.b : Int) ≤ 512))), .v (.b (decide ((List.length e.b : Int) ≤ 512))), .m _] ?_
 exact zaj h
 refine zar hc2 ?_
 refine w_r [.p, .p, .p, .p, .v (.b false)] ?_
 refine w_r [.m _] ?_
 exact zaj h
 refine zaf h (bz 0 53 9007199254740985) (fun j1 => [(20, .b j1)]) (fun j1 => (.B [(41, (Enc.cells (e : En)))])) ?_ ?_
 intro or1 h hr1
 refine zk [.v (.b (e.k == 2)), .m _] ?_
 refine za3 h (fun hc3 h => ?_) (fun hc3 h => ?_)
 refine zg (o := or1) ((e.k == 2)) h ?_
 exact zao (bl 53 1048582)
 refine zc (k0 := 0) (id := 5) ?_
 refine w_r [.v (.b (e.k == 3)), .m _] ?_
 refine zg (o := or1) ((e.k == 3)) h ?_
 exact zao (bl 53 1048582)
 intro j1 h
 refine zbn ?_
 refine za3 h (fun hc4 h => ?_) (fun hc4 h => ?_)
 refine zk [.v (.A (e : En)), .v (.ptr 0 0), .v (.u e.k), .m _, .v (.ptr 0 2)] ?_
 refine w_r [.v (.i e.to), .v (.A ((En.mk e.k a e.to []) : En))] ?_
 refine zoc (.b (decide (e = (En.mk e.k a e.to [])))) rfl rfl rfl (ztg e (En.mk e.k a e.to []) rfl rfl rfl) (by dsimp only [z6, List.set]) ?_
 refine zaa h (fun hc5 h => ?_) (fun hc5 h => ?_)
 refine zar hc5 ?_
 refine w_r [.v (.ptr 0 2), .v (.i e.to), .m _, .v (.b (decide (e.to ≥ a))), .v (.b (decide (e.to ≥ a)))] ?_
 refine zaa h (fun hc6 h => ?_) (fun hc6 h => ?_)
 refine zar hc6 ?_
 refine w_r [.v (.ptr 0 2), .v (.i e.to), .v (.b (decide (e.to ≤ 1073741824))), .v (.b (decide (e.to ≤ 1073741824)))] ?_
 refine zaa h (fun hc7 h => ?_) (fun hc7 h => ?_)
 refine zar hc7 ?_
 refine w_r [.v (.ptr 0 0), .v (.u e.k), .v (.b (e.k == 2))] ?_
 refine zai rfl rfl ?_
 refine zaa h (fun hc8 h => ?_) (fun hc8 h => ?_)
 refine zar hc8 ?_
 refine w_r [.p, .p, .p, .p, .v (.b true)] ?_
 refine w_r [.v (.b true), .m _] ?_
 exact zaj h
 refine zar hc8 ?_
 refine w_r [.v (.ptr 0 2), .v (.i e.to), .m _, .v (.b (decide (e.to > a))), .v (.b (decide (e.to > a)))] ?_
 refine w_r [.v (.b (decide (e.to > a))), .m _] ?_
 exact zaj h
 refine zar hc7 ?_
 refine w_r [.p, .p, .p, .p, .p] ?_
 refine w_r [.p, .p, .p, .p, .v (.b false)] ?_
 refine w_r [.m _] ?_
 exact zaj h
 refine zar hc6 ?_
 refine w_r [.p, .p, .p, .v (.b false), .m _] ?_
 refine w_r [.p, .p, .p, .p, .p] ?_
 refine w_r [.p, .p, .p, .p, .v (.b false)] ?_
 refine w_r [.m _] ?_
 exact zaj h
 refine zar hc5 ?_
 refine w_r [.p, .p, .p, .p, .v (.b false)] ?_
 refine w_r [.m _, .p, .p, .p, .v (.b false)] ?_
 refine w_r [.m _, .p, .p, .p, .p] ?_
 refine w_r [.p, .p, .p, .p, .p] ?_
 refine w_r [.v (.b false), .m _] ?_
 exact zaj h
 refine zk [.v (.b false)] ?_
 exact zaj h
def zjz (e : Ed) : Option Bool :=
 (bif (e.k == 2) then (bif (decide (e.c ≥ 0)) then (some (decide (e.c ≤ 255))) else (some false)) else (chk (0 ≤ e.k ∧ e.k < 256) (za7 (zfr e.k) (fun x1 => (bif (!(x1 == ([] : List UInt8))) then (some (e.c == 0)) else (some false))))))
theorem ent43 : Ent Tryz.prog 43 := enters_of Tryz.func43 (by kernel_rfl) rfl
theorem zjg (e : Ed) (r : Bool) (h : zjz e = some r) : Pure (ITP Tryz.prog) Tryz.prog 43 [.A (e : Ed)] (.raw (.bool r)) := by
 unfold zjz at h
 refine zah 22 mix Tryz.func43 ent43 ?_
 refine zj (zc ?_)
 refine zbr (a := .ptr 0 0) (σ'' := (.B [(25, (Enc.cells (e : Ed)))])) ?_
 refine w_o (a := .b false) ?_
 refine zj ?_
 refine zk [.v (.ptr 0 0), .v (.u e.k), .v (.b (e.k == 2))] ?_
 refine za3 h (fun hc1 h => ?_) (fun hc1 h => ?_)
 refine zk [.v (.ptr 0 1), .v (.i e.c), .v (.b (decide (e.c ≥ 0)))] ?_
 refine zaa h (fun hc2 h => ?_) (fun hc2 h => ?_)
 refine zar hc2 ?_
 refine w_r [.v (.ptr 0 1), .v (.i e.c), .v (.b (decide (e.c ≤ 255))), .v (.b (decide (e.c ≤ 255))), .m _] ?_
 exact zaj h
 refine zar hc2 ?_
 refine w_r [.p, .p, .p, .v (.b false), .m _] ?_
 exact zaj h
 refine zk [.v (.ptr 0 0), .v (.u e.k)] ?_
 obtain ⟨g1, h⟩ := zf h
 obtain ⟨x1, hx1, h⟩ := zo h
 refine zbc (args' := [.u e.k]) (r := .s x1) (by rw [← hx1]; exact (znb e.k g1)) ?_
 refine w_o (a := .b (!(x1 == ([] : List UInt8)))) (h := zv (zij rfl rfl rfl)) ?_
 refine zaa h (fun hc3 h => ?_) (fun hc3 h => ?_)
 refine zar hc3 ?_
 refine w_r [.v (.ptr 0 1), .v (.i e.c), .v (.b (e.c == 0)), .v (.b (e.c == 0)), .m _] ?_
 exact zaj h
 refine zar hc3 ?_
 refine w_r [.p, .p, .p, .v (.b false), .m _] ?_
 exact zaj h
def zem (fuel : Nat) (t : Trc) : Option (Int × Int) :=
 (bif (decide ((List.length t.l : Int) > 65536)) then (some ((-1), 5)) else (zcr (τ := Unit) (zbh (β := Int × Int) (fun s1 => (bif (decide (s1.2 < (List.length t.l : Int))) then (chk (0 ≤ s1.2 ∧ s1.2 < (List.length t.l : Int)) (za7 (ix t.l s1.2) (fun x1 => (z1 (zku x1 s1.1) (fun x2 => (bif (!x2) then (some (Sum.inr (Sum.inr (s1.2, 330)))) else (chk (-9223372036854775808 ≤ (s1.2 + 1) ∧ (s1.2 + 1) < 9223372036854775808) (some (Sum.inl ((max s1.1 x1.to), (s1.2 + 1))))))))))) else (some (Sum.inr (Sum.inl ()))))) fuel (0, 0)) (fun j1 => (z1 (zjz t.e) (fun x3 => (bif (!x3) then (some ((-1), 331)) else (some ((-1), 0))))))))
theorem ent16 : Ent Tryz.prog 16 := enters_of Tryz.func16 (by kernel_rfl) rfl
theorem zgh (fuel : Nat) (t : Trc) (r : (Int × Int)) (h : zem fuel t = some r) : Pure (ITP Tryz.prog) Tryz.prog 16 [.A (t : Trc)] (.tup [.raw (.int .i64 r.1), .raw (.int .i64 r.2)]) := by
 unfold zem at h
 refine zah 32 mix Tryz.func16 ent16 ?_
 refine zj (zc ?_)
 refine zbr (a := .ptr 0 0) (σ'' := (.B [(27, (Enc.cells (t : Trc)))])) ?_
 refine w_r [.v (.i 0), .v (.i 0)] ?_
 refine zj ?_
 refine zk [.v (.ptr 0 0), .v (.L (t.l : List En)), .v (.i (List.length t.l : Int)), .v (.b (decide ((List.length t.l : Int) > 65536)))] ?_
 refine za3 h (fun hc1 h => ?_) (fun hc1 h => ?_)
 refine zk [.v (.i (-1)), .v (.i 5)] ?_
 exact zam (fun (r : (Int × Int)) => .tup [.i r.1, .i r.2]) h (.tup [.i (-1), .i 5])
 refine zk [.v (.i 0)] ?_
 refine zaf h (bz 0 33 8589934589) (fun j1 => []) (fun j1 => (.B [(27, (Enc.cells (t : Trc)))])) ?_ ?_
 intro or1 h hr1
 refine zk [.v (.ptr 0 0), .v (.L (t.l : List En)), .v (.i (List.length t.l : Int)), .v (.i 0)] ?_
 refine zr ?_
 refine zap h (bz 0 33 8589922301) (fun s1 => [(4, .i s1.1), (14, .i s1.2)]) (fun s1 => (.B [(27, (Enc.cells (t : Trc)))])) ?_ ?_
 exact zao (bl 33 28690)
 intro s1 p1 h
 refine zbn ?_
 refine zk [.v (.b (decide (s1.2 < (List.length t.l : Int))))] ?_
 refine zj ?_
 refine za3 h (fun hc2 h => ?_) (fun hc2 h => ?_)
 refine zj ?_
 refine zr ?_
 refine zk [.m _] ?_
 obtain ⟨g1, h⟩ := zf h
 obtain ⟨x1, hx1, h⟩ := zo h
 refine zpi hx1 g1 ?_
 refine w_o (a := .A (x1 : En)) ?_
 refine zbr (a := .ptr 1 0) (σ'' := (.B [(27, (Enc.cells (t : Trc))), (41, (Enc.cells ((En.mk 0 0 0 []) : En)))])) ?_
 refine zp ?_
 refine zcg 4 (.B [(27, (Enc.cells (t : Trc))), (41, (Enc.cells (x1 : En)))]) ?_
 refine zj ?_
 refine zk [.v (.A (x1 : En)), .m _] ?_
 obtain ⟨x2, hx2, h⟩ := zl h
 refine zbc (zu7 x1 s1.1 x2 hx2) ?_
 refine w_o (a := .b (!x2)) ?_
 refine za3 h (fun hc3 h => ?_) (fun hc3 h => ?_)
 refine zk [.m _, .m _, .v (.i 330)] ?_
 refine zh h (fun h => ?_)
 replace h := zq h hr1
 exact zam (fun (r : (Int × Int)) => .tup [.i r.1, .i r.2]) h (.tup [.i s1.2, .i 330])
 refine zc (k0 := 0) (id := 9) ?_
 refine w_r [.m _, .v (.ptr 1 2), .v (.i x1.to)] ?_
 refine w_o (a := .i (max s1.1 x1.to)) (h := zv (q_max rfl rfl rfl rfl rfl)) ?_
 refine zp ?_
 refine zc (k0 := 0) (id := 10) ?_
 obtain ⟨g2, h⟩ := zf h
 refine zej g2 ?_
 refine zp ?_
 refine zz (p := p1) ((max s1.1 x1.to), (s1.2 + 1)) h ?_
 exact zcq (bl 33 28690) 1 (by kernel_rfl) (Nat.le_of_ble_eq_true rfl) (zco (za0 (zak _ _ (Enc.clo _)) rfl)) (by dsimp only [zbb, zb5, List.foldl, List.set, bz, bzc, Nat.reduceMod, Nat.reduceDiv, Nat.reduceBEq, Nat.reduceAdd]; exact (za rfl (za (by decide) (za rfl (za rfl (za rfl (za rfl (za rfl (za rfl (za rfl (za rfl (za rfl (za rfl (za (zb1 (Enc.cloL _)) (by kernel_rfl))))))))))))))) (by kernel_rfl)
 refine zh h (fun h => ?_)
 refine zg (o := or1) () h ?_
 exact zao (bl 33 2)
 intro j1 h
 refine zbn ?_
 refine zj ?_
 refine zk [.v (.ptr 0 1), .v (.A (t.e : Ed))] ?_
 obtain ⟨x3, hx3, h⟩ := zl h
 refine zbc (zjg t.e x3 hx3) ?_
 refine w_o (a := .b (!x3)) ?_
 refine za3 h (fun hc4 h => ?_) (fun hc4 h => ?_)
 refine zk [.v (.i (-1)), .v (.i 331)] ?_
 exact zam (fun (r : (Int × Int)) => .tup [.i r.1, .i r.2]) h (.tup [.i (-1), .i 331])
 refine zk [.v (.i (-1)), .v (.i 0)] ?_
 exact zam (fun (r : (Int × Int)) => .tup [.i r.1, .i r.2]) h (.tup [.i (-1), .i 0])
def zuu (e : En) : Option Bool :=
 (some true)
theorem ent45 : Ent Tryz.prog 45 := enters_of Tryz.func45 (by kernel_rfl) rfl
theorem isAt_sh (e : En) (r : Bool) (h : zuu e = some r) : Pure (ITP Tryz.prog) Tryz.prog 45 [.A (e : En)] (.raw (.bool r)) := by
 unfold zuu at h
 refine zah 2 mix Tryz.func45 ent45 ?_
 refine zj (zc ?_)
 refine zbr (a := .ptr 0 0) (σ'' := (.B [(41, (Enc.cells (e : En)))])) ?_
 refine w_o (a := .b false) ?_
 refine zk [.v (.b true)] ?_
 exact zaj h
def zjs (e : En) : Option Bool :=
 (some (e.k == 2))
theorem ent51 : Ent Tryz.prog 51 := enters_of Tryz.func51 (by kernel_rfl) rfl
theorem zwc (e : En) (r : Bool) (h : zjs e = some r) : Pure (ITP Tryz.prog) Tryz.prog 51 [.A (e : En)] (.raw (.bool r)) := by
 unfold zjs at h
 refine zah 5 mix Tryz.func51 ent51 ?_
 refine zj (zc ?_)
 refine zbr (a := .ptr 0 0) (σ'' := (.B [(41, (Enc.cells (e : En)))])) ?_
 refine w_o (a := .b false) ?_
 refine zk [.v (.ptr 0 0), .v (.u e.k), .v (.b (e.k == 2)), .m _] ?_
 exact zaj h
def zlv (e : En) : Option Bool :=
 (some (e.k == 3))
theorem ent52 : Ent Tryz.prog 52 := enters_of Tryz.func52 (by kernel_rfl) rfl
theorem zyt (e : En) (r : Bool) (h : zlv e = some r) : Pure (ITP Tryz.prog) Tryz.prog 52 [.A (e : En)] (.raw (.bool r)) := by
 unfold zlv at h
 refine zah 5 mix Tryz.func52 ent52 ?_
 refine zj (zc ?_)
 refine zbr (a := .ptr 0 0) (σ'' := (.B [(41, (Enc.cells (e : En)))])) ?_
 refine w_o (a := .b false) ?_
 refine zk [.v (.ptr 0 0), .v (.u e.k), .v (.b (e.k == 3)), .m _] ?_
 exact zaj h
def zqj (fuel : Nat) (t : Trc) : Option Int :=
 (z1 (zem fuel t) (fun x1 => (bif (x1.2 != 0) then (some 0) else (zcr (τ := Int) (zbh (β := Int × Int) (fun s1 => (bif (decide (s1.2 < (List.length t.l : Int))) then (zcr (τ := Int) (chk (0 ≤ s1.2 ∧ s1.2 < (List.length t.l : Int)) (za7 (ix t.l s1.2) (fun x2 => (z1 (zuu x2) (fun x3 => (bif x3 then (chk (-9223372036854775808 ≤ (x2.to - x2.fr) ∧ (x2.to - x2.fr) < 9223372036854775808) (chk (-9223372036854775808 ≤ (s1.1 + (x2.to - x2.fr)) ∧ (s1.1 + (x2.to - x2.fr)) < 9223372036854775808) (some (Sum.inl ((s1.1 + (x2.to - x2.fr))))))) else (some (Sum.inl (s1.1))))))))) (fun j2 => (chk (-9223372036854775808 ≤ (s1.2 + 1) ∧ (s1.2 + 1) < 9223372036854775808) (some (Sum.inl (j2, (s1.2 + 1))))))) else (some (Sum.inr (Sum.inl (s1.1)))))) fuel (0, 0)) (fun j1 => (some j1))))))
theorem ent44 : Ent Tryz.prog 44 := enters_of Tryz.func44 (by kernel_rfl) rfl
theorem z0c (fuel : Nat) (t : Trc) (r : Int) (h : zqj fuel t = some r) : Pure (ITP Tryz.prog) Tryz.prog 44 [.A (t : Trc), .clos 45 []] (.raw (.int .i64 r)) := by
 unfold zqj at h
 refine zah 34 mix Tryz.func44 ent44 ?_
 refine zj (zc ?_)
 refine zbr (a := .ptr 0 0) (σ'' := (.B [(27, (Enc.cells (t : Trc)))])) ?_
 refine w_o (a := .i 0) ?_
 refine zj ?_
 refine zk [.v (.A (t : Trc))] ?_
 obtain ⟨x1, hx1, h⟩ := zl h
 refine zbc (zgh fuel t x1 hx1) ?_
 refine w_r [.m _, .x _, .x _, .m _, .m _] ?_
 refine zk [.m _, .v (.b (x1.2 != 0))] ?_
 refine za3 h (fun hc1 h => ?_) (fun hc1 h => ?_)
 refine zk [.v (.i 0)] ?_
 exact zhx h
 refine zk [.v (.i 0)] ?_
 refine zaf h (bz 0 36 68719476735) (fun j1 => [(7, .i j1)]) (fun j1 => (.B [(27, (Enc.cells (t : Trc)))])) ?_ ?_
 intro or1 h hr1
 refine zk [.v (.ptr 0 0), .v (.L (t.l : List En)), .v (.i (List.length t.l : Int)), .v (.i 0)] ?_
 refine zr ?_
 refine zap h (bz 0 36 68718690301) (fun s1 => [(7, .i s1.1), (20, .i s1.2)]) (fun s1 => (.B [(27, (Enc.cells (t : Trc)))])) ?_ ?_
 exact zao (bl 36 1835138)
 intro s1 p1 h
 refine zbn ?_
 refine zk [.v (.b (decide (s1.2 < (List.length t.l : Int))))] ?_
 refine zj ?_
 refine za3 h (fun hc2 h => ?_) (fun hc2 h => ?_)
 refine zaf h (bz 0 34 17177772672) (fun j2 => [(7, .i j2)]) (fun j2 => (.B [(27, (Enc.cells (t : Trc)))])) ?_ ?_
 intro or2 h hr2
 refine zr ?_
 refine zj (zc ?_)
 obtain ⟨g1, h⟩ := zf h
 obtain ⟨x2, hx2, h⟩ := zo h
 refine zpi hx2 g1 ?_
 refine w_o (a := .A (x2 : En)) ?_
 refine zbr (a := .ptr 1 0) (σ'' := (.B [(27, (Enc.cells (t : Trc))), (41, (Enc.cells ((En.mk 0 0 0 []) : En)))])) ?_
 refine zcg 4 (.B [(27, (Enc.cells (t : Trc))), (41, (Enc.cells (x2 : En)))]) ?_
 refine zk [.m _, .v (.A (x2 : En))] ?_
 obtain ⟨x3, hx3, h⟩ := zl h
 refine zbc (isAt_sh x2 x3 hx3) ?_
 refine za3 h (fun hc3 h => ?_) (fun hc3 h => ?_)
 refine zc (k0 := 0) (id := 9) ?_
 refine w_r [.m _, .v (.ptr 1 2), .v (.i x2.to), .v (.ptr 1 1), .v (.i x2.fr)] ?_
 obtain ⟨g2, h⟩ := zf h
 refine w_sb g2 ?_
 obtain ⟨g3, h⟩ := zf h
 refine zej g3 ?_
 refine zp ?_
 refine zg (o := or2) ((s1.1 + (x2.to - x2.fr))) h ?_
 exact zcq (bl 36 51541704191) 1 (by kernel_rfl) (Nat.le_of_ble_eq_true rfl) (zco (za0 (zak _ _ (Enc.clo _)) rfl)) (by dsimp only [zbb, zb5, List.foldl, List.set, bz, bzc, Nat.reduceMod, Nat.reduceDiv, Nat.reduceBEq, Nat.reduceAdd]; exact (za rfl (za (show zx _ _ = true from rfl) (za rfl (za rfl (za rfl (za rfl (za rfl (za rfl (za rfl (za rfl (za rfl (za rfl (za rfl (za rfl (za rfl (za rfl (za rfl (za rfl (za (zb1 (Enc.cloL _)) (by kernel_rfl))))))))))))))))))))) (by kernel_rfl)
 refine zg (o := or2) (s1.1) h ?_
 exact zcq (bl 36 51541704191) 1 (by kernel_rfl) (Nat.le_of_ble_eq_true rfl) (zco (za0 (zak _ _ (Enc.clo _)) rfl)) (by dsimp only [zbb, zb5, List.foldl, List.set, bz, bzc, Nat.reduceMod, Nat.reduceDiv, Nat.reduceBEq, Nat.reduceAdd]; exact (za rfl (za (show zx _ _ = true from rfl) (za rfl (za rfl (za rfl (za rfl (za rfl (za rfl (za rfl (za rfl (za rfl (za rfl (za rfl (za rfl (za rfl (za rfl (za rfl (za rfl (za (zb1 (Enc.cloL _)) (by kernel_rfl))))))))))))))))))))) (by kernel_rfl)
 intro j2 h
 refine zbn ?_
 refine zc (k0 := 0) (id := 10) ?_
 obtain ⟨g4, h⟩ := zf h
 refine zej g4 ?_
 refine zp ?_
 refine zz (p := p1) (j2, (s1.2 + 1)) h ?_
 exact zao (bl 36 1835138)
 refine zh h (fun h => ?_)
 refine zg (o := or1) (s1.1) h ?_
 exact zao (bl 36 128)
 intro j1 h
 refine zbn ?_
 refine zk [.m _, .m _] ?_
 exact zhx h
def zhu (fuel : Nat) (t : Trc) : Option Int :=
 (z1 (zem fuel t) (fun x1 => (bif (x1.2 != 0) then (some 0) else (zcr (τ := Int) (zbh (β := Int × Int) (fun s1 => (bif (decide (s1.2 < (List.length t.l : Int))) then (zcr (τ := Int) (chk (0 ≤ s1.2 ∧ s1.2 < (List.length t.l : Int)) (za7 (ix t.l s1.2) (fun x2 => (z1 (zjs x2) (fun x3 => (bif x3 then (chk (-9223372036854775808 ≤ (x2.to - x2.fr) ∧ (x2.to - x2.fr) < 9223372036854775808) (chk (-9223372036854775808 ≤ (s1.1 + (x2.to - x2.fr)) ∧ (s1.1 + (x2.to - x2.fr)) < 9223372036854775808) (some (Sum.inl ((s1.1 + (x2.to - x2.fr))))))) else (some (Sum.inl (s1.1))))))))) (fun j2 => (chk (-9223372036854775808 ≤ (s1.2 + 1) ∧ (s1.2 + 1) < 9223372036854775808) (some (Sum.inl (j2, (s1.2 + 1))))))) else (some (Sum.inr (Sum.inl (s1.1)))))) fuel (0, 0)) (fun j1 => (some j1))))))
theorem zt5 (fuel : Nat) (t : Trc) (r : Int) (h : zhu fuel t = some r) : Pure (ITP Tryz.prog) Tryz.prog 44 [.A (t : Trc), .clos 51 []] (.raw (.int .i64 r)) := by
 unfold zhu at h
 refine zah 34 mix Tryz.func44 ent44 ?_
 refine zj (zc ?_)
 refine zbr (a := .ptr 0 0) (σ'' := (.B [(27, (Enc.cells (t : Trc)))])) ?_
 refine w_o (a := .i 0) ?_
 refine zj ?_
 refine zk [.v (.A (t : Trc))] ?_
 obtain ⟨x1, hx1, h⟩ := zl h
 refine zbc (zgh fuel t x1 hx1) ?_
 refine w_r [.m _, .x _, .x _, .m _, .m _] ?_
 refine zk [.m _, .v (.b (x1.2 != 0))] ?_
 refine za3 h (fun hc1 h => ?_) (fun hc1 h => ?_)
 refine zk [.v (.i 0)] ?_
 exact zhx h
 refine zk [.v (.i 0)] ?_
 refine zaf h (bz 0 36 68719476735) (fun j1 => [(7, .i j1)]) (fun j1 => (.B [(27, (Enc.cells (t : Trc)))])) ?_ ?_
 intro or1 h hr1
 refine zk [.v (.ptr 0 0), .v (.L (t.l : List En)), .v (.i (List.length t.l : Int)), .v (.i 0)] ?_
 refine zr ?_
 refine zap h (bz 0 36 68718690301) (fun s1 => [(7, .i s1.1), (20, .i s1.2)]) (fun s1 => (.B [(27, (Enc.cells (t : Trc)))])) ?_ ?_
 exact zao (bl 36 1835138)
 intro s1 p1 h
 refine zbn ?_
 refine zk [.v (.b (decide (s1.2 < (List.length t.l : Int))))] ?_
 refine zj ?_
 refine za3 h (fun hc2 h => ?_) (fun hc2 h => ?_)
 refine zaf h (bz 0 34 17177772672) (fun j2 => [(7, .i j2)]) (fun j2 => (.B [(27, (Enc.cells (t : Trc)))])) ?_ ?_
 intro or2 h hr2
 refine zr ?_
 refine zj (zc ?_)
 obtain ⟨g1, h⟩ := zf h
 obtain ⟨x2, hx2, h⟩ := zo h
 refine zpi hx2 g1 ?_
 refine w_o (a := .A (x2 : En)) ?_
 refine zbr (a := .ptr 1 0) (σ'' := (.B [(27, (Enc.cells (t : Trc))), (41, (Enc.cells ((En.mk 0 0 0 []) : En)))])) ?_
 refine zcg 4 (.B [(27, (Enc.cells (t : Trc))), (41, (Enc.cells (x2 : En)))]) ?_
 refine zk [.m _, .v (.A (x2 : En))] ?_
 obtain ⟨x3, hx3, h⟩ := zl h
 refine zbc (zwc x2 x3 hx3) ?_
 refine za3 h (fun hc3 h => ?_) (fun hc3 h => ?_)
 refine zc (k0 := 0) (id := 9) ?_
 refine w_r [.m _, .v (.ptr 1 2), .v (.i x2.to), .v (.ptr 1 1), .v (.i x2.fr)] ?_
 obtain ⟨g2, h⟩ := zf h
 refine w_sb g2 ?_
 obtain ⟨g3, h⟩ := zf h
 refine zej g3 ?_
 refine zp ?_
 refine zg (o := or2) ((s1.1 + (x2.to - x2.fr))) h ?_
 exact zcq (bl 36 51541704191) 1 (by kernel_rfl) (Nat.le_of_ble_eq_true rfl) (zco (za0 (zak _ _ (Enc.clo _)) rfl)) (by dsimp only [zbb, zb5, List.foldl, List.set, bz, bzc, Nat.reduceMod, Nat.reduceDiv, Nat.reduceBEq, Nat.reduceAdd]; exact (za rfl (za (show zx _ _ = true from rfl) (za rfl (za rfl (za rfl (za rfl (za rfl (za rfl (za rfl (za rfl (za rfl (za rfl (za rfl (za rfl (za rfl (za rfl (za rfl (za rfl (za (zb1 (Enc.cloL _)) (by kernel_rfl))))))))))))))))))))) (by kernel_rfl)
 refine zg (o := or2) (s1.1) h ?_
 exact zcq (bl 36 51541704191) 1 (by kernel_rfl) (Nat.le_of_ble_eq_true rfl) (zco (za0 (zak _ _ (Enc.clo _)) rfl)) (by dsimp only [zbb, zb5, List.foldl, List.set, bz, bzc, Nat.reduceMod, Nat.reduceDiv, Nat.reduceBEq, Nat.reduceAdd]; exact (za rfl (za (show zx _ _ = true from rfl) (za rfl (za rfl (za rfl (za rfl (za rfl (za rfl (za rfl (za rfl (za rfl (za rfl (za rfl (za rfl (za rfl (za rfl (za rfl (za rfl (za (zb1 (Enc.cloL _)) (by kernel_rfl))))))))))))))))))))) (by kernel_rfl)
 intro j2 h
 refine zbn ?_
 refine zc (k0 := 0) (id := 10) ?_
 obtain ⟨g4, h⟩ := zf h
 refine zej g4 ?_
 refine zp ?_
 refine zz (p := p1) (j2, (s1.2 + 1)) h ?_
 exact zao (bl 36 1835138)
 refine zh h (fun h => ?_)
 refine zg (o := or1) (s1.1) h ?_
 exact zao (bl 36 128)
 intro j1 h
 refine zbn ?_
 refine zk [.m _, .m _] ?_
 exact zhx h
def zjt (fuel : Nat) (t : Trc) : Option Int :=
 (z1 (zem fuel t) (fun x1 => (bif (x1.2 != 0) then (some 0) else (zcr (τ := Int) (zbh (β := Int × Int) (fun s1 => (bif (decide (s1.2 < (List.length t.l : Int))) then (zcr (τ := Int) (chk (0 ≤ s1.2 ∧ s1.2 < (List.length t.l : Int)) (za7 (ix t.l s1.2) (fun x2 => (z1 (zlv x2) (fun x3 => (bif x3 then (chk (-9223372036854775808 ≤ (x2.to - x2.fr) ∧ (x2.to - x2.fr) < 9223372036854775808) (chk (-9223372036854775808 ≤ (s1.1 + (x2.to - x2.fr)) ∧ (s1.1 + (x2.to - x2.fr)) < 9223372036854775808) (some (Sum.inl ((s1.1 + (x2.to - x2.fr))))))) else (some (Sum.inl (s1.1))))))))) (fun j2 => (chk (-9223372036854775808 ≤ (s1.2 + 1) ∧ (s1.2 + 1) < 9223372036854775808) (some (Sum.inl (j2, (s1.2 + 1))))))) else (some (Sum.inr (Sum.inl (s1.1)))))) fuel (0, 0)) (fun j1 => (some j1))))))
theorem zv9 (fuel : Nat) (t : Trc) (r : Int) (h : zjt fuel t = some r) : Pure (ITP Tryz.prog) Tryz.prog 44 [.A (t : Trc), .clos 52 []] (.raw (.int .i64 r)) := by
 unfold zjt at h
 refine zah 34 mix Tryz.func44 ent44 ?_
 refine zj (zc ?_)
 refine zbr (a := .ptr 0 0) (σ'' := (.B [(27, (Enc.cells (t : Trc)))])) ?_
 refine w_o (a := .i 0) ?_
 refine zj ?_
 refine zk [.v (.A (t : Trc))] ?_
 obtain ⟨x1, hx1, h⟩ := zl h
 refine zbc (zgh fuel t x1 hx1) ?_
 refine w_r [.m _, .x _, .x _, .m _, .m _] ?_
 refine zk [.m _, .v (.b (x1.2 != 0))] ?_
 refine za3 h (fun hc1 h => ?_) (fun hc1 h => ?_)
 refine zk [.v (.i 0)] ?_
 exact zhx h
 refine zk [.v (.i 0)] ?_
 refine zaf h (bz 0 36 68719476735) (fun j1 => [(7, .i j1)]) (fun j1 => (.B [(27, (Enc.cells (t : Trc)))])) ?_ ?_
 intro or1 h hr1
 refine zk [.v (.ptr 0 0), .v (.L (t.l : List En)), .v (.i (List.length t.l : Int)), .v (.i 0)] ?_
 refine zr ?_
 refine zap h (bz 0 36 68718690301) (fun s1 => [(7, .i s1.1), (20, .i s1.2)]) (fun s1 => (.B [(27, (Enc.cells (t : Trc)))])) ?_ ?_
 exact zao (bl 36 1835138)
 intro s1 p1 h
 refine zbn ?_
 refine zk [.v (.b (decide (s1.2 < (List.length t.l : Int))))] ?_
 refine zj ?_
 refine za3 h (fun hc2 h => ?_) (fun hc2 h => ?_)
 refine zaf h (bz 0 34 17177772672) (fun j2 => [(7, .i j2)]) (fun j2 => (.B [(27, (Enc.cells (t : Trc)))])) ?_ ?_
 intro or2 h hr2
 refine zr ?_
 refine zj (zc ?_)
 obtain ⟨g1, h⟩ := zf h
 obtain ⟨x2, hx2, h⟩ := zo h
 refine zpi hx2 g1 ?_
 refine w_o (a := .A (x2 : En)) ?_
 refine zbr (a := .ptr 1 0) (σ'' := (.B [(27, (Enc.cells (t : Trc))), (41, (Enc.cells ((En.mk 0 0 0 []) : En)))])) ?_
 refine zcg 4 (.B [(27, (Enc.cells (t : Trc))), (41, (Enc.cells (x2 : En)))]) ?_
 refine zk [.m _, .v (.A (x2 : En))] ?_
 obtain ⟨x3, hx3, h⟩ := zl h
 refine zbc (zyt x2 x3 hx3) ?_
 refine za3 h (fun hc3 h => ?_) (fun hc3 h => ?_)
 refine zc (k0 := 0) (id := 9) ?_
 refine w_r [.m _, .v (.ptr 1 2), .v (.i x2.to), .v (.ptr 1 1), .v (.i x2.fr)] ?_
 obtain ⟨g2, h⟩ := zf h
 refine w_sb g2 ?_
 obtain ⟨g3, h⟩ := zf h
 refine zej g3 ?_
 refine zp ?_
 refine zg (o := or2) ((s1.1 + (x2.to - x2.fr))) h ?_
 exact zcq (bl 36 51541704191) 1 (by kernel_rfl) (Nat.le_of_ble_eq_true rfl) (zco (za0 (zak _ _ (Enc.clo _)) rfl)) (by dsimp only [zbb, zb5, List.foldl, List.set, bz, bzc, Nat.reduceMod, Nat.reduceDiv, Nat.reduceBEq, Nat.reduceAdd]; exact (za rfl (za (show zx _ _ = true from rfl) (za rfl (za rfl (za rfl (za rfl (za rfl (za rfl (za rfl (za rfl (za rfl (za rfl (za rfl (za rfl (za rfl (za rfl (za rfl (za rfl (za (zb1 (Enc.cloL _)) (by kernel_rfl))))))))))))))))))))) (by kernel_rfl)
 refine zg (o := or2) (s1.1) h ?_
 exact zcq (bl 36 51541704191) 1 (by kernel_rfl) (Nat.le_of_ble_eq_true rfl) (zco (za0 (zak _ _ (Enc.clo _)) rfl)) (by dsimp only [zbb, zb5, List.foldl, List.set, bz, bzc, Nat.reduceMod, Nat.reduceDiv, Nat.reduceBEq, Nat.reduceAdd]; exact (za rfl (za (show zx _ _ = true from rfl) (za rfl (za rfl (za rfl (za rfl (za rfl (za rfl (za rfl (za rfl (za rfl (za rfl (za rfl (za rfl (za rfl (za rfl (za rfl (za rfl (za (zb1 (Enc.cloL _)) (by kernel_rfl))))))))))))))))))))) (by kernel_rfl)
 intro j2 h
 refine zbn ?_
 refine zc (k0 := 0) (id := 10) ?_
 obtain ⟨g4, h⟩ := zf h
 refine zej g4 ?_
 refine zp ?_
 refine zz (p := p1) (j2, (s1.2 + 1)) h ?_
 exact zao (bl 36 1835138)
 refine zh h (fun h => ?_)
 refine zg (o := or1) (s1.1) h ?_
 exact zao (bl 36 128)
 intro j1 h
 refine zbn ?_
 refine zk [.m _, .m _] ?_
 exact zhx h
def zh8 (fuel : Nat) (t : Trc) : Option Int :=
 (z1 (zhu fuel t) (fun x1 => (some x1)))
theorem ent23 : Ent Tryz.prog 23 := enters_of Tryz.func23 (by kernel_rfl) rfl
theorem zuy (fuel : Nat) (t : Trc) (r : Int) (h : zh8 fuel t = some r) : Pure (ITP Tryz.prog) Tryz.prog 23 [.A (t : Trc)] (.raw (.int .i64 r)) := by
 unfold zh8 at h
 refine zah 4 mix Tryz.func23 ent23 ?_
 refine zj (zc ?_)
 refine zbr (a := .ptr 0 0) (σ'' := (.B [(27, (Enc.cells (t : Trc)))])) ?_
 refine w_o (a := .i 0) ?_
 refine zk [.v (.A (t : Trc))] ?_
 obtain ⟨x1, hx1, h⟩ := zl h
 refine zql (args' := [.A (t : Trc), .clos 51 []]) (r := .i x1) (zt5 fuel t x1 hx1) rfl rfl (zac (zen (zb2 (Enc.clo _))) (zac (show AV.clos _ (stripL _) = _ from congrArg (AV.clos _) rfl) rfl)) (za (zcd _ _ (zb2 (Enc.clo _))) (za (show zx _ _ = true from rfl) rfl)) (by dsimp only [z6, List.set]) ?_
 refine zp ?_
 exact zhx h
def zmm (fuel : Nat) (t : Trc) : Option Int :=
 (z1 (zjt fuel t) (fun x1 => (some x1)))
theorem ent24 : Ent Tryz.prog 24 := enters_of Tryz.func24 (by kernel_rfl) rfl
theorem zzc (fuel : Nat) (t : Trc) (r : Int) (h : zmm fuel t = some r) : Pure (ITP Tryz.prog) Tryz.prog 24 [.A (t : Trc)] (.raw (.int .i64 r)) := by
 unfold zmm at h
 refine zah 4 mix Tryz.func24 ent24 ?_
 refine zj (zc ?_)
 refine zbr (a := .ptr 0 0) (σ'' := (.B [(27, (Enc.cells (t : Trc)))])) ?_
 refine w_o (a := .i 0) ?_
 refine zk [.v (.A (t : Trc))] ?_
 obtain ⟨x1, hx1, h⟩ := zl h
 refine zql (args' := [.A (t : Trc), .clos 52 []]) (r := .i x1) (zv9 fuel t x1 hx1) rfl rfl (zac (zen (zb2 (Enc.clo _))) (zac (show AV.clos _ (stripL _) = _ from congrArg (AV.clos _) rfl) rfl)) (za (zcd _ _ (zb2 (Enc.clo _))) (za (show zx _ _ = true from rfl) rfl)) (by dsimp only [z6, List.set]) ?_
 refine zp ?_
 exact zhx h
def z2a (fuel : Nat) (t : Trc) : Option Int :=
 (z1 (zqj fuel t) (fun x1 => (some x1)))
theorem ent17 : Ent Tryz.prog 17 := enters_of Tryz.func17 (by kernel_rfl) rfl
theorem at_sh (fuel : Nat) (t : Trc) (r : Int) (h : z2a fuel t = some r) : Pure (ITP Tryz.prog) Tryz.prog 17 [.A (t : Trc)] (.raw (.int .i64 r)) := by
 unfold z2a at h
 refine zah 4 mix Tryz.func17 ent17 ?_
 refine zj (zc ?_)
 refine zbr (a := .ptr 0 0) (σ'' := (.B [(27, (Enc.cells (t : Trc)))])) ?_
 refine w_o (a := .i 0) ?_
 refine zk [.v (.A (t : Trc))] ?_
 obtain ⟨x1, hx1, h⟩ := zl h
 refine zql (args' := [.A (t : Trc), .clos 45 []]) (r := .i x1) (z0c fuel t x1 hx1) rfl rfl (zac (zen (zb2 (Enc.clo _))) (zac (show AV.clos _ (stripL _) = _ from congrArg (AV.clos _) rfl) rfl)) (za (zcd _ _ (zb2 (Enc.clo _))) (za (show zx _ _ = true from rfl) rfl)) (by dsimp only [z6, List.set]) ?_
 refine zp ?_
 exact zhx h
end Go.Ab
