/-
  trace: TracePairs.
-/
import Derived.Test.YtcdmdnadilafhaaGreatDoorZyPq
import Derived.Test.YtcdmdnadilafhaaGreatDoorZyQc
import Derived.Test.YtcdmdnadilafhaaGreatDoorZyEn2
import Derived.Test.YtcdmdnadilafhaaGreatDoorZdQr
set_option linter.unusedSimpArgs false
set_option linter.unusedVariables false
set_option maxRecDepth 100000
set_option maxHeartbeats 4000000
namespace Go.Ab
open Go Go.RowKit Go.Fwd Go.Proofs
def zfp (fuel : Nat) (t : Trc) : Option Trc :=
 (zcr (τ := Trc) (zbh (β := Int × Trc) (fun s1 => (bif (decide (s1.1 < (List.length t.l : Int))) then (chk (0 ≤ s1.1 ∧ s1.1 < (List.length t.l : Int)) (za7 (ix t.l s1.1) (fun x1 => (chk ((List.length s1.2.l + List.length [x1]) * 40 ≤ 140737488355328) (chk (-9223372036854775808 ≤ (s1.1 + 1) ∧ (s1.1 + 1) < 9223372036854775808) (some (Sum.inl ((s1.1 + 1), (Trc.mk (s1.2.l ++ [x1]) (Ed.mk s1.2.e.k s1.2.e.c)))))))))) else (some (Sum.inr (Sum.inl ((Trc.mk s1.2.l (Ed.mk s1.2.e.k s1.2.e.c)))))))) fuel (0, (Trc.mk ([] : List En) (Ed.mk t.e.k t.e.c)))) (fun j1 => (some (Trc.mk j1.l (Ed.mk j1.e.k j1.e.c)))))
theorem ent34 : Ent Tryz.prog 34 := enters_of Tryz.func34 (by kernel_rfl) rfl
theorem ziy (fuel : Nat) (t : Trc) (r : Trc) (h : zfp fuel t = some r) : Pure (ITP Tryz.prog) Tryz.prog 34 [.A (t : Trc)] (.A (r : Trc)) := by
 unfold zfp at h
 refine zah 23 mix Tryz.func34 ent34 ?_
 refine zj (zc ?_)
 refine zbr (a := .ptr 0 0) (σ'' := (.B [(27, (Enc.cells (t : Trc)))])) ?_
 refine zbr (a := .ptr 1 0) (σ'' := (.B [(27, (Enc.cells (t : Trc))), (34, [.list 0 [] .full, .u 0, .i 0])])) ?_
 refine zk [.v (.ptr 0 1), .v (.A (t.e : Ed)), .v (.agg [.F (([] : List En) : List En), .u t.e.k, .i t.e.c])] ?_
 refine zbr (a := .ptr 2 0) (σ'' := (.B [(27, (Enc.cells (t : Trc))), (34, [.list 0 [] .full, .u 0, .i 0]), (34, [.F (([] : List En) : List En), .u 0, .i 0])])) ?_
 refine zcg 3 (.B [(27, (Enc.cells (t : Trc))), (34, [.list 0 [] .full, .u 0, .i 0]), (34, [.F (([] : List En) : List En), .u t.e.k, .i t.e.c])]) ?_
 refine zaf h (bz 0 24 16777203) (fun j1 => []) (fun j1 => (z7 [(27, (Enc.cells (t : Trc))), (34, [.list 0 [] .full, .u 0, .i 0]), (34, [(.O (j1.l : List En)), .u j1.e.k, .i j1.e.c])] 67 (List.length (j1.l : List En)) 4)) ?_ ?_
 intro or1 h hr1
 refine zk [.v (.ptr 0 0), .v (.L (t.l : List En)), .v (.i (List.length t.l : Int)), .v (.i 0)] ?_
 refine zr ?_
 refine zap h (bz 0 24 16774131) (fun s1 => [(12, .i s1.1)]) (fun s1 => (z7 [(27, (Enc.cells (t : Trc))), (34, [.list 0 [] .full, .u 0, .i 0]), (34, [(.O (s1.2.l : List En)), .u s1.2.e.k, .i s1.2.e.c])] 67 (List.length (s1.2.l : List En)) 4)) ?_ ?_
 exact zao (bl 24 7180)
 intro s1 p1 h
 refine zbn ?_
 refine zk [.v (.b (decide (s1.1 < (List.length t.l : Int))))] ?_
 refine zj ?_
 refine za3 h (fun hc1 h => ?_) (fun hc1 h => ?_)
 refine zj ?_
 refine zr ?_
 refine zj (zc ?_)
 obtain ⟨g1, h⟩ := zf h
 obtain ⟨x1, hx1, h⟩ := zo h
 refine zpi hx1 g1 ?_
 refine w_o (a := .A (x1 : En)) ?_
 refine zbr (a := .ptr 3 0) (σ'' := (z7 [(27, (Enc.cells (t : Trc))), (34, [.list 0 [] .full, .u 0, .i 0]), (34, [(.O (s1.2.l : List En)), .u s1.2.e.k, .i s1.2.e.c]), (41, (Enc.cells ((En.mk 0 0 0 []) : En)))] 67 (List.length (s1.2.l : List En)) 4)) ?_
 refine zcg 4 (z7 [(27, (Enc.cells (t : Trc))), (34, [.list 0 [] .full, .u 0, .i 0]), (34, [(.O (s1.2.l : List En)), .u s1.2.e.k, .i s1.2.e.c]), (41, (Enc.cells (x1 : En)))] 67 (List.length (s1.2.l : List En)) 4) ?_
 refine zc (k0 := 0) (id := 5) ?_
 refine w_r [.v (.ptr 2 0), .v (.O (s1.2.l : List En)), .v (.A (x1 : En))] ?_
 refine w_o (a := .F ([x1] : List En)) (h := zv (zcs (α := En) (l := [x1]) (cs := Enc.cells (x1 : En) ++ []) rfl (by rw [Enc.cons, Enc.nil]))) ?_
 obtain ⟨g2, h⟩ := zf h
 refine zga (a := (.O ((s1.2.l ++ [x1]) : List En))) (σ'' := (z7 [(27, (Enc.cells (t : Trc))), (34, [.list 0 [] .full, .u 0, .i 0]), (34, [(.O (s1.2.l : List En)), .u s1.2.e.k, .i s1.2.e.c]), (41, (Enc.cells (x1 : En)))] 67 (List.length ((s1.2.l ++ [x1]) : List En)) 4)) rfl rfl rfl (zce rfl rfl rfl rfl (zbu (α := En) (bs := [(27, (Enc.cells (t : Trc))), (34, [.list 0 [] .full, .u 0, .i 0]), (34, [(.O (s1.2.l : List En)), .u s1.2.e.k, .i s1.2.e.c]), (41, (Enc.cells (x1 : En)))]) (a := s1.2.l) (b := [x1]) g2 rfl rfl rfl rfl rfl ⟨rfl, by decide⟩)) (by dsimp only [z6, List.set]) rfl ?_
 refine w_o (a := .ptr 2 0) ?_
 refine zbr (σ'' := (z7 [(27, (Enc.cells (t : Trc))), (34, [.list 0 [] .full, .u 0, .i 0]), (34, [(.O ((s1.2.l ++ [x1]) : List En)), .u s1.2.e.k, .i s1.2.e.c]), (41, (Enc.cells (x1 : En)))] 67 (List.length ((s1.2.l ++ [x1]) : List En)) 4)) (h := zn4 rfl rfl rfl rfl rfl (Nat.le_of_ble_eq_true rfl)) ?_
 refine zc (k0 := 0) (id := 6) ?_
 obtain ⟨g3, h⟩ := zf h
 refine zej g3 ?_
 refine zp ?_
 refine zz (p := p1) ((s1.1 + 1), (Trc.mk (s1.2.l ++ [x1]) (Ed.mk s1.2.e.k s1.2.e.c))) h ?_
 exact zcq (bl 24 7180) 3 (by kernel_rfl) (Nat.le_of_ble_eq_true rfl) (zco (za0 (zak _ _ (Enc.clo _)) (za0 rfl (za0 (za (zb6 (Enc.cloL _)) (by kernel_rfl)) rfl)))) (by dsimp only [zbb, zb5, List.foldl, List.set, bz, bzc, Nat.reduceMod, Nat.reduceDiv, Nat.reduceBEq, Nat.reduceAdd]; exact (za rfl (za rfl (za (by decide) (za (by decide) (za rfl (za rfl (za rfl (za rfl (za rfl (za rfl (za (zb1 (Enc.cloL _)) (by kernel_rfl))))))))))))) (by kernel_rfl)
 refine zh h (fun h => ?_)
 refine zg (o := or1) ((Trc.mk s1.2.l (Ed.mk s1.2.e.k s1.2.e.c))) h ?_
 exact zao (bl 24 12)
 intro j1 h
 refine zbn ?_
 refine zk [.v (.agg [(.O (j1.l : List En)), .u j1.e.k, .i j1.e.c])] ?_
 refine zcg 3 (z7 [(27, (Enc.cells (t : Trc))), (34, [(.O (j1.l : List En)), .u j1.e.k, .i j1.e.c]), (34, [(.O (j1.l : List En)), .u j1.e.k, .i j1.e.c])] 67 (List.length (j1.l : List En)) 4) ?_
 exact zam (fun (r : Trc) => .A (r : Trc)) h (.agg [(.O (j1.l : List En)), .u j1.e.k, .i j1.e.c])
def zfs (fuel : Nat) (a : Trc) (b : Trc) : Option (Int × Bool) :=
 (zcr (τ := Unit) (zbh (β := Int) (fun s1 => (zcr (τ := Unit) (bif (decide (s1 < (List.length a.l : Int))) then (some (Sum.inl ())) else (bif (decide (s1 < (List.length b.l : Int))) then (some (Sum.inl ())) else (some (Sum.inr (Sum.inr (Sum.inl ())))))) (fun j2 => (bif (decide (s1 ≥ (List.length a.l : Int))) then (some (Sum.inr (Sum.inr (s1, true)))) else (bif (decide (s1 ≥ (List.length b.l : Int))) then (some (Sum.inr (Sum.inr (s1, true)))) else (chk (0 ≤ s1 ∧ s1 < (List.length a.l : Int)) (za7 (ix a.l s1) (fun x1 => (chk (0 ≤ s1 ∧ s1 < (List.length b.l : Int)) (za7 (ix b.l s1) (fun x2 => (bif (decide (x1 ≠ x2)) then (some (Sum.inr (Sum.inr (s1, true)))) else (chk (-9223372036854775808 ≤ (s1 + 1) ∧ (s1 + 1) < 9223372036854775808) (some (Sum.inl ((s1 + 1))))))))))))))))) fuel (0)) (fun j1 => (bif (decide (a.e ≠ b.e)) then (some ((List.length a.l : Int), true)) else (some (0, false)))))
theorem ent40 : Ent Tryz.prog 40 := enters_of Tryz.func40 (by kernel_rfl) rfl
theorem zo0 (fuel : Nat) (a : Trc) (b : Trc) (r : (Int × Bool)) (h : zfs fuel a b = some r) : Pure (ITP Tryz.prog) Tryz.prog 40 [.A (a : Trc), .A (b : Trc)] (.tup [.raw (.int .i64 r.1), .raw (.bool r.2)]) := by
 unfold zfs at h
 refine zah 53 mix Tryz.func40 ent40 ?_
 refine zj (zc ?_)
 refine zbr (a := .ptr 0 0) (σ'' := (.B [(34, (Enc.cells (a : Trc)))])) ?_
 refine zbr (a := .ptr 1 0) (σ'' := (.B [(34, (Enc.cells (a : Trc))), (34, (Enc.cells (b : Trc)))])) ?_
 refine w_r [.v (.i 0), .v (.b false)] ?_
 refine zaf h (bz 0 55 36028797018963955) (fun j1 => []) (fun j1 => (.B [(34, (Enc.cells (a : Trc))), (34, (Enc.cells (b : Trc)))])) ?_ ?_
 intro or1 h hr1
 refine zk [.v (.i 0)] ?_
 refine zr ?_
 refine zap h (bz 0 55 36028797018963955) (fun s1 => [(6, .i s1)]) (fun s1 => (.B [(34, (Enc.cells (a : Trc))), (34, (Enc.cells (b : Trc)))])) ?_ ?_
 exact zao (bl 55 76)
 intro s1 p1 h
 refine zbn ?_
 refine zaf h (bz 0 19 524160) (fun j2 => []) (fun j2 => (.B [(34, (Enc.cells (a : Trc))), (34, (Enc.cells (b : Trc)))])) ?_ ?_
 intro or2 h hr2
 refine zk [.m _, .v (.ptr 0 0), .v (.L (a.l : List En)), .v (.i (List.length a.l : Int)), .v (.b (decide (s1 < (List.length a.l : Int))))] ?_
 refine zaa h (fun hc1 h => ?_) (fun hc1 h => ?_)
 refine zar hc1 ?_
 refine w_r [.p, .p, .p, .p, .p] ?_
 refine w_r [.v (.b true)] ?_
 refine za6 rfl ?_
 refine zg (o := or2) () h ?_
 exact zao (bl 55 36028797018439807)
 refine zar hc1 ?_
 refine w_r [.m _, .v (.ptr 1 0), .v (.L (b.l : List En)), .v (.i (List.length b.l : Int)), .v (.b (decide (s1 < (List.length b.l : Int))))] ?_
 refine w_r [.v (.b (decide (s1 < (List.length b.l : Int))))] ?_
 refine za3 h (fun hc2 h => ?_) (fun hc2 h => ?_)
 refine zg (o := or2) () h ?_
 exact zao (bl 55 36028797018439807)
 replace h := zq h hr2
 refine zh h (fun h => ?_)
 refine zg (o := or1) () h ?_
 exact zao (bl 55 12)
 intro j2 h
 refine zbn ?_
 refine zj ?_
 refine zr ?_
 refine zj ?_
 refine zb3 (k0 := 0) (id := 4) 23 (by kernel_rfl) (by kernel_rfl) ?_
 refine zbg ?_
 refine h_o (a := .ptr 0 0) ?_
 refine h_o (a := .L (a.l : List En)) ?_
 refine h_o (a := .i (List.length a.l : Int)) ?_
 refine h_o (a := .b (decide (s1 ≥ (List.length a.l : Int)))) ?_
 refine zaa h (fun hc3 h => ?_) (fun hc3 h => ?_)
 refine h_o (a := .b true) (h := zae rfl hc3) ?_
 refine z8 ?_
 refine z8 ?_
 refine z8 ?_
 refine z8 ?_
 refine z8 ?_
 refine h_o (a := .b true) ?_
 refine zbg ?_
 refine z8 ?_
 refine z8 ?_
 refine z8 ?_
 refine z8 ?_
 refine z8 ?_
 refine z8 ?_
 refine z8 ?_
 refine z8 ?_
 refine z8 ?_
 refine z8 ?_
 refine zbq ?_
 refine w_r [.p, .v (.b true)] ?_
 refine za6 rfl ?_
 refine zk [.m _, .m _, .v (.b true)] ?_
 refine zh h (fun h => ?_)
 replace h := zq h hr1
 exact zam (fun (r : (Int × Bool)) => .tup [.i r.1, .b r.2]) h (.tup [.i s1, .b true])
 refine h_o (a := .b false) (h := zae rfl hc3) ?_
 refine zag rfl rfl ?_
 refine zbg ?_
 refine zag rfl rfl ?_
 refine h_o (a := .ptr 1 0) ?_
 refine zag rfl rfl ?_
 refine h_o (a := .L (b.l : List En)) ?_
 refine zag rfl rfl ?_
 refine h_o (a := .i (List.length b.l : Int)) ?_
 refine zag rfl rfl ?_
 refine h_o (a := .b (decide (s1 ≥ (List.length b.l : Int)))) ?_
 refine h_o (a := .b (decide (s1 ≥ (List.length b.l : Int)))) ?_
 refine zaa h (fun hc4 h => ?_) (fun hc4 h => ?_)
 refine h_o (a := .b true) (h := zae rfl hc4) ?_
 refine z8 ?_
 refine z8 ?_
 refine z8 ?_
 refine z8 ?_
 refine z8 ?_
 refine z8 ?_
 refine z8 ?_
 refine z8 ?_
 refine z8 ?_
 refine z8 ?_
 refine zbq ?_
 refine w_r [.p, .v (.b true)] ?_
 refine za6 rfl ?_
 refine zk [.m _, .m _, .v (.b true)] ?_
 refine zh h (fun h => ?_)
 replace h := zq h hr1
 exact zam (fun (r : (Int × Bool)) => .tup [.i r.1, .b r.2]) h (.tup [.i s1, .b true])
 refine h_o (a := .b false) (h := zae rfl hc4) ?_
 refine zag rfl rfl ?_
 refine h_o (a := .ptr 0 0) ?_
 refine zag rfl rfl ?_
 refine h_o (a := .L (a.l : List En)) ?_
 refine zag rfl rfl ?_
 refine zbg ?_
 refine zag rfl rfl ?_
 obtain ⟨g1, h⟩ := zf h
 obtain ⟨x1, hx1, h⟩ := zo h
 refine zn8 hx1 g1 ?_
 refine zag rfl rfl ?_
 refine h_o (a := .A (x1 : En)) ?_
 refine zag rfl rfl ?_
 refine h_o (a := .ptr 1 0) ?_
 refine zag rfl rfl ?_
 refine h_o (a := .L (b.l : List En)) ?_
 refine zag rfl rfl ?_
 refine zbg ?_
 refine zag rfl rfl ?_
 obtain ⟨g2, h⟩ := zf h
 obtain ⟨x2, hx2, h⟩ := zo h
 refine zn8 hx2 g2 ?_
 refine zag rfl rfl ?_
 refine h_o (a := .A (x2 : En)) ?_
 refine zbq ?_
 refine zai rfl rfl ?_
 refine zoc (.b (decide (x1 ≠ x2))) rfl rfl rfl (zpa x1 x2 rfl rfl rfl) (by dsimp only [z6, List.set]) ?_
 refine w_o (a := .b (decide (x1 ≠ x2))) ?_
 refine za3 h (fun hc5 h => ?_) (fun hc5 h => ?_)
 refine zk [.m _, .m _, .v (.b true)] ?_
 refine zh h (fun h => ?_)
 replace h := zq h hr1
 exact zam (fun (r : (Int × Bool)) => .tup [.i r.1, .b r.2]) h (.tup [.i s1, .b true])
 refine zc (k0 := 0) (id := 3) ?_
 refine zp ?_
 obtain ⟨g3, h⟩ := zf h
 refine zej g3 ?_
 refine zp ?_
 refine zz (p := p1) ((s1 + 1)) h ?_
 exact zao (bl 55 76)
 intro j1 h
 refine zbn ?_
 refine zj ?_
 refine zk [.v (.ptr 0 1), .v (.A (a.e : Ed)), .v (.ptr 1 1), .v (.A (b.e : Ed))] ?_
 refine zoc (.b (decide (a.e ≠ b.e))) rfl rfl rfl (zwg a.e b.e rfl rfl rfl) (by dsimp only [z6, List.set]) ?_
 refine za3 h (fun hc6 h => ?_) (fun hc6 h => ?_)
 refine zk [.v (.ptr 0 0), .v (.L (a.l : List En)), .v (.i (List.length a.l : Int)), .m _, .v (.b true)] ?_
 exact zam (fun (r : (Int × Bool)) => .tup [.i r.1, .b r.2]) h (.tup [.i (List.length a.l : Int), .b true])
 refine zk [.v (.i 0), .v (.b false)] ?_
 exact zam (fun (r : (Int × Bool)) => .tup [.i r.1, .b r.2]) h (.tup [.i 0, .b false])
def zid (fuel : Nat) (a : Trc) (b : Trc) : Option Bool :=
 (z1 (zfs fuel a b) (fun x1 => (some (!x1.2))))
theorem ent33 : Ent Tryz.prog 33 := enters_of Tryz.func33 (by kernel_rfl) rfl
theorem zqw (fuel : Nat) (a : Trc) (b : Trc) (r : Bool) (h : zid fuel a b = some r) : Pure (ITP Tryz.prog) Tryz.prog 33 [.A (a : Trc), .A (b : Trc)] (.raw (.bool r)) := by
 unfold zid at h
 refine zah 13 mix Tryz.func33 ent33 ?_
 refine zj (zc ?_)
 refine zbr (a := .ptr 0 0) (σ'' := (.B [(34, (Enc.cells (a : Trc)))])) ?_
 refine zbr (a := .ptr 1 0) (σ'' := (.B [(34, (Enc.cells (a : Trc))), (34, (Enc.cells (b : Trc)))])) ?_
 refine w_o (a := .b false) ?_
 refine zk [.v (.A (a : Trc)), .v (.A (b : Trc))] ?_
 obtain ⟨x1, hx1, h⟩ := zl h
 refine zbc (zo0 fuel a b x1 hx1) ?_
 refine w_r [.m _, .x _, .x _, .m _, .m _] ?_
 refine zk [.m _, .v (.b (!x1.2)), .m _] ?_
 exact zaj h
def zm5 (fuel : Nat) (a : Trc) (b : Trc) : Option Bool :=
 (z1 (zid fuel a b) (fun x1 => (bif x1 then (some true) else (bif (a.e.k != 1) then (some false) else (bif (a.e.c != 0) then (some false) else (bif (decide ((List.length a.l : Int) > (List.length b.l : Int))) then (some false) else (zcr (τ := Unit) (zbh (β := Int) (fun s1 => (bif (decide (s1 < (List.length a.l : Int))) then (chk (0 ≤ s1 ∧ s1 < (List.length a.l : Int)) (za7 (ix a.l s1) (fun x2 => (chk (0 ≤ s1 ∧ s1 < (List.length b.l : Int)) (za7 (ix b.l s1) (fun x3 => (bif (decide (x2 ≠ x3)) then (some (Sum.inr (Sum.inr false))) else (chk (-9223372036854775808 ≤ (s1 + 1) ∧ (s1 + 1) < 9223372036854775808) (some (Sum.inl ((s1 + 1)))))))))))) else (some (Sum.inr (Sum.inl ()))))) fuel (0)) (fun j1 => (some true)))))))))
theorem ent41 : Ent Tryz.prog 41 := enters_of Tryz.func41 (by kernel_rfl) rfl
theorem z00 (fuel : Nat) (a : Trc) (b : Trc) (r : Bool) (h : zm5 fuel a b = some r) : Pure (ITP Tryz.prog) Tryz.prog 41 [.A (a : Trc), .A (b : Trc)] (.raw (.bool r)) := by
 unfold zm5 at h
 refine zah 44 mix Tryz.func41 ent41 ?_
 refine zj (zc ?_)
 refine zbr (a := .ptr 0 0) (σ'' := (.B [(34, (Enc.cells (a : Trc)))])) ?_
 refine zbr (a := .ptr 1 0) (σ'' := (.B [(34, (Enc.cells (a : Trc))), (34, (Enc.cells (b : Trc)))])) ?_
 refine w_o (a := .b false) ?_
 refine zj ?_
 refine zk [.v (.A (a : Trc)), .v (.A (b : Trc))] ?_
 obtain ⟨x1, hx1, h⟩ := zl h
 refine zbc (zqw fuel a b x1 hx1) ?_
 refine za3 h (fun hc1 h => ?_) (fun hc1 h => ?_)
 refine zk [.v (.b true)] ?_
 exact zaj h
 refine zj ?_
 refine zk [.v (.ptr 0 1), .v (.ptr 0 1), .v (.u a.e.k), .v (.b (a.e.k != 1))] ?_
 refine zaa h (fun hc2 h => ?_) (fun hc2 h => ?_)
 refine zar hc2 ?_
 refine w_r [.p, .p, .p, .p, .v (.b true)] ?_
 refine w_r [.m _, .p, .p, .p, .p] ?_
 refine w_r [.p, .p, .p, .v (.b true)] ?_
 refine za6 rfl ?_
 refine zk [.v (.b false)] ?_
 exact zaj h
 refine zar hc2 ?_
 refine w_r [.v (.ptr 0 1), .v (.ptr 0 2), .v (.i a.e.c), .v (.b (a.e.c != 0)), .v (.b (a.e.c != 0))] ?_
 refine zaa h (fun hc3 h => ?_) (fun hc3 h => ?_)
 refine zar hc3 ?_
 refine w_r [.p, .p, .p, .p, .p] ?_
 refine w_r [.p, .p, .v (.b true)] ?_
 refine za6 rfl ?_
 refine zk [.v (.b false)] ?_
 exact zaj h
 refine zar hc3 ?_
 refine w_r [.v (.ptr 0 0), .v (.L (a.l : List En)), .v (.i (List.length a.l : Int)), .v (.ptr 1 0), .v (.L (b.l : List En))] ?_
 refine w_r [.v (.i (List.length b.l : Int)), .v (.b (decide ((List.length a.l : Int) > (List.length b.l : Int)))), .v (.b (decide ((List.length a.l : Int) > (List.length b.l : Int))))] ?_
 refine za3 h (fun hc4 h => ?_) (fun hc4 h => ?_)
 refine zk [.v (.b false)] ?_
 exact zaj h
 refine zaf h (bz 0 46 70368744177663) (fun j1 => []) (fun j1 => (.B [(34, (Enc.cells (a : Trc))), (34, (Enc.cells (b : Trc)))])) ?_ ?_
 intro or1 h hr1
 refine zk [.v (.i 0)] ?_
 refine zr ?_
 refine zap h (bz 0 46 70368744177651) (fun s1 => [(5, .i s1)]) (fun s1 => (.B [(34, (Enc.cells (a : Trc))), (34, (Enc.cells (b : Trc)))])) ?_ ?_
 exact zao (bl 46 44)
 intro s1 p1 h
 refine zbn ?_
 refine zj ?_
 refine zk [.m _, .v (.ptr 0 0), .v (.L (a.l : List En)), .v (.i (List.length a.l : Int)), .v (.b (decide (s1 < (List.length a.l : Int))))] ?_
 refine za3 h (fun hc5 h => ?_) (fun hc5 h => ?_)
 refine zj ?_
 refine zr ?_
 refine zj ?_
 refine zb3 (k0 := 0) (id := 8) 10 (by kernel_rfl) (by kernel_rfl) ?_
 refine h_o (a := .ptr 0 0) ?_
 refine h_o (a := .L (a.l : List En)) ?_
 refine zbg ?_
 obtain ⟨g1, h⟩ := zf h
 obtain ⟨x2, hx2, h⟩ := zo h
 refine zn8 hx2 g1 ?_
 refine h_o (a := .A (x2 : En)) ?_
 refine h_o (a := .ptr 1 0) ?_
 refine h_o (a := .L (b.l : List En)) ?_
 refine zbg ?_
 obtain ⟨g2, h⟩ := zf h
 obtain ⟨x3, hx3, h⟩ := zo h
 refine zn8 hx3 g2 ?_
 refine h_o (a := .A (x3 : En)) ?_
 refine zbq ?_
 refine zoc (.b (decide (x2 ≠ x3))) rfl rfl rfl (zpa x2 x3 rfl rfl rfl) (by dsimp only [z6, List.set]) ?_
 refine za3 h (fun hc6 h => ?_) (fun hc6 h => ?_)
 refine zk [.v (.b false)] ?_
 refine zh h (fun h => ?_)
 replace h := zq h hr1
 exact zaj h
 refine zc (k0 := 0) (id := 7) ?_
 refine zp ?_
 obtain ⟨g3, h⟩ := zf h
 refine zej g3 ?_
 refine zp ?_
 refine zz (p := p1) ((s1 + 1)) h ?_
 exact zao (bl 46 44)
 refine zh h (fun h => ?_)
 refine zg (o := or1) () h ?_
 exact zao (bl 46 0)
 intro j1 h
 refine zbn ?_
 refine zk [.v (.b true)] ?_
 exact zaj h
def zlh (fuel : Nat) (a : Trc) (b : Trc) : Option Bool :=
 (z1 (zfp fuel a) (fun x1 => (z1 (zfp fuel b) (fun x2 => (z1 (zhp fuel a b) (fun x3 => (z1 (zfs fuel x1 x2) (fun x4 => (bif (x3.1 == x4.1) then (bif (x3.2 == x4.2) then (z1 (zq8 fuel a b) (fun x5 => (z1 (zid fuel x1 x2) (fun x6 => (bif (x5 == x6) then (z1 (zq9 fuel a b) (fun x7 => (z1 (zm5 fuel x1 x2) (fun x8 => (some (x7 == x8)))))) else (some false)))))) else (some false)) else (some false))))))))))
theorem ent12 : Ent Tryz.prog 12 := enters_of Tryz.func12 (by kernel_rfl) rfl
theorem zpb (fuel : Nat) (a : Trc) (b : Trc) (r : Bool) (h : zlh fuel a b = some r) : Pure (ITP Tryz.prog) Tryz.prog 12 [.A (a : Trc), .A (b : Trc)] (.raw (.bool r)) := by
 unfold zlh at h
 refine zah 51 mix Tryz.func12 ent12 ?_
 refine zj (zc ?_)
 refine zbr (a := .ptr 0 0) (σ'' := (.B [(27, (Enc.cells (a : Trc)))])) ?_
 refine zbr (a := .ptr 1 0) (σ'' := (.B [(27, (Enc.cells (a : Trc))), (27, (Enc.cells (b : Trc)))])) ?_
 refine w_o (a := .b false) ?_
 refine zj ?_
 refine zqn (k0 := 0) (id := 1) 6 (by kernel_rfl) (by kernel_rfl) ?_
 refine zgq (a := .A (a : Trc)) rfl rfl rfl rfl rfl (by dsimp only [z6, List.set]) ?_
 obtain ⟨x1, hx1, h⟩ := zl h
 refine zp9 (args' := [.A (a : Trc)]) (r := .A (x1 : Trc)) (ziy fuel a x1 hx1) rfl rfl rfl rfl (zac (zen (zb2 (Enc.clo _))) rfl) (za (zcd _ _ (zb2 (Enc.clo _))) rfl) (by dsimp only [z6, List.set]) ?_
 refine zgq (a := .A (b : Trc)) rfl rfl rfl rfl rfl (by dsimp only [z6, List.set]) ?_
 obtain ⟨x2, hx2, h⟩ := zl h
 refine zp9 (args' := [.A (b : Trc)]) (r := .A (x2 : Trc)) (ziy fuel b x2 hx2) rfl rfl rfl rfl (zac (zen (zb2 (Enc.clo _))) rfl) (za (zcd _ _ (zb2 (Enc.clo _))) rfl) (by dsimp only [z6, List.set]) ?_
 refine zsj _ rfl rfl rfl rfl rfl rfl (by dsimp only [List.set]) ?_
 refine zsj _ rfl rfl rfl rfl rfl rfl (by dsimp only [List.set]) ?_
 refine zl6 (n := 2) rfl (show _ = ((.B [(27, (Enc.cells (a : Trc))), (27, (Enc.cells (b : Trc))), (34, [.list 0 [] .full, .u 0, .i 0]), (34, [.list 0 [] .full, .u 0, .i 0])]) : St) from rfl) (by dsimp only [List.nil_append, List.cons_append, zg2, List.set, Nat.reduceAdd]) ?_
 refine zcg 3 (.B [(27, (Enc.cells (a : Trc))), (27, (Enc.cells (b : Trc))), (34, (Enc.cells (x1 : Trc))), (34, [.list 0 [] .full, .u 0, .i 0])]) ?_
 refine zcg 3 (.B [(27, (Enc.cells (a : Trc))), (27, (Enc.cells (b : Trc))), (34, (Enc.cells (x1 : Trc))), (34, (Enc.cells (x2 : Trc)))]) ?_
 refine zk [.v (.A (a : Trc)), .v (.A (b : Trc))] ?_
 obtain ⟨x3, hx3, h⟩ := zl h
 refine zbc (zr9 fuel a b x3 hx3) ?_
 refine w_r [.m _, .x _, .x _, .m _, .m _] ?_
 refine zk [.v (.A (x1 : Trc)), .v (.A (x2 : Trc))] ?_
 obtain ⟨x4, hx4, h⟩ := zl h
 refine zbc (zo0 fuel x1 x2 x4 hx4) ?_
 refine w_r [.m _, .x _, .x _, .m _, .m _] ?_
 refine zj ?_
 refine zb3 (k0 := 0) (id := 4) 23 (by kernel_rfl) (by kernel_rfl) ?_
 refine zbg ?_
 refine zbg ?_
 refine h_o (a := .b (x3.1 == x4.1)) ?_
 refine zaa h (fun hc1 h => ?_) (fun hc1 h => ?_)
 refine h_o (a := .b true) (h := zae rfl hc1) ?_
 refine zag rfl rfl ?_
 refine zbg ?_
 refine zag rfl rfl ?_
 refine zbg ?_
 refine zag rfl rfl ?_
 refine h_o (a := .b (x3.2 == x4.2)) (h := by kernel_rfl) ?_
 refine h_o (a := .b (x3.2 == x4.2)) ?_
 refine zaa h (fun hc2 h => ?_) (fun hc2 h => ?_)
 refine h_o (a := .b true) (h := zae rfl hc2) ?_
 refine zag rfl rfl ?_
 refine h_o (a := .A (a : Trc)) ?_
 refine zag rfl rfl ?_
 refine h_o (a := .A (b : Trc)) ?_
 refine zag rfl rfl ?_
 obtain ⟨x5, hx5, h⟩ := zl h
 refine zgr (same_sh fuel a b x5 hx5) ?_
 refine zag rfl rfl ?_
 refine h_o (a := .A (x1 : Trc)) ?_
 refine zag rfl rfl ?_
 refine h_o (a := .A (x2 : Trc)) ?_
 refine zag rfl rfl ?_
 obtain ⟨x6, hx6, h⟩ := zl h
 refine zgr (zqw fuel x1 x2 x6 hx6) ?_
 refine zag rfl rfl ?_
 refine h_o (a := .b (x5 == x6)) (h := by kernel_rfl) ?_
 refine h_o (a := .b (x5 == x6)) ?_
 refine zaa h (fun hc3 h => ?_) (fun hc3 h => ?_)
 refine h_o (a := .b true) (h := zae rfl hc3) ?_
 refine zag rfl rfl ?_
 refine h_o (a := .A (a : Trc)) ?_
 refine zag rfl rfl ?_
 refine h_o (a := .A (b : Trc)) ?_
 refine zag rfl rfl ?_
 obtain ⟨x7, hx7, h⟩ := zl h
 refine zgr (goes_sh fuel a b x7 hx7) ?_
 refine zag rfl rfl ?_
 refine h_o (a := .A (x1 : Trc)) ?_
 refine zag rfl rfl ?_
 refine h_o (a := .A (x2 : Trc)) ?_
 refine zbq ?_
 refine zai rfl rfl ?_
 obtain ⟨x8, hx8, h⟩ := zl h
 refine zbc (z00 fuel x1 x2 x8 hx8) ?_
 refine zai rfl rfl ?_
 refine w_o (a := .b (x7 == x8)) (h := zv (by kernel_rfl)) ?_
 refine w_r [.v (.b (x7 == x8)), .m _] ?_
 exact zaj h
 refine h_o (a := .b false) (h := zae rfl hc3) ?_
 refine z8 ?_
 refine z8 ?_
 refine z8 ?_
 refine z8 ?_
 refine z8 ?_
 refine zbq ?_
 refine w_r [.p, .p, .v (.b false), .m _] ?_
 exact zaj h
 refine h_o (a := .b false) (h := zae rfl hc2) ?_
 refine z8 ?_
 refine z8 ?_
 refine z8 ?_
 refine z8 ?_
 refine z8 ?_
 refine z8 ?_
 refine z8 ?_
 refine h_o (a := .b false) ?_
 refine zbg ?_
 refine z8 ?_
 refine z8 ?_
 refine z8 ?_
 refine z8 ?_
 refine z8 ?_
 refine zbq ?_
 refine w_r [.p, .p, .v (.b false), .m _] ?_
 exact zaj h
 refine h_o (a := .b false) (h := zae rfl hc1) ?_
 refine z8 ?_
 refine z8 ?_
 refine z8 ?_
 refine h_o (a := .b false) ?_
 refine zbg ?_
 refine z8 ?_
 refine z8 ?_
 refine z8 ?_
 refine z8 ?_
 refine z8 ?_
 refine z8 ?_
 refine z8 ?_
 refine h_o (a := .b false) ?_
 refine zbg ?_
 refine z8 ?_
 refine z8 ?_
 refine z8 ?_
 refine z8 ?_
 refine z8 ?_
 refine zbq ?_
 refine w_r [.p, .p, .v (.b false), .m _] ?_
 exact zaj h
end Go.Ab
