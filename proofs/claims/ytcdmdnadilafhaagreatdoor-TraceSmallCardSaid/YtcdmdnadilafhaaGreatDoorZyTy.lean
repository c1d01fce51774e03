/-
  TraceTells: the walk.
-/
import Derived.Test.YtcdmdnadilafhaaGreatDoorZyRx
import Derived.Test.YtcdmdnadilafhaaGreatDoorZdQr
import Derived.Test.YtcdmdnadilafhaaGreatDoorZyTw
import Derived.Test.YtcdmdnadilafhaaGreatDoorZyW5
import Derived.Test.YtcdmdnadilafhaaGreatDoorZyPc
set_option linter.unusedSimpArgs false
set_option linter.unusedVariables false
set_option maxRecDepth 100000
set_option maxHeartbeats 4000000
namespace Go.Ab
open Go Go.RowKit Go.Fwd Go.Proofs
def zea (fuel : Nat) (a : Trc) (b : Trc) : Option Bool :=
 (z1 (zfp fuel a) (fun x1 => (z1 (zid fuel x1 b) (fun x2 => (some x2)))))
theorem ent9 : Ent Tryz.prog 9 := enters_of Tryz.func9 (by kernel_rfl) rfl
theorem zhf (fuel : Nat) (a : Trc) (b : Trc) (r : Bool) (h : zea fuel a b = some r) : Pure (ITP Tryz.prog) Tryz.prog 9 [.A (a : Trc), .A (b : Trc)] (.raw (.bool r)) := by
 unfold zea at h
 refine zah 7 mix Tryz.func9 ent9 ?_
 refine zj (zc ?_)
 refine zbr (a := .ptr 0 0) (σ'' := (.B [(27, (Enc.cells (a : Trc)))])) ?_
 refine zbr (a := .ptr 1 0) (σ'' := (.B [(27, (Enc.cells (a : Trc))), (34, (Enc.cells (b : Trc)))])) ?_
 refine w_o (a := .b false) ?_
 refine zj ?_
 refine zb3 (k0 := 0) (id := 1) 3 (by kernel_rfl) (by kernel_rfl) ?_
 refine h_o (a := .A (a : Trc)) ?_
 obtain ⟨x1, hx1, h⟩ := zl h
 refine zgr (ziy fuel a x1 hx1) ?_
 refine h_o (a := .A (b : Trc)) ?_
 refine zbq ?_
 obtain ⟨x2, hx2, h⟩ := zl h
 refine zbc (zqw fuel x1 b x2 hx2) ?_
 refine zp ?_
 exact zaj h
def zfu (fuel : Nat) (s : (List UInt8)) : Option Bool :=
 (z1 (zsl fuel s) (fun x1 => (z1 (zmk fuel s) (fun x2 => (z1 (zea fuel x1.1 x2.1) (fun x3 => (bif x3 then (bif (x1.2.1 == x2.2.1) then (some (x1.2.2 == x2.2.2)) else (some false)) else (some false))))))))
theorem ent14 : Ent Tryz.prog 14 := enters_of Tryz.func14 (by kernel_rfl) rfl
theorem ztc (fuel : Nat) (s : (List UInt8)) (r : Bool) (h : zfu fuel s = some r) : Pure (ITP Tryz.prog) Tryz.prog 14 [.raw (.string (bs s))] (.raw (.bool r)) := by
 unfold zfu at h
 refine zah 33 mix Tryz.func14 ent14 ?_
 refine zk [.v (.b false)] ?_
 refine zk [.m _] ?_
 obtain ⟨x1, hx1, h⟩ := zl h
 refine zbc (read_sh fuel s x1 hx1) ?_
 refine w_r [.m _, .x _, .x _, .x _] ?_
 refine zbr (a := .ptr 0 0) (σ'' := (.B [(27, [.list 0 [] .full, .u 0, .i 0])])) ?_
 refine zcg 3 (.B [(27, (Enc.cells (x1.1 : Trc)))]) ?_
 refine w_r [.m _, .m _] ?_
 refine zk [.m _] ?_
 obtain ⟨x2, hx2, h⟩ := zl h
 refine zbc (z05 fuel s x2 hx2) ?_
 refine w_r [.m _, .x _, .x _, .x _] ?_
 refine zbr (a := .ptr 1 0) (σ'' := (.B [(27, (Enc.cells (x1.1 : Trc))), (34, [.list 0 [] .full, .u 0, .i 0])])) ?_
 refine zcg 3 (.B [(27, (Enc.cells (x1.1 : Trc))), (34, (Enc.cells (x2.1 : Trc)))]) ?_
 refine w_r [.m _, .m _] ?_
 refine zk [.v (.A (x1.1 : Trc)), .v (.A (x2.1 : Trc))] ?_
 obtain ⟨x3, hx3, h⟩ := zl h
 refine zbc (zhf fuel x1.1 x2.1 x3 hx3) ?_
 refine zaa h (fun hc1 h => ?_) (fun hc1 h => ?_)
 refine zar hc1 ?_
 refine w_r [.m _, .m _, .v (.b (x1.2.1 == x2.2.1)), .v (.b (x1.2.1 == x2.2.1))] ?_
 refine zaa h (fun hc2 h => ?_) (fun hc2 h => ?_)
 refine zar hc2 ?_
 refine w_r [.m _, .m _, .v (.b (x1.2.2 == x2.2.2)), .v (.b (x1.2.2 == x2.2.2)), .m _] ?_
 exact zaj h
 refine zar hc2 ?_
 refine w_r [.p, .p, .p, .v (.b false), .m _] ?_
 exact zaj h
 refine zar hc1 ?_
 refine w_r [.p, .p, .p, .v (.b false), .m _] ?_
 refine w_r [.p, .p, .p, .v (.b false), .m _] ?_
 exact zaj h
end Go.Ab
set_option linter.unusedSimpArgs false
set_option linter.unusedVariables false
set_option maxRecDepth 100000
set_option maxHeartbeats 4000000
namespace Go.Ab
open Go Go.RowKit Go.Fwd Go.Proofs
theorem zv8 (t : Trc) (g : List.length t.l * 40 ≤ 140737488355328) : zt7 t = some () := zal g rfl
theorem zxy (t : Trc) (h0 : 0 < t.l.length) (g : List.length t.l * 40 ≤ 140737488355328) (n : Nat) (σ : St) (hσ : σ.boxes.length = n) : Snd (ITP Tryz.prog) Tryz.prog 36 [.agg (Enc.cells t)] σ (.agg [.bsl n 0 (List.length t.l) 4 false, .raw (.int .u8 t.e.k), .raw (.int .i64 t.e.c)]) { σ with boxes := σ.boxes ++ [(41, Enc.cellsL t.l)] } := by
 subst hσ
 have h := zun (za5 _) (z0z t h0 (zv8 t g)) (args := [.agg (Enc.cells t)]) (by rw [stripL, zen (zb2 (Enc.clo t))]; rfl) (by rw [zx, zcd _ _ (zb2 (Enc.clo t))]; rfl) σ
 simpa [zjy, zby, shz, zeq, zcp _ _ _ (Enc.cloL t.l)] using h
def zic (fuel : Nat) (t : Trc) : Option Bool :=
 (chk (List.length t.l * 40 ≤ 140737488355328) (za7 t.l (fun x1 => (z1 (zfp fuel t) (fun x2 => (z1 (zem fuel (Trc.mk x1 t.e)) (fun x3 => (z1 (zji fuel x2) (fun x4 => (z1 (zgy fuel (Trc.mk x1 t.e)) (fun x5 => (bif ((List.length ((Trc.mk x1 t.e).l) : Int) == 0) then (z1 (zuq (Trc.mk x1 t.e)) (fun x6 => (bif (x3.1 != x4.1) then (some false) else (bif (x3.2 != x4.2) then (some false) else (bif (x5.2 != x4.2) then (some false) else (z1 (zea fuel x6 x2) (fun x7 => (bif (!x7) then (some false) else (z1 (zop fuel (Trc.mk x1 t.e)) (fun x8 => (z1 (zj9 fuel x2) (fun x9 => (bif (!(x8 == x9)) then (some false) else (zcr (τ := Unit) (zbh (β := Int) (fun s1 => (bif (decide (s1 < (List.length x6.l : Int))) then (chk (0 ≤ s1 ∧ s1 < (List.length x6.l : Int)) (za7 (ix x6.l s1) (fun x10 => none))) else (some (Sum.inr (Sum.inl ()))))) fuel (0)) (fun j1 => (z1 (zea fuel (Trc.mk x1 t.e) x2) (fun x11 => (bif (!x11) then (some false) else (zcr (τ := Int × Int × Int × (List UInt8)) (bif (x4.2 == 0) then (z1 (zh0 fuel x2 2) (fun x12 => (z1 (zh0 fuel x2 3) (fun x13 => (z1 (zrk fuel x2.l) (fun x14 => (z1 (zgg fuel x2) (fun x15 => (some (Sum.inl (x12, x13, x14, x15))))))))))) else (some (Sum.inl (0, 0, 0, ([] : List UInt8))))) (fun j2 => (z1 (zh8 fuel (Trc.mk x1 t.e)) (fun x16 => (bif (x16 == j2.1) then (z1 (zmm fuel (Trc.mk x1 t.e)) (fun x17 => (bif (x17 == j2.2.1) then (z1 (z2a fuel (Trc.mk x1 t.e)) (fun x18 => (bif (x18 == j2.2.2.1) then (some (x5.1 == j2.2.2.2)) else (some false)))) else (some false)))) else (some false)))))))))))))))))))))))) else (chk (List.length (Trc.mk x1 t.e).l * 40 ≤ 140737488355328) (bif (x3.1 != x4.1) then (some false) else (bif (x3.2 != x4.2) then (some false) else (bif (x5.2 != x4.2) then (some false) else (chk (List.length ((Trc.mk x1 t.e).l) = (List.length (Trc.mk x1 t.e).l)) (z1 (zea fuel (Trc.mk ((Trc.mk x1 t.e).l) (Ed.mk ((Trc.mk x1 t.e).e.k) ((Trc.mk x1 t.e).e.c))) x2) (fun x19 => (bif (!x19) then (some false) else (z1 (zop fuel (Trc.mk x1 t.e)) (fun x20 => (z1 (zj9 fuel x2) (fun x21 => (bif (!(x20 == x21)) then (some false) else (zcr (τ := (List En)) (zbh (β := Int × (List En)) (fun s2 => (bif (decide (s2.1 < (((List.length (Trc.mk x1 t.e).l) : Nat) : Int))) then (chk (0 ≤ s2.1 ∧ s2.1 < (((List.length (Trc.mk x1 t.e).l) : Nat) : Int)) (chk (0 ≤ s2.1 ∧ s2.1 < (List.length s2.2 : Int)) (za7 (ix s2.2 s2.1) (fun x22 => (chk (-9223372036854775808 ≤ (s2.1 + 1) ∧ (s2.1 + 1) < 9223372036854775808) (some (Sum.inl ((s2.1 + 1), (List.set s2.2 (Int.toNat s2.1) (En.mk 9 x22.fr x22.to x22.b)))))))))) else (some (Sum.inr (Sum.inl (s2.2)))))) fuel (0, (Trc.mk x1 t.e).l)) (fun j3 => (z1 (zea fuel (Trc.mk x1 t.e) x2) (fun x23 => (bif (!x23) then (some false) else (zcr (τ := Int × Int × Int × (List UInt8)) (bif (x4.2 == 0) then (z1 (zh0 fuel x2 2) (fun x24 => (z1 (zh0 fuel x2 3) (fun x25 => (z1 (zrk fuel x2.l) (fun x26 => (z1 (zgg fuel x2) (fun x27 => (some (Sum.inl (x24, x25, x26, x27))))))))))) else (some (Sum.inl (0, 0, 0, ([] : List UInt8))))) (fun j4 => (z1 (zh8 fuel (Trc.mk x1 t.e)) (fun x28 => (bif (x28 == j4.1) then (z1 (zmm fuel (Trc.mk x1 t.e)) (fun x29 => (bif (x29 == j4.2.1) then (z1 (z2a fuel (Trc.mk x1 t.e)) (fun x30 => (bif (x30 == j4.2.2.1) then (some (x5.1 == j4.2.2.2)) else (some false)))) else (some false)))) else (some false))))))))))))))))))))))))))))))))))))
theorem ent11 : Ent Tryz.prog 11 := enters_of Tryz.func11 (by kernel_rfl) rfl
theorem zqp (fuel : Nat) (t : Trc) (r : Bool) (h : zic fuel t = some r) : Pure (ITP Tryz.prog) Tryz.prog 11 [.A (t : Trc)] (.raw (.bool r)) := by
 unfold zic at h
 refine zah 115 mix Tryz.func11 ent11 ?_
 refine zj (zc ?_)
 refine zbr (a := .ptr 0 0) (σ'' := (.B [(27, (Enc.cells (t : Trc)))])) ?_
 refine w_o (a := .b false) ?_
 refine zj ?_
 refine zqn (k0 := 0) (id := 1) 7 (by kernel_rfl) (by kernel_rfl) ?_
 refine zgq (a := .ptr 0 0) rfl rfl rfl rfl rfl (by dsimp only [z6, List.set]) ?_
 refine zgq (a := .L (t.l : List En)) rfl rfl rfl rfl rfl (by dsimp only [z6, List.set]) ?_
 obtain ⟨g1, h⟩ := zf h
 obtain ⟨x1, hx1, h⟩ := zo h
 refine zp9 (args' := [.L (t.l : List En)]) (r := .L (x1 : List En)) (by rw [← hx1]; exact (zkf t.l g1)) rfl rfl rfl rfl (zac (zkn (Enc.cloL _)) rfl) (za (zb1 (Enc.cloL _)) rfl) (by dsimp only [z6, List.set]) ?_
 refine zgq (a := .ptr 0 1) rfl rfl rfl rfl rfl (by dsimp only [z6, List.set]) ?_
 refine zgq (a := .A (t.e : Ed)) rfl rfl rfl rfl rfl (by dsimp only [z6, List.set]) ?_
 refine zyp (a := .A ((Trc.mk x1 t.e) : Trc)) (a0 := (zqq (Trc.mk x1 t.e) .none)) rfl rfl rfl rfl (by kernel_rfl) (zbf _ _) (by dsimp only [z6, List.set]) ?_
 refine zsj _ rfl rfl rfl rfl rfl rfl (by dsimp only [List.set]) ?_
 refine zl6 (n := 1) rfl (show _ = ((.B [(27, (Enc.cells (t : Trc))), (27, [.list 0 [] .full, .u 0, .i 0])]) : St) from rfl) (by dsimp only [List.nil_append, List.cons_append, zg2, List.set, Nat.reduceAdd]) ?_
 refine zcg 3 (.B [(27, (Enc.cells (t : Trc))), (27, (Enc.cells ((Trc.mk x1 t.e) : Trc)))]) ?_
 refine zk [.v (.A (t : Trc))] ?_
 obtain ⟨x2, hx2, h⟩ := zl h
 refine zbc (ziy fuel t x2 hx2) ?_
 refine zbr (a := .ptr 2 0) (σ'' := (.B [(27, (Enc.cells (t : Trc))), (27, (Enc.cells ((Trc.mk x1 t.e) : Trc))), (34, [.list 0 [] .full, .u 0, .i 0])])) ?_
 refine zcg 3 (.B [(27, (Enc.cells (t : Trc))), (27, (Enc.cells ((Trc.mk x1 t.e) : Trc))), (34, (Enc.cells (x2 : Trc)))]) ?_
 refine zk [.v (.A ((Trc.mk x1 t.e) : Trc))] ?_
 obtain ⟨x3, hx3, h⟩ := zl h
 refine zbc (zgh fuel (Trc.mk x1 t.e) x3 hx3) ?_
 refine w_r [.m _, .x _, .x _, .m _, .m _] ?_
 refine zk [.v (.A (x2 : Trc))] ?_
 obtain ⟨x4, hx4, h⟩ := zl h
 refine zbc (zxa fuel x2 x4 hx4) ?_
 refine w_r [.m _, .x _, .x _, .m _, .m _] ?_
 refine zk [.v (.A ((Trc.mk x1 t.e) : Trc))] ?_
 obtain ⟨x5, hx5, h⟩ := zl h
 refine zbc (z1s fuel (Trc.mk x1 t.e) x5 hx5) ?_
 refine w_r [.m _, .x _, .x _, .m _, .m _] ?_
 refine zk [.v (.A ((Trc.mk x1 t.e) : Trc))] ?_
 refine zaa h (fun hc1 h => ?_) (fun hc1 h => ?_)
 obtain ⟨x6, hx6, h⟩ := zl h
 refine zbc (copy_sh (Trc.mk x1 t.e) x6 hx6) ?_
 refine zbr (a := .ptr 3 0) (σ'' := (.B [(27, (Enc.cells (t : Trc))), (27, (Enc.cells ((Trc.mk x1 t.e) : Trc))), (34, (Enc.cells (x2 : Trc))), (27, [.F (([] : List En) : List En), .u 0, .i 0])])) ?_
 refine zcg 3 (.B [(27, (Enc.cells (t : Trc))), (27, (Enc.cells ((Trc.mk x1 t.e) : Trc))), (34, (Enc.cells (x2 : Trc))), (27, (Enc.cells (x6 : Trc)))]) ?_
 refine zj ?_
 refine zj ?_
 refine zb3 (k0 := 0) (id := 7) 23 (by kernel_rfl) (by kernel_rfl) ?_
 refine zbg ?_
 refine zbg ?_
 refine h_o (a := .b (x3.1 != x4.1)) ?_
 refine zaa h (fun hc2 h => ?_) (fun hc2 h => ?_)
 refine h_o (a := .b true) (h := zae rfl hc2) ?_
 refine z8 ?_
 refine z8 ?_
 refine z8 ?_
 refine h_o (a := .b true) ?_
 refine zbg ?_
 refine z8 ?_
 refine z8 ?_
 refine z8 ?_
 refine h_o (a := .b true) ?_
 refine zbg ?_
 refine z8 ?_
 refine z8 ?_
 refine z8 ?_
 refine z8 ?_
 refine h_o (a := .b true) ?_
 refine zbg ?_
 refine z8 ?_
 refine z8 ?_
 refine z8 ?_
 refine zbq ?_
 refine w_r [.p, .p, .v (.b true)] ?_
 refine za6 rfl ?_
 refine zk [.v (.b false)] ?_
 exact zaj h
 refine h_o (a := .b false) (h := zae rfl hc2) ?_
 refine zag rfl rfl ?_
 refine zbg ?_
 refine zag rfl rfl ?_
 refine zbg ?_
 refine zag rfl rfl ?_
 refine h_o (a := .b (x3.2 != x4.2)) ?_
 refine h_o (a := .b (x3.2 != x4.2)) ?_
 refine zaa h (fun hc3 h => ?_) (fun hc3 h => ?_)
 refine h_o (a := .b true) (h := zae rfl hc3) ?_
 refine z8 ?_
 refine z8 ?_
 refine z8 ?_
 refine h_o (a := .b true) ?_
 refine zbg ?_
 refine z8 ?_
 refine z8 ?_
 refine z8 ?_
 refine z8 ?_
 refine h_o (a := .b true) ?_
 refine zbg ?_
 refine z8 ?_
 refine z8 ?_
 refine z8 ?_
 refine zbq ?_
 refine w_r [.p, .p, .v (.b true)] ?_
 refine za6 rfl ?_
 refine zk [.v (.b false)] ?_
 exact zaj h
 refine h_o (a := .b false) (h := zae rfl hc3) ?_
 refine zag rfl rfl ?_
 refine zbg ?_
 refine zag rfl rfl ?_
 refine zbg ?_
 refine zag rfl rfl ?_
 refine h_o (a := .b (x5.2 != x4.2)) ?_
 refine h_o (a := .b (x5.2 != x4.2)) ?_
 refine zaa h (fun hc4 h => ?_) (fun hc4 h => ?_)
 refine h_o (a := .b true) (h := zae rfl hc4) ?_
 refine z8 ?_
 refine z8 ?_
 refine z8 ?_
 refine z8 ?_
 refine h_o (a := .b true) ?_
 refine zbg ?_
 refine z8 ?_
 refine z8 ?_
 refine z8 ?_
 refine zbq ?_
 refine w_r [.p, .p, .v (.b true)] ?_
 refine za6 rfl ?_
 refine zk [.v (.b false)] ?_
 exact zaj h
 refine h_o (a := .b false) (h := zae rfl hc4) ?_
 refine zag rfl rfl ?_
 refine h_o (a := .A (x6 : Trc)) ?_
 refine zag rfl rfl ?_
 refine h_o (a := .A (x2 : Trc)) ?_
 refine zag rfl rfl ?_
 obtain ⟨x7, hx7, h⟩ := zl h
 refine zgr (zhf fuel x6 x2 x7 hx7) ?_
 refine zag rfl rfl ?_
 refine h_o (a := .b (!x7)) ?_
 refine h_o (a := .b (!x7)) ?_
 refine zaa h (fun hc5 h => ?_) (fun hc5 h => ?_)
 refine h_o (a := .b true) (h := zae rfl hc5) ?_
 refine z8 ?_
 refine z8 ?_
 refine z8 ?_
 refine zbq ?_
 refine w_r [.p, .p, .v (.b true)] ?_
 refine za6 rfl ?_
 refine zk [.v (.b false)] ?_
 exact zaj h
 refine h_o (a := .b false) (h := zae rfl hc5) ?_
 refine zag rfl rfl ?_
 refine h_o (a := .A ((Trc.mk x1 t.e) : Trc)) ?_
 refine zag rfl rfl ?_
 obtain ⟨x8, hx8, h⟩ := zl h
 refine zgr (zxd fuel (Trc.mk x1 t.e) x8 hx8) ?_
 refine zag rfl rfl ?_
 refine h_o (a := .A (x2 : Trc)) ?_
 refine zbq ?_
 refine zai rfl rfl ?_
 obtain ⟨x9, hx9, h⟩ := zl h
 refine zbc (zvi fuel x2 x9 hx9) ?_
 refine zai rfl rfl ?_
 refine w_o (a := .b (!(x8 == x9))) (h := zv (zij rfl rfl rfl)) ?_
 refine w_o (a := .b (!(x8 == x9))) ?_
 refine za3 h (fun hc6 h => ?_) (fun hc6 h => ?_)
 refine zk [.v (.b false)] ?_
 exact zaj h
 refine zaf h (bz 0 116 83076749736557242056487941267520743) (fun j1 => []) (fun j1 => (.B [(27, (Enc.cells (t : Trc))), (27, (Enc.cells ((Trc.mk x1 t.e) : Trc))), (34, (Enc.cells (x2 : Trc))), (27, (Enc.cells (x6 : Trc)))])) ?_ ?_
 intro or1 h hr1
 refine zk [.v (.ptr 3 0), .v (.L (x6.l : List En)), .v (.i (List.length x6.l : Int)), .v (.i 0)] ?_
 refine zr ?_
 refine zap h (bz 0 116 83076749736556061464867223856215271) (fun s1 => [(71, .i s1)]) (fun s1 => (.B [(27, (Enc.cells (t : Trc))), (27, (Enc.cells ((Trc.mk x1 t.e) : Trc))), (34, (Enc.cells (x2 : Trc))), (27, (Enc.cells (x6 : Trc)))])) ?_ ?_
 exact zao (bl 116 3541774862152233913112)
 intro s1 p1 h
 refine zbn ?_
 refine zk [.v (.b (decide (s1 < (List.length x6.l : Int))))] ?_
 refine zj ?_
 refine za3 h (fun hc7 h => ?_) (fun hc7 h => ?_)
 refine zj ?_
 refine zr ?_
 refine zk [.m _, .m _] ?_
 refine zc (k0 := 0) (id := 12) ?_
 refine w_r [.v (.ptr 3 0), .v (.L (x6.l : List En)), .m _] ?_
 obtain ⟨g2, h⟩ := zf h
 obtain ⟨x10, hx10, h⟩ := zo h
 refine zpi hx10 g2 ?_
 refine w_o (a := .iptr (List.drop 0 (Enc.cells x10 ++ Enc.cellsL (List.drop (Int.toNat s1 + 1) x6.l)))) ?_
 cases h
 refine zh h (fun h => ?_)
 refine zg (o := or1) () h ?_
 exact zao (bl 116 792)
 intro j1 h
 refine zbn ?_
 refine zj ?_
 refine zk [.v (.A ((Trc.mk x1 t.e) : Trc)), .v (.A (x2 : Trc))] ?_
 obtain ⟨x11, hx11, h⟩ := zl h
 refine zbc (zhf fuel (Trc.mk x1 t.e) x2 x11 hx11) ?_
 refine w_o (a := .b (!x11)) ?_
 refine za3 h (fun hc8 h => ?_) (fun hc8 h => ?_)
 refine zk [.v (.b false)] ?_
 exact zaj h
 refine zk [.v (.i 0), .v (.i 0), .v (.i 0), .v (.s ([] : List UInt8))] ?_
 refine zaf h (bz 0 95 39612872331312554167597392144) (fun j2 => [(13, .i j2.1), (14, .i j2.2.1), (15, .i j2.2.2.1), (16, .s j2.2.2.2)]) (fun j2 => (.B [(27, (Enc.cells (t : Trc))), (27, (Enc.cells ((Trc.mk x1 t.e) : Trc))), (34, (Enc.cells (x2 : Trc))), (27, (Enc.cells (x6 : Trc)))])) ?_ ?_
 intro or2 h hr2
 refine zk [.m _, .v (.b (x4.2 == 0))] ?_
 refine za3 h (fun hc9 h => ?_) (fun hc9 h => ?_)
 refine zb3 (k0 := 0) (id := 18) 8 (by kernel_rfl) (by kernel_rfl) ?_
 refine h_o (a := .A (x2 : Trc)) ?_
 obtain ⟨x12, hx12, h⟩ := zl h
 refine zgr (zpt fuel x2 2 x12 hx12) ?_
 refine h_o (a := .A (x2 : Trc)) ?_
 obtain ⟨x13, hx13, h⟩ := zl h
 refine zgr (zpt fuel x2 3 x13 hx13) ?_
 refine h_o (a := .ptr 2 0) ?_
 refine h_o (a := .L (x2.l : List En)) ?_
 obtain ⟨x14, hx14, h⟩ := zl h
 refine zgr (zxt fuel x2.l x14 hx14) ?_
 refine h_o (a := .A (x2 : Trc)) ?_
 refine zbq ?_
 obtain ⟨x15, hx15, h⟩ := zl h
 refine zbc (zr2 fuel x2 x15 hx15) ?_
 refine w_r [.m _, .m _, .m _, .m _] ?_
 refine zg (o := or2) (x12, x13, x14, x15) h ?_
 exact zao (bl 116 83076710123684910743933773670252271)
 refine zg (o := or2) (0, 0, 0, ([] : List UInt8)) h ?_
 exact zao (bl 116 83076710123684910743933773670252271)
 intro j2 h
 refine zbn ?_
 refine zk [.v (.A ((Trc.mk x1 t.e) : Trc))] ?_
 obtain ⟨x16, hx16, h⟩ := zl h
 refine zbc (zuy fuel (Trc.mk x1 t.e) x16 hx16) ?_
 refine w_r [.m _, .v (.b (x16 == j2.1))] ?_
 refine zaa h (fun hc10 h => ?_) (fun hc10 h => ?_)
 refine zar hc10 ?_
 refine zai rfl rfl ?_
 refine w_o (a := .A ((Trc.mk x1 t.e) : Trc)) ?_
 refine zai rfl rfl ?_
 obtain ⟨x17, hx17, h⟩ := zl h
 refine zbc (zzc fuel (Trc.mk x1 t.e) x17 hx17) ?_
 refine w_r [.m _, .v (.b (x17 == j2.2.1)), .v (.b (x17 == j2.2.1))] ?_
 refine zaa h (fun hc11 h => ?_) (fun hc11 h => ?_)
 refine zar hc11 ?_
 refine zai rfl rfl ?_
 refine w_o (a := .A ((Trc.mk x1 t.e) : Trc)) ?_
 refine zai rfl rfl ?_
 obtain ⟨x18, hx18, h⟩ := zl h
 refine zbc (at_sh fuel (Trc.mk x1 t.e) x18 hx18) ?_
 refine w_r [.m _, .v (.b (x18 == j2.2.2.1)), .v (.b (x18 == j2.2.2.1))] ?_
 refine zaa h (fun hc12 h => ?_) (fun hc12 h => ?_)
 refine zar hc12 ?_
 refine w_r [.m _, .m _] ?_
 refine zai rfl rfl ?_
 refine w_o (a := .b (x5.1 == j2.2.2.2)) (h := zv (zb7 rfl rfl rfl)) ?_
 refine w_r [.v (.b (x5.1 == j2.2.2.2)), .m _] ?_
 exact zaj h
 refine zar hc12 ?_
 refine w_r [.p, .p, .p, .v (.b false), .m _] ?_
 exact zaj h
 refine zar hc11 ?_
 refine w_r [.p, .p, .p, .p, .v (.b false)] ?_
 refine w_r [.m _, .p, .p, .p, .v (.b false)] ?_
 refine w_r [.m _] ?_
 exact zaj h
 refine zar hc10 ?_
 refine w_r [.p, .p, .p, .p, .v (.b false)] ?_
 refine w_r [.m _, .p, .p, .p, .p] ?_
 refine w_r [.v (.b false), .m _, .p, .p, .p] ?_
 refine w_r [.v (.b false), .m _] ?_
 exact zaj h
 obtain ⟨g3, h⟩ := zf h
 refine zlp (r := .agg [.bsl 3 0 (List.length (Trc.mk x1 t.e).l) 4 false, .u ((Trc.mk x1 t.e).e.k), .i ((Trc.mk x1 t.e).e.c)]) (σ' := (.B [(27, (Enc.cells (t : Trc))), (27, (Enc.cells ((Trc.mk x1 t.e) : Trc))), (34, (Enc.cells (x2 : Trc))), (41, (Enc.cellsL ((Trc.mk x1 t.e).l : List En)))])) (zxy (Trc.mk x1 t.e) (len_pos hc1) g3 3 _ rfl) rfl rfl ⟨rfl, rfl⟩ (by dsimp only [z6, List.set]) ?_
 refine zbr (a := .ptr 4 0) (σ'' := (.B [(27, (Enc.cells (t : Trc))), (27, (Enc.cells ((Trc.mk x1 t.e) : Trc))), (34, (Enc.cells (x2 : Trc))), (41, (Enc.cellsL ((Trc.mk x1 t.e).l : List En))), (27, [.F (([] : List En) : List En), .u 0, .i 0])])) ?_
 refine zcg 3 (.B [(27, (Enc.cells (t : Trc))), (27, (Enc.cells ((Trc.mk x1 t.e) : Trc))), (34, (Enc.cells (x2 : Trc))), (41, (Enc.cellsL ((Trc.mk x1 t.e).l : List En))), (27, [.bsl 3 0 (List.length (Trc.mk x1 t.e).l) 4 false, .u ((Trc.mk x1 t.e).e.k), .i ((Trc.mk x1 t.e).e.c)])]) ?_
 refine zj ?_
 refine zj ?_
 refine zb3 (k0 := 0) (id := 7) 23 (by kernel_rfl) (by kernel_rfl) ?_
 refine zbg ?_
 refine zbg ?_
 refine h_o (a := .b (x3.1 != x4.1)) ?_
 refine zaa h (fun hc13 h => ?_) (fun hc13 h => ?_)
 refine h_o (a := .b true) (h := zae rfl hc13) ?_
 refine z8 ?_
 refine z8 ?_
 refine z8 ?_
 refine h_o (a := .b true) ?_
 refine zbg ?_
 refine z8 ?_
 refine z8 ?_
 refine z8 ?_
 refine h_o (a := .b true) ?_
 refine zbg ?_
 refine z8 ?_
 refine z8 ?_
 refine z8 ?_
 refine z8 ?_
 refine h_o (a := .b true) ?_
 refine zbg ?_
 refine z8 ?_
 refine z8 ?_
 refine z8 ?_
 refine zbq ?_
 refine w_r [.p, .p, .v (.b true)] ?_
 refine za6 rfl ?_
 refine zk [.v (.b false)] ?_
 exact zaj h
 refine h_o (a := .b false) (h := zae rfl hc13) ?_
 refine zag rfl rfl ?_
 refine zbg ?_
 refine zag rfl rfl ?_
 refine zbg ?_
 refine zag rfl rfl ?_
 refine h_o (a := .b (x3.2 != x4.2)) ?_
 refine h_o (a := .b (x3.2 != x4.2)) ?_
 refine zaa h (fun hc14 h => ?_) (fun hc14 h => ?_)
 refine h_o (a := .b true) (h := zae rfl hc14) ?_
 refine z8 ?_
 refine z8 ?_
 refine z8 ?_
 refine h_o (a := .b true) ?_
 refine zbg ?_
 refine z8 ?_
 refine z8 ?_
 refine z8 ?_
 refine z8 ?_
 refine h_o (a := .b true) ?_
 refine zbg ?_
 refine z8 ?_
 refine z8 ?_
 refine z8 ?_
 refine zbq ?_
 refine w_r [.p, .p, .v (.b true)] ?_
 refine za6 rfl ?_
 refine zk [.v (.b false)] ?_
 exact zaj h
 refine h_o (a := .b false) (h := zae rfl hc14) ?_
 refine zag rfl rfl ?_
 refine zbg ?_
 refine zag rfl rfl ?_
 refine zbg ?_
 refine zag rfl rfl ?_
 refine h_o (a := .b (x5.2 != x4.2)) ?_
 refine h_o (a := .b (x5.2 != x4.2)) ?_
 refine zaa h (fun hc15 h => ?_) (fun hc15 h => ?_)
 refine h_o (a := .b true) (h := zae rfl hc15) ?_
 refine z8 ?_
 refine z8 ?_
 refine z8 ?_
 refine z8 ?_
 refine h_o (a := .b true) ?_
 refine zbg ?_
 refine z8 ?_
 refine z8 ?_
 refine z8 ?_
 refine zbq ?_
 refine w_r [.p, .p, .v (.b true)] ?_
 refine za6 rfl ?_
 refine zk [.v (.b false)] ?_
 exact zaj h
 refine h_o (a := .b false) (h := zae rfl hc15) ?_
 refine zag rfl rfl ?_
 refine h_o (a := .agg [.bsl 3 0 (List.length (Trc.mk x1 t.e).l) 4 false, .u ((Trc.mk x1 t.e).e.k), .i ((Trc.mk x1 t.e).e.c)]) ?_
 refine zag rfl rfl ?_
 refine h_o (a := .A (x2 : Trc)) ?_
 refine zag rfl rfl ?_
 obtain ⟨g4, h⟩ := zf h
 obtain ⟨x19, hx19, h⟩ := zl h
 refine h_callf 1 (args' := [.A ((Trc.mk ((Trc.mk x1 t.e).l) (Ed.mk ((Trc.mk x1 t.e).e.k) ((Trc.mk x1 t.e).e.c))) : Trc), .A (x2 : Trc)]) (r := .b x19) (zhf fuel (Trc.mk ((Trc.mk x1 t.e).l) (Ed.mk ((Trc.mk x1 t.e).e.k) ((Trc.mk x1 t.e).e.c))) x2 x19 hx19) rfl rfl rfl (zdr (ztf (zdr (zzn (α := En) (t := 41) (l := (Trc.mk x1 t.e).l) g4 rfl) (zdr (zie rfl) (zdr (zie rfl) zlj)))) (zdr (zie (zb2 (Enc.clo _))) zlj)) rfl (by dsimp only [z6, List.set]) ?_
 refine zag rfl rfl ?_
 refine h_o (a := .b (!x19)) ?_
 refine h_o (a := .b (!x19)) ?_
 refine zaa h (fun hc16 h => ?_) (fun hc16 h => ?_)
 refine h_o (a := .b true) (h := zae rfl hc16) ?_
 refine z8 ?_
 refine z8 ?_
 refine z8 ?_
 refine zbq ?_
 refine w_r [.p, .p, .v (.b true)] ?_
 refine za6 rfl ?_
 refine zk [.v (.b false)] ?_
 exact zaj h
 refine h_o (a := .b false) (h := zae rfl hc16) ?_
 refine zag rfl rfl ?_
 refine h_o (a := .A ((Trc.mk x1 t.e) : Trc)) ?_
 refine zag rfl rfl ?_
 obtain ⟨x20, hx20, h⟩ := zl h
 refine zgr (zxd fuel (Trc.mk x1 t.e) x20 hx20) ?_
 refine zag rfl rfl ?_
 refine h_o (a := .A (x2 : Trc)) ?_
 refine zbq ?_
 refine zai rfl rfl ?_
 obtain ⟨x21, hx21, h⟩ := zl h
 refine zbc (zvi fuel x2 x21 hx21) ?_
 refine zai rfl rfl ?_
 refine w_o (a := .b (!(x20 == x21))) (h := zv (zij rfl rfl rfl)) ?_
 refine w_o (a := .b (!(x20 == x21))) ?_
 refine za3 h (fun hc17 h => ?_) (fun hc17 h => ?_)
 refine zk [.v (.b false)] ?_
 exact zaj h
 refine zaf h (bz 0 116 83076749736557242056487941267520743) (fun j3 => []) (fun j3 => (.B [(27, (Enc.cells (t : Trc))), (27, (Enc.cells ((Trc.mk x1 t.e) : Trc))), (34, (Enc.cells (x2 : Trc))), (41, (Enc.cellsL (j3 : List En))), (27, [.bsl 3 0 (List.length (Trc.mk x1 t.e).l) 4 false, .u ((Trc.mk x1 t.e).e.k), .i ((Trc.mk x1 t.e).e.c)])])) ?_ ?_
 intro or3 h hr3
 refine zk [.v (.ptr 4 0), .v (.bsl 3 0 (List.length (Trc.mk x1 t.e).l) 4 false), .v (.i (((List.length (Trc.mk x1 t.e).l) : Nat) : Int)), .v (.i 0)] ?_
 refine zr ?_
 refine zap h (bz 0 116 83076749736556061464867223856215271) (fun s2 => [(71, .i s2.1)]) (fun s2 => (.B [(27, (Enc.cells (t : Trc))), (27, (Enc.cells ((Trc.mk x1 t.e) : Trc))), (34, (Enc.cells (x2 : Trc))), (41, (Enc.cellsL (s2.2 : List En))), (27, [.bsl 3 0 (List.length (Trc.mk x1 t.e).l) 4 false, .u ((Trc.mk x1 t.e).e.k), .i ((Trc.mk x1 t.e).e.c)])])) ?_ ?_
 exact zao (bl 116 3541774862152233913112)
 intro s2 p2 h
 refine zbn ?_
 refine zk [.v (.b (decide (s2.1 < (((List.length (Trc.mk x1 t.e).l) : Nat) : Int))))] ?_
 refine zj ?_
 refine za3 h (fun hc18 h => ?_) (fun hc18 h => ?_)
 refine zj ?_
 refine zr ?_
 refine zk [.m _, .m _] ?_
 refine zc (k0 := 0) (id := 12) ?_
 refine w_r [.v (.ptr 4 0), .v (.bsl 3 0 (List.length (Trc.mk x1 t.e).l) 4 false), .m _] ?_
 obtain ⟨g5, h⟩ := zf h
 refine w_o (a := .ptr 3 (0 + Int.toNat s2.1 * 4)) (h := zv (q_idxB (α := En) g5 rfl rfl rfl rfl rfl)) ?_
 refine w_o (a := .ptr 3 (0 + Int.toNat s2.1 * 4 + 0)) ?_
 obtain ⟨g6, h⟩ := zf h
 obtain ⟨x22, hx22, h⟩ := zo h
 refine zbr (σ'' := (.B [(27, (Enc.cells (t : Trc))), (27, (Enc.cells ((Trc.mk x1 t.e) : Trc))), (34, (Enc.cells (x2 : Trc))), (41, (Enc.cellsL ((List.set s2.2 (Int.toNat s2.1) (En.mk 9 x22.fr x22.to x22.b)) : List En))), (27, [.bsl 3 0 (List.length (Trc.mk x1 t.e).l) 4 false, .u ((Trc.mk x1 t.e).e.k), .i ((Trc.mk x1 t.e).e.c)])])) (h := zyd (α := En) (l := s2.2) (i := s2.1) (k := 0) (te := 41) (n := 1) (En.mk 9 x22.fr x22.to x22.b) g6 rfl rfl rfl rfl rfl rfl rfl (by decide) (by decide) (by rw [hx22]; rfl)) ?_
 refine zc (k0 := 0) (id := 13) ?_
 obtain ⟨g7, h⟩ := zf h
 refine zej g7 ?_
 refine zp ?_
 refine zz (p := p2) ((s2.1 + 1), (List.set s2.2 (Int.toNat s2.1) (En.mk 9 x22.fr x22.to x22.b))) h ?_
 exact zao (bl 116 3541774862152233913112)
 refine zh h (fun h => ?_)
 refine zg (o := or3) (s2.2) h ?_
 exact zao (bl 116 792)
 intro j3 h
 refine zbn ?_
 refine zj ?_
 refine zk [.v (.A ((Trc.mk x1 t.e) : Trc)), .v (.A (x2 : Trc))] ?_
 obtain ⟨x23, hx23, h⟩ := zl h
 refine zbc (zhf fuel (Trc.mk x1 t.e) x2 x23 hx23) ?_
 refine w_o (a := .b (!x23)) ?_
 refine za3 h (fun hc19 h => ?_) (fun hc19 h => ?_)
 refine zk [.v (.b false)] ?_
 exact zaj h
 refine zk [.v (.i 0), .v (.i 0), .v (.i 0), .v (.s ([] : List UInt8))] ?_
 refine zaf h (bz 0 95 39612872331312554167597392144) (fun j4 => [(13, .i j4.1), (14, .i j4.2.1), (15, .i j4.2.2.1), (16, .s j4.2.2.2)]) (fun j4 => (.B [(27, (Enc.cells (t : Trc))), (27, (Enc.cells ((Trc.mk x1 t.e) : Trc))), (34, (Enc.cells (x2 : Trc))), (41, (Enc.cellsL (j3 : List En))), (27, [.bsl 3 0 (List.length (Trc.mk x1 t.e).l) 4 false, .u ((Trc.mk x1 t.e).e.k), .i ((Trc.mk x1 t.e).e.c)])])) ?_ ?_
 intro or4 h hr4
 refine zk [.m _, .v (.b (x4.2 == 0))] ?_
 refine za3 h (fun hc20 h => ?_) (fun hc20 h => ?_)
 refine zb3 (k0 := 0) (id := 18) 8 (by kernel_rfl) (by kernel_rfl) ?_
 refine h_o (a := .A (x2 : Trc)) ?_
 obtain ⟨x24, hx24, h⟩ := zl h
 refine zgr (zpt fuel x2 2 x24 hx24) ?_
 refine h_o (a := .A (x2 : Trc)) ?_
 obtain ⟨x25, hx25, h⟩ := zl h
 refine zgr (zpt fuel x2 3 x25 hx25) ?_
 refine h_o (a := .ptr 2 0) ?_
 refine h_o (a := .L (x2.l : List En)) ?_
 obtain ⟨x26, hx26, h⟩ := zl h
 refine zgr (zxt fuel x2.l x26 hx26) ?_
 refine h_o (a := .A (x2 : Trc)) ?_
 refine zbq ?_
 obtain ⟨x27, hx27, h⟩ := zl h
 refine zbc (zr2 fuel x2 x27 hx27) ?_
 refine w_r [.m _, .m _, .m _, .m _] ?_
 refine zg (o := or4) (x24, x25, x26, x27) h ?_
 exact zao (bl 116 83076710123684910743933773670252271)
 refine zg (o := or4) (0, 0, 0, ([] : List UInt8)) h ?_
 exact zao (bl 116 83076710123684910743933773670252271)
 intro j4 h
 refine zbn ?_
 refine zk [.v (.A ((Trc.mk x1 t.e) : Trc))] ?_
 obtain ⟨x28, hx28, h⟩ := zl h
 refine zbc (zuy fuel (Trc.mk x1 t.e) x28 hx28) ?_
 refine w_r [.m _, .v (.b (x28 == j4.1))] ?_
 refine zaa h (fun hc21 h => ?_) (fun hc21 h => ?_)
 refine zar hc21 ?_
 refine zai rfl rfl ?_
 refine w_o (a := .A ((Trc.mk x1 t.e) : Trc)) ?_
 refine zai rfl rfl ?_
 obtain ⟨x29, hx29, h⟩ := zl h
 refine zbc (zzc fuel (Trc.mk x1 t.e) x29 hx29) ?_
 refine w_r [.m _, .v (.b (x29 == j4.2.1)), .v (.b (x29 == j4.2.1))] ?_
 refine zaa h (fun hc22 h => ?_) (fun hc22 h => ?_)
 refine zar hc22 ?_
 refine zai rfl rfl ?_
 refine w_o (a := .A ((Trc.mk x1 t.e) : Trc)) ?_
 refine zai rfl rfl ?_
 obtain ⟨x30, hx30, h⟩ := zl h
 refine zbc (at_sh fuel (Trc.mk x1 t.e) x30 hx30) ?_
 refine w_r [.m _, .v (.b (x30 == j4.2.2.1)), .v (.b (x30 == j4.2.2.1))] ?_
 refine zaa h (fun hc23 h => ?_) (fun hc23 h => ?_)
 refine zar hc23 ?_
 refine w_r [.m _, .m _] ?_
 refine zai rfl rfl ?_
 refine w_o (a := .b (x5.1 == j4.2.2.2)) (h := zv (zb7 rfl rfl rfl)) ?_
 refine w_r [.v (.b (x5.1 == j4.2.2.2)), .m _] ?_
 exact zaj h
 refine zar hc23 ?_
 refine w_r [.p, .p, .p, .v (.b false), .m _] ?_
 exact zaj h
 refine zar hc22 ?_
 refine w_r [.p, .p, .p, .p, .v (.b false)] ?_
 refine w_r [.m _, .p, .p, .p, .v (.b false)] ?_
 refine w_r [.m _] ?_
 exact zaj h
 refine zar hc21 ?_
 refine w_r [.p, .p, .p, .p, .v (.b false)] ?_
 refine w_r [.m _, .p, .p, .p, .p] ?_
 refine w_r [.v (.b false), .m _, .p, .p, .p] ?_
 refine w_r [.v (.b false), .m _] ?_
 exact zaj h
end Go.Ab
