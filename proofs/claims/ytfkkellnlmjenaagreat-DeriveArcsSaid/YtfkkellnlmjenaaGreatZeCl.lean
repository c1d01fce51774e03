/-
  slices.Clone of nodes.
-/
import Derived.Test.YtfkkellnlmjenaaGreatZeV1
set_option linter.unusedSimpArgs false
set_option linter.unusedVariables false
set_option maxRecDepth 100000
set_option maxHeartbeats 4000000
namespace Go.Ab
open Go Go.RowKit Go.Fwd Go.Proofs
def q2 {α : Type} (f : Tr → Tr → α) (n : Nat) (x y : Tr) : Option α := if (pre x).length < n ∧ (pre y).length < n then some (f x y) else none
def qae : Nat → Tr → Tr → Option Bool := q2 zfa
def qcmp : Nat → Tr → Tr → Option Int := q2 zkq
theorem qms {α : Type} {f : Tr → Tr → α} {n : Nat} {x y : Tr} {z : α} (h : q2 f n x y = some z) : ((pre x).length < n ∧ (pre y).length < n) ∧ z = f x y := by
 unfold q2 at h
 split at h
 ·rename_i h1; exact ⟨h1, (Option.some.inj h).symm⟩
 ·cases h
def zxg (t : Tr) : Option Bool :=
 (zdr (τ := Int) (chk ((pre t).length < 2 ^ 61) (zbb (pre t) (fun x1 => (zdr (zgm (β := Int) (fun s1 w1 => (chk (-9223372036854775808 ≤ (s1 + 1) ∧ (s1 + 1) < 9223372036854775808) (bif (decide ((s1 + 1) > 10000)) then (some (Sum.inr (Sum.inl ((s1 + 1))))) else (some (Sum.inl ((s1 + 1))))))) x1 (0)) (fun s1 => (some (Sum.inl (s1)))))))) (fun j1 => (some (decide (j1 ≤ 10000)))))
theorem ent62 : Ent Tryz.prog 62 := enters_of Tryz.func62 (by kernel_rfl) rfl
theorem qjm (t : Tr) (r : Bool) (h : zxg t = some r) : Pure (ITP Tryz.prog) Tryz.prog 62 [.A (t : Tr)] (.raw (.bool r)) := by
 unfold zxg at h
 refine zaw 12 mix Tryz.func62 ent62 ?_
 refine zf (zb ?_)
 refine zbp (a := .ptr 0 0) (σ'' := (.B [(29, (Enc.cells (t : Tr)))])) ?_
 refine w_o (a := .b false) ?_
 refine w_scope ?_
 refine zf (zb ?_)
 refine zbp (a := .ptr 1 0) (σ'' := (.B [(29, (Enc.cells (t : Tr))), (3, [.i 0])])) ?_
 refine zcp 1 (.B [(29, (Enc.cells (t : Tr))), (3, [.i 0])]) ?_
 refine zf ?_
 refine w_label ?_
 refine zar h (bz 0 13 8183) (fun j1 => []) (fun j1 => (.B [(29, (Enc.cells (t : Tr))), (3, [.i j1])])) ?_ ?_
 intro or1 h hr1
 refine zo [.v (.A (t : Tr))] ?_
 obtain ⟨g1, h⟩ := zh h
 obtain ⟨x1, hx1, h⟩ := zl h
 refine zcf (args' := [.A (t : Tr)]) (r := .iter (List.map zuq x1)) (by rw [← hx1]; exact (zzc t g1)) ?_
 refine zn ?_
 refine zlj h zuq (fun s1 => (.B [(29, (Enc.cells (t : Tr))), (3, [.i s1])])) rfl (fun _ => rfl) rfl rfl ?_ ?_
 intro s1 w1 p1 h
 refine zam (by dsimp only [znc, List.zip, List.zipWith, List.foldl, List.set, Array.toList]) rfl ?_
 refine zn ?_
 refine zo [.v (.i s1)] ?_
 obtain ⟨g2, h⟩ := zh h
 refine zov g2 ?_
 refine zcp 1 (.B [(29, (Enc.cells (t : Tr))), (3, [.i (s1 + 1)])]) ?_
 refine zo [.v (.i (s1 + 1)), .v (.b (decide ((s1 + 1) > 10000)))] ?_
 refine zbu h (fun hc1 h => ?_) (fun hc1 h => ?_)
 refine zt h (fun h => ⟨(zbf (zq (zk _ _ (Enc.clo _)) (zq (by kernel_rfl) rfl))), ?_⟩)
 refine zg (o := or1) ((s1 + 1)) h ?_
 exact zde (bl 13 8)
 exact zgr (p := p1) ((s1 + 1)) h (zbf (zq (zk _ _ (Enc.clo _)) (zq (by kernel_rfl) rfl))) (by kernel_rfl)
 intro s1 h
 refine zg (o := or1) (s1) h ?_
 exact zde (bl 13 8)
 intro j1 h
 refine zff ?_
 refine zo [.v (.i j1), .v (.b (decide (j1 ≤ 10000))), .m _] ?_
 exact zba h
def zxl (fuel : Nat) (n : Nat) (a : Tr) (b : Tr) : Option Bool :=
 (bif (((a.k : Nat) : Int) == ((b.k : Nat) : Int)) then (bif (decide (a.s = b.s)) then (bif (a.mn == b.mn) then (bif (a.mx == b.mx) then (zay (zxv fuel (qae n) a.l b.l) (fun x1 => (some x1))) else (some false)) else (some false)) else (some false)) else (some false))
theorem ent65 : Ent Tryz.prog 65 := enters_of Tryz.func65 (by kernel_rfl) rfl
theorem qjq (fuel : Nat) (n : Nat) (a : Tr) (b : Tr) (r : Bool) (ih : ∀ x y : Tr, (pre x).length < n ∧ (pre y).length < n → Pure (ITP Tryz.prog) Tryz.prog 65 [.A x, .A y] (.raw (.bool (zfa x y)))) (h : zxl fuel n a b = some r) : Pure (ITP Tryz.prog) Tryz.prog 65 [.A (a : Tr), .A (b : Tr)] (.raw (.bool r)) := by
 unfold zxl at h
 refine zaw 36 mix Tryz.func65 ent65 ?_
 refine zf (zb ?_)
 refine zbp (a := .ptr 0 0) (σ'' := (.B [(29, (Enc.cells (a : Tr)))])) ?_
 refine zbp (a := .ptr 1 0) (σ'' := (.B [(29, (Enc.cells (a : Tr))), (29, (Enc.cells (b : Tr)))])) ?_
 refine w_o (a := .b false) ?_
 refine zo [.v (.ptr 0 0), .v (.u ((a.k : Nat) : Int)), .v (.ptr 1 0), .v (.u ((b.k : Nat) : Int)), .v (.b (((a.k : Nat) : Int) == ((b.k : Nat) : Int)))] ?_
 refine zac h (fun hc1 h => ?_) (fun hc1 h => ?_)
 refine zaz hc1 ?_
 refine w_r [.v (.ptr 0 1), .v (.A (a.s : BS)), .v (.ptr 1 1), .v (.A (b.s : BS))] ?_
 refine zak rfl rfl ?_
 refine z4w (.b (decide (a.s = b.s))) rfl rfl rfl (z9g a.s b.s rfl rfl rfl) (by dsimp only [zab, List.set]) ?_
 refine w_o (a := .b (decide (a.s = b.s))) ?_
 refine zac h (fun hc2 h => ?_) (fun hc2 h => ?_)
 refine zaz hc2 ?_
 refine w_r [.v (.ptr 0 5), .v (.i a.mn), .v (.ptr 1 5), .v (.i b.mn), .v (.b (a.mn == b.mn))] ?_
 refine w_r [.v (.b (a.mn == b.mn))] ?_
 refine zac h (fun hc3 h => ?_) (fun hc3 h => ?_)
 refine zaz hc3 ?_
 refine w_r [.v (.ptr 0 6), .v (.i a.mx), .v (.ptr 1 6), .v (.i b.mx), .v (.b (a.mx == b.mx))] ?_
 refine w_r [.v (.b (a.mx == b.mx))] ?_
 refine zac h (fun hc4 h => ?_) (fun hc4 h => ?_)
 refine zaz hc4 ?_
 refine w_r [.v (.ptr 0 7), .v (.L (a.l : List Tr)), .v (.ptr 1 7), .v (.L (b.l : List Tr))] ?_
 refine zak rfl rfl ?_
 obtain ⟨x1, hx1, h⟩ := zv h
 refine zdd (args' := [.L (a.l : List Tr), .L (b.l : List Tr), .clos 65 []]) (r := .b x1) (qmr fuel (qae n) a.l b.l x1 65 (fun x y z h => by obtain ⟨h1, rfl⟩ := qms h; exact ih x y h1) hx1) rfl rfl (ze (zfq (Enc.cloL _)) (ze (zfq (Enc.cloL _)) (ze (show AV.clos _ (stripL _) = _ from congrArg (AV.clos _) rfl) rfl))) (za (zai (Enc.cloL _)) (za (zai (Enc.cloL _)) (za (show zw _ _ = true from rfl) rfl))) (by dsimp only [zab, List.set]) ?_
 refine w_r [.v (.b x1), .m _] ?_
 exact zba h
 refine zaz hc4 ?_
 refine w_r [.p, .p, .p, .p, .p] ?_
 refine w_r [.v (.b false), .m _] ?_
 exact zba h
 refine zaz hc3 ?_
 refine w_r [.p, .p, .p, .p, .p] ?_
 refine w_r [.v (.b false), .m _, .p, .p, .p] ?_
 refine w_r [.p, .p, .v (.b false), .m _] ?_
 exact zba h
 refine zaz hc2 ?_
 refine w_r [.p, .p, .p, .p, .p] ?_
 refine w_r [.v (.b false), .m _, .p, .p, .p] ?_
 refine w_r [.p, .p, .v (.b false), .m _, .p] ?_
 refine w_r [.p, .p, .p, .p, .v (.b false)] ?_
 refine w_r [.m _] ?_
 exact zba h
 refine zaz hc1 ?_
 refine w_r [.p, .p, .p, .p, .p] ?_
 refine w_r [.v (.b false), .m _, .p, .p, .p] ?_
 refine w_r [.p, .p, .v (.b false), .m _, .p] ?_
 refine w_r [.p, .p, .p, .p, .v (.b false)] ?_
 refine w_r [.m _, .p, .p, .p, .p] ?_
 refine w_r [.p, .v (.b false), .m _] ?_
 exact zba h
def zkk (s : BS) : Option (Int × Bool) :=
 (zdr (τ := Unit) (zbb (els s) (fun x1 => (zdr (zgm (β := Unit) (fun s1 w1 => (some (Sum.inr (Sum.inr (w1, true))))) x1 ()) (fun s1 => (some (Sum.inl ())))))) (fun j1 => (some (0, false))))
theorem ent11 : Ent Tryz.prog 11 := enters_of Tryz.func11 (by kernel_rfl) rfl
theorem zri (s : BS) (r : (Int × Bool)) (h : zkk s = some r) : Pure (ITP Tryz.prog) Tryz.prog 11 [.A (s : BS)] (.tup [.raw (.int .u8 r.1), .raw (.bool r.2)]) := by
 unfold zkk at h
 refine zaw 8 mix Tryz.func11 ent11 ?_
 refine zf (zb ?_)
 refine zbp (a := .ptr 0 0) (σ'' := (.B [(26, (Enc.cells (s : BS)))])) ?_
 refine zbp (a := .ptr 1 0) (σ'' := (.B [(26, (Enc.cells (s : BS))), (5, [.u 0])])) ?_
 refine zbp (a := .ptr 2 0) (σ'' := (.B [(26, (Enc.cells (s : BS))), (5, [.u 0]), (4, [.b false])])) ?_
 refine zar h (bz 0 9 499) (fun j1 => []) (fun j1 => (.B [(26, (Enc.cells (s : BS))), (5, [.u 0]), (4, [.b false])])) ?_ ?_
 intro or1 h hr1
 refine zo [.v (.A (s : BS))] ?_
 obtain ⟨x1, hx1, h⟩ := zl h
 refine zcf (args' := [.A (s : BS)]) (r := .iter (List.map qkt x1)) (by rw [← hx1]; exact (k_all s)) ?_
 refine zn ?_
 refine zlj h qkt (fun s1 => (.B [(26, (Enc.cells (s : BS))), (5, [.u 0]), (4, [.b false])])) rfl (fun _ => rfl) rfl rfl ?_ ?_
 intro s1 w1 p1 h
 refine zam (by dsimp only [znc, List.zip, List.zipWith, List.foldl, List.set, Array.toList]) rfl ?_
 refine zb (k0 := 0) (id := 2) ?_
 refine zaj ?_
 refine zn ?_
 refine zo [.m _] ?_
 refine zcp 1 (.B [(26, (Enc.cells (s : BS))), (5, [.u w1]), (4, [.b false])]) ?_
 refine zcp 1 (.B [(26, (Enc.cells (s : BS))), (5, [.u w1]), (4, [.b true])]) ?_
 refine zt h (fun h => ⟨(zbf (zq (zk _ _ (Enc.clo _)) (zq (by kernel_rfl) (zq (by kernel_rfl) rfl)))), ?_⟩)
 replace h := zu h hr1
 exact zax (fun (r : (Int × Bool)) => .tup [.u r.1, .b r.2]) h (.tup [.u w1, .b true])
 intro s1 h
 refine zg (o := or1) () h ?_
 exact zde (bl 9 12)
 intro j1 h
 refine zff ?_
 refine zf (zb ?_)
 refine zcp 1 (.B [(26, (Enc.cells (s : BS))), (5, [.u 0]), (4, [.b false])]) ?_
 refine zcp 1 (.B [(26, (Enc.cells (s : BS))), (5, [.u 0]), (4, [.b false])]) ?_
 exact zax (fun (r : (Int × Bool)) => .tup [.u r.1, .b r.2]) h (.tup [.u 0, .b false])
def znq (a : BS) (b : BS) : Option Int :=
 (zbb (a &&& ~~~b) (fun x1 => (zbb (b &&& ~~~a) (fun x2 => (zbb (x1 ||| x2) (fun x3 => (zay (zkk x3) (fun x4 => (bif (!x4.2) then (some 0) else (zay (znn a x4.1) (fun x5 => (bif x5 then (some (-1)) else (some 1)))))))))))))
theorem ent108 : Ent Tryz.prog 108 := enters_of Tryz.func108 (by kernel_rfl) rfl
theorem z2y (a : BS) (b : BS) (r : Int) (h : znq a b = some r) : Pure (ITP Tryz.prog) Tryz.prog 108 [.A (a : BS), .A (b : BS)] (.raw (.int .i64 r)) := by
 unfold znq at h
 refine zaw 23 mix Tryz.func108 ent108 ?_
 refine zf (zb ?_)
 refine zbp (a := .ptr 0 0) (σ'' := (.B [(26, (Enc.cells (a : BS)))])) ?_
 refine zbp (a := .ptr 1 0) (σ'' := (.B [(26, (Enc.cells (a : BS))), (26, (Enc.cells (b : BS)))])) ?_
 refine w_o (a := .i 0) ?_
 refine zf ?_
 refine zhb (k0 := 0) (id := 1) 12 (by kernel_rfl) (by kernel_rfl) ?_
 refine h_o (a := .A (a : BS)) ?_
 refine h_o (a := .A (b : BS)) ?_
 obtain ⟨x1, hx1, h⟩ := zl h
 refine qli (args' := [.A (a : BS), .A (b : BS)]) (r := .A (x1 : BS)) (by rw [← hx1]; exact (qfz a b)) ?_
 refine h_o (a := .A (b : BS)) ?_
 refine h_o (a := .A (a : BS)) ?_
 obtain ⟨x2, hx2, h⟩ := zl h
 refine qli (args' := [.A (b : BS), .A (a : BS)]) (r := .A (x2 : BS)) (by rw [← hx2]; exact (qfz b a)) ?_
 obtain ⟨x3, hx3, h⟩ := zl h
 refine qli (args' := [.A (x1 : BS), .A (x2 : BS)]) (r := .A (x3 : BS)) (by rw [← hx3]; exact (k_or2 x1 x2)) ?_
 obtain ⟨x4, hx4, h⟩ := zv h
 refine qli (zri x3 x4 hx4) ?_
 refine zho ?_
 refine h_ex ?_
 refine h_ex ?_
 refine zho ?_
 refine zlc ?_
 refine zaj ?_
 refine zf ?_
 refine zn ?_
 refine zo [.m _, .v (.b (!x4.2)), .m _] ?_
 refine zbu h (fun hc1 h => ?_) (fun hc1 h => ?_)
 refine zo [.v (.i 0)] ?_
 exact zdu h
 refine zo [.v (.A (a : BS)), .m _] ?_
 obtain ⟨x5, hx5, h⟩ := zv h
 refine zcf (zut a x4.1 x5 hx5) ?_
 refine zaj ?_
 refine zbu h (fun hc2 h => ?_) (fun hc2 h => ?_)
 refine zo [.v (.i (-1))] ?_
 exact zdu h
 refine zo [.v (.i 1)] ?_
 exact zdu h
def z7n (fuel : Nat) (n : Nat) (a : Tr) (b : Tr) : Option Int :=
 (bif (((a.k : Nat) : Int) != ((b.k : Nat) : Int)) then (zay (z0f ((a.k : Nat) : Int) ((b.k : Nat) : Int)) (fun x1 => (some x1))) else (zdr (τ := Unit) (bif (((a.k : Nat) : Int) == 2) then (zay (znq a.s b.s) (fun x2 => (some (Sum.inr x2)))) else (bif (((a.k : Nat) : Int) == 5) then (zay (zoz a.mn b.mn) (fun x3 => (zay (zvh a) (fun x4 => (zay (zvh b) (fun x5 => (zay (zoz x4 x5) (fun x6 => (zay (zsd fuel ([x3, x6] : List Int)) (fun x7 => (bif (x7 != 0) then (some (Sum.inr x7)) else (some (Sum.inl ()))))))))))))) else (zdr (τ := Bool) (bif (((a.k : Nat) : Int) == 0) then (some (Sum.inl ((((a.k : Nat) : Int) == 0)))) else (some (Sum.inl ((((a.k : Nat) : Int) == 1))))) (fun j2 => (bif j2 then (some (Sum.inr 0)) else (some (Sum.inl ()))))))) (fun j1 => (zay (qef fuel (qcmp n) a.l b.l) (fun x8 => (some x8))))))
theorem ent71 : Ent Tryz.prog 71 := enters_of Tryz.func71 (by kernel_rfl) rfl
theorem cmpt_sh (fuel : Nat) (n : Nat) (a : Tr) (b : Tr) (r : Int) (ih : ∀ x y : Tr, (pre x).length < n ∧ (pre y).length < n → Pure (ITP Tryz.prog) Tryz.prog 71 [.A x, .A y] (.raw (.int .i64 (zkq x y)))) (h : z7n fuel n a b = some r) : Pure (ITP Tryz.prog) Tryz.prog 71 [.A (a : Tr), .A (b : Tr)] (.raw (.int .i64 r)) := by
 unfold z7n at h
 refine zaw 48 mix Tryz.func71 ent71 ?_
 refine zf (zb ?_)
 refine zbp (a := .ptr 0 0) (σ'' := (.B [(29, (Enc.cells (a : Tr)))])) ?_
 refine zbp (a := .ptr 1 0) (σ'' := (.B [(29, (Enc.cells (a : Tr))), (29, (Enc.cells (b : Tr)))])) ?_
 refine w_o (a := .i 0) ?_
 refine zf ?_
 refine zo [.v (.ptr 0 0), .v (.u ((a.k : Nat) : Int)), .v (.ptr 1 0), .v (.u ((b.k : Nat) : Int)), .v (.b (((a.k : Nat) : Int) != ((b.k : Nat) : Int)))] ?_
 refine zbu h (fun hc1 h => ?_) (fun hc1 h => ?_)
 refine zo [.v (.ptr 0 0), .v (.u ((a.k : Nat) : Int)), .v (.ptr 1 0), .v (.u ((b.k : Nat) : Int))] ?_
 obtain ⟨x1, hx1, h⟩ := zv h
 refine zcf (cmp8_sh ((a.k : Nat) : Int) ((b.k : Nat) : Int) x1 hx1) ?_
 refine zaj ?_
 exact zdu h
 refine zar h (bz 0 50 1125899906842611) (fun j1 => []) (fun j1 => (.B [(29, (Enc.cells (a : Tr))), (29, (Enc.cells (b : Tr)))])) ?_ ?_
 intro or1 h hr1
 refine zo [.v (.ptr 0 0), .v (.u ((a.k : Nat) : Int))] ?_
 refine zn ?_
 refine zo [.v (.b (((a.k : Nat) : Int) == 2)), .m _] ?_
 refine zbu h (fun hc2 h => ?_) (fun hc2 h => ?_)
 refine zo [.v (.ptr 0 1), .v (.A (a.s : BS)), .v (.ptr 1 1), .v (.A (b.s : BS))] ?_
 obtain ⟨x2, hx2, h⟩ := zv h
 refine zcf (z2y a.s b.s x2 hx2) ?_
 refine zaj ?_
 replace h := zu h hr1
 exact zdu h
 refine zo [.v (.b (((a.k : Nat) : Int) == 5)), .m _] ?_
 refine zbu h (fun hc3 h => ?_) (fun hc3 h => ?_)
 refine zf ?_
 refine zhb (k0 := 0) (id := 7) 8 (by kernel_rfl) (by kernel_rfl) ?_
 refine h_o (a := .ptr 0 5) ?_
 refine h_o (a := .i a.mn) ?_
 refine h_o (a := .ptr 1 5) ?_
 refine h_o (a := .i b.mn) ?_
 obtain ⟨x3, hx3, h⟩ := zv h
 refine qli (z9m a.mn b.mn x3 hx3) ?_
 refine h_o (a := .A (a : Tr)) ?_
 obtain ⟨x4, hx4, h⟩ := zv h
 refine qli (qfw a x4 hx4) ?_
 refine h_o (a := .A (b : Tr)) ?_
 refine zlc ?_
 obtain ⟨x5, hx5, h⟩ := zv h
 refine zcf (qfw b x5 hx5) ?_
 obtain ⟨x6, hx6, h⟩ := zv h
 refine zcf (z9m x4 x5 x6 hx6) ?_
 refine w_o (a := .F (([x3, x6] : List Int) : List Int)) (h := zbo (zgt (α := Int) (l := [x3, x6]) (cs := Enc.cells (x3 : Int) ++ (Enc.cells (x6 : Int) ++ [])) rfl (by rw [Enc.cons, Enc.cons, Enc.nil]))) ?_
 obtain ⟨x7, hx7, h⟩ := zv h
 refine zcf (qlx fuel ([x3, x6] : List Int) x7 hx7) ?_
 refine zaj ?_
 refine zo [.m _, .v (.b (x7 != 0))] ?_
 refine zbu h (fun hc4 h => ?_) (fun hc4 h => ?_)
 refine zo [.m _, .m _] ?_
 replace h := zu h hr1
 exact zdu h
 refine zg (o := or1) () h ?_
 exact zde (bl 50 12)
 refine zar h (bz 0 50 1125899906842611) (fun j2 => [(42, .b j2)]) (fun j2 => (.B [(29, (Enc.cells (a : Tr))), (29, (Enc.cells (b : Tr)))])) ?_ ?_
 intro or2 h hr2
 refine zo [.v (.b (((a.k : Nat) : Int) == 0)), .m _] ?_
 refine zbu h (fun hc5 h => ?_) (fun hc5 h => ?_)
 refine zg (o := or2) ((((a.k : Nat) : Int) == 0)) h ?_
 exact zde (bl 50 4398046511116)
 refine zb (k0 := 0) (id := 11) ?_
 refine w_r [.v (.b (((a.k : Nat) : Int) == 1)), .m _] ?_
 refine zg (o := or2) ((((a.k : Nat) : Int) == 1)) h ?_
 exact zde (bl 50 4398046511116)
 intro j2 h
 refine zff ?_
 refine zbu h (fun hc6 h => ?_) (fun hc6 h => ?_)
 refine zo [.v (.i 0)] ?_
 replace h := zu h hr1
 exact zdu h
 refine zg (o := or1) () h ?_
 exact zde (bl 50 12)
 intro j1 h
 refine zff ?_
 refine zo [.v (.ptr 0 7), .v (.L (a.l : List Tr)), .v (.ptr 1 7), .v (.L (b.l : List Tr))] ?_
 obtain ⟨x8, hx8, h⟩ := zv h
 refine zdd (args' := [.L (a.l : List Tr), .L (b.l : List Tr), .clos 71 []]) (r := .i x8) (cpf_sh fuel (qcmp n) a.l b.l x8 71 (fun x y z h => by obtain ⟨h1, rfl⟩ := qms h; exact ih x y h1) hx8) rfl rfl (ze (zfq (Enc.cloL _)) (ze (zfq (Enc.cloL _)) (ze (show AV.clos _ (stripL _) = _ from congrArg (AV.clos _) rfl) rfl))) (za (zai (Enc.cloL _)) (za (zai (Enc.cloL _)) (za (show zw _ _ = true from rfl) rfl))) (by dsimp only [zab, List.set]) ?_
 refine zaj ?_
 exact zdu h
theorem z8m (s : BS) : zkk s = some (match els s with | [] => (0, false) | c :: _ => (c, true)) := by
 unfold zkk
 rw [zbb]
 generalize els s = l
 cases l with
 | nil => rfl
 | cons c l => rfl
theorem z0a (a b : BS) : znq a b = some (zwq a b) := by
 unfold znq
 rw [zbb, zbb, zbb, z8m]
 generalize hd : (a &&& ~~~b) ||| (b &&& ~~~a) = d
 have hf := zwj a.getLsbD b.getLsbD d.getLsbD (List.range 256) (fun j hj => by
  have hj := List.mem_range.1 hj
  rw [← hd]
  simp only [BitVec.getLsbD_or, BitVec.getLsbD_and, BitVec.getLsbD_not, hj, decide_true, Bool.true_and]
  cases a.getLsbD j <;> cases b.getLsbD j <;> rfl)
 rw [zwq, hf]
 have he : els d = ((List.range 256).filter fun j => d.getLsbD j).map fun (j : Nat) => (j : Int) := rfl
 rw [he]
 have hm : ∀ c ∈ (List.range 256).filter (fun j => d.getLsbD j), c < 256 := fun c hc => List.mem_range.1 (List.mem_filter.1 hc).1
 rw [show (List.range 256).filter d.getLsbD = (List.range 256).filter (fun j => d.getLsbD j) from rfl]
 revert hm
 generalize (List.range 256).filter (fun j => d.getLsbD j) = l
 intro hm
 cases l with
 | nil => rfl
 | cons c l =>
  refine zbt _ rfl (zas rfl ?_)
  refine zbt (a.getLsbD c) (zsx a c (hm c (by simp))) ?_
  cases h : a.getLsbD c
  ·simp [h]
  ·simp [h]
theorem qlb (x y : Int) : zoz x y = some (zmv x y) := by
 unfold zoz zso zmv
 simp only [bindE_some, bne_self_eq_false, cond_false]
 by_cases h : x < y
 ·simp [h]
 ·by_cases h2 : x > y
  ·simp [h, h2]
  ·simp [h, h2]
theorem cmp8_eq (x y : Int) : z0f x y = some (zmv x y) := by
 unfold z0f zni zmv
 simp only [bindE_some, bne_self_eq_false, cond_false]
 by_cases h : x < y
 ·simp [h]
 ·by_cases h2 : x > y
  ·simp [h, h2]
  ·simp [h, h2]
theorem most_eq (t : Tr) : zvh t = some (z4n t.mx) := by
 unfold zvh z4n
 by_cases h : t.mx = -1
 ·simp [h]
 ·rw [show (t.mx == -1) = false by simpa using h, if_neg h]; rfl
theorem qmc (n : Nat) (x y : Int) : zsd (n + 3) [x, y] = some (zeq x y) := by
 unfold zsd zeq
 by_cases hx : x = 0
 ·by_cases hy : y = 0
  ·subst hx hy; rfl
  ·subst hx
   have : (y != 0) = true := by simpa using hy
   simp [zbx, chk, ix, this]
 ·have : (x != 0) = true := by simpa using hx
  simp [zbx, chk, ix, this, hx]
theorem cmpf_eq (n : Nat) (a b : List Tr) (ha : ∀ x ∈ a, (pre x).length < n) (hb : ∀ x ∈ b, (pre x).length < n) (hl : a.length < 2 ^ 60) (m : Nat) (hm : a.length < m) : qef m (qcmp n) a b = some (zjv a b) := by
 unfold qef
 refine qft a.length (fun i => (i : Int)) (fun i => some (zjv (a.drop i) (b.drop i))) hm fun i hi => ?_
 by_cases h : i < a.length
 ·have ea : a.drop i = a[i] :: a.drop (i + 1) := List.drop_eq_getElem_cons h
  by_cases h2 : i < b.length
  ·have eb : b.drop i = b[i] :: b.drop (i + 1) := List.drop_eq_getElem_cons h2
   have hA := ha a[i] (List.getElem_mem h)
   have hB := hb b[i] (List.getElem_mem h2)
   by_cases h0 : zkq a[i] b[i] = 0
   ·refine .inl ⟨h, ?_, by simp only [ea, eb, zjv, zeq, h0]; simp⟩
    refine zbk (by simpa using h) (zm ⟨by omega, by omega⟩ (zad fun x1 e1 => zas (by simp; omega) (zm ⟨by omega, by omega⟩ (zad fun x2 e2 => ?_))))
    rw [znx h] at e1
    rw [znx h2] at e2
    subst e1 e2
    refine zbt (zkq a[i] b[i]) (if_pos ⟨hA, hB⟩) (zas (by rw [h0]; rfl) (zm (by omega) ?_))
    simp
   ·refine .inr ⟨.inr (zkq a[i] b[i]), ?_, by simp only [ea, eb, zjv, zeq]; rw [if_pos h0]; rfl⟩
    refine zbk (by simpa using h) (zm ⟨by omega, by omega⟩ (zad fun x1 e1 => zas (by simp; omega) (zm ⟨by omega, by omega⟩ (zad fun x2 e2 => ?_))))
    rw [znx h] at e1
    rw [znx h2] at e2
    subst e1 e2
    refine zbt (zkq a[i] b[i]) (if_pos ⟨hA, hB⟩) (zbk (by simpa using h0) ?_)
    rfl
  ·refine .inr ⟨.inr 1, ?_, ?_⟩
   ·exact zbk (by simpa using h) (zm ⟨by omega, by omega⟩ (zad fun x1 e1 => zbk (by simp; omega) rfl))
   ·show some 1 = some (zjv (a.drop i) (b.drop i))
    rw [ea, List.drop_of_length_le (show b.length ≤ i by omega), zjv]
 ·refine .inr ⟨.inl (), zas (by simp; omega) rfl, ?_⟩
  have ea : a.drop i = [] := List.drop_of_length_le (by omega)
  show (bif decide ((a.length : Int) < (b.length : Int)) then some (-1) else some 0) = some (zjv (a.drop i) (b.drop i))
  rw [ea]
  by_cases h2 : a.length < b.length
  ·have eb : b.drop i = b[i] :: b.drop (i + 1) := List.drop_eq_getElem_cons (by omega)
   rw [eb, zjv, show decide ((a.length : Int) < (b.length : Int)) = true by simp; omega]; rfl
  ·rw [List.drop_of_length_le (show b.length ≤ i by omega), zjv, show decide ((a.length : Int) < (b.length : Int)) = false by simp; omega]; rfl
theorem cmpt_eq (n : Nat) (a b : Tr) (ha : (pre a).length < n + 1) (hb : (pre b).length < n + 1) (hn : n < 2 ^ 60) : z7n (n + 4) n a b = some (zkq a b) := by
 obtain ⟨k, s, mn, mx, l⟩ := a
 obtain ⟨k', s', mn', mx', l'⟩ := b
 have sub : ∀ (k : Nat) (s : BS) (mn mx : Int) (l : List Tr), (pre (Tr.mk k s mn mx l)).length < n + 1 → (∀ x ∈ l, (pre x).length < n) ∧ l.length < n := fun k s mn mx l h => by
  rw [pre, List.length_cons] at h
  exact ⟨fun x hx => by have := zcc hx; omega, by have := zao l; omega⟩
 obtain ⟨a1, a2⟩ := sub _ _ _ _ _ ha
 obtain ⟨b1, b2⟩ := sub _ _ _ _ _ hb
 have hf := cmpf_eq n l l' a1 b1 (by omega) (n + 4) (by omega)
 unfold z7n
 simp only [Tr.k, Tr.s, Tr.mn, Tr.mx, Tr.l, cmp8_eq, qlb, z0a, most_eq, bindE_some, hf]
 rw [show n + 4 = (n + 1) + 3 by omega, qmc, zkq]
 simp only [bindE_some]
 by_cases e : k = k'
 ·subst e
  refine zas (by simp) ?_
  simp only [ne_eq, not_true_eq_false, if_false]
  by_cases h2 : k = 2
  ·subst h2; rfl
  ·have e2 : (((k : Nat) : Int) == 2) = false := by simp; omega
   rw [e2, cond_false, if_neg h2]
   by_cases h5 : k = 5
   ·subst h5
    rw [if_pos rfl]
    rw [show ((((5 : Nat) : Int)) == 5) = true from rfl, cond_true]
    generalize zeq (zmv mn mn') (zmv (z4n mx) (z4n mx')) = c
    by_cases hc : c = 0
    ·subst hc; rfl
    ·rw [show (c != 0) = true by simpa using hc, zeq, if_pos hc]; rfl
   ·have e5 : (((k : Nat) : Int) == 5) = false := by simp; omega
    rw [e5, cond_false, if_neg h5]
    by_cases h0 : k = 0
    ·subst h0; rfl
    ·have e0 : (((k : Nat) : Int) == 0) = false := by simp; omega
     rw [e0, cond_false]
     by_cases h1 : k = 1
     ·subst h1; rfl
     ·have e1 : (((k : Nat) : Int) == 1) = false := by simp; omega
      rw [e1, if_neg (by omega)]; rfl
 ·refine zbk (by simp; omega) ?_
  rw [if_pos e]
theorem qhd : ∀ (n : Nat), n < 2 ^ 60 + 1 → ∀ a b : Tr, (pre a).length < n ∧ (pre b).length < n → Pure (ITP Tryz.prog) Tryz.prog 71 [.agg (Enc.cells a), .agg (Enc.cells b)] (.raw (.int .i64 (zkq a b)))
 | 0, _ => fun a b h => by omega
 | n + 1, hn => fun a b h => cmpt_sh (n + 4) n a b _ (fun x y hxy => qhd n (by omega) x y hxy) (cmpt_eq n a b h.1 h.2 (by omega))
theorem cmp_at (a b : Tr) (h : (pre a).length < 2 ^ 60 ∧ (pre b).length < 2 ^ 60) : Pure (ITP Tryz.prog) Tryz.prog 71 [.agg (Enc.cells a), .agg (Enc.cells b)] (.raw (.int .i64 (zkq a b))) := qhd (2 ^ 60) (by decide) a b h
theorem qag {ρ : Type} (M : Nat) (Z T : Int) (hZ : Z = M) (hT : T = M + 1) (lo hi : Int) (hlo : lo ≤ 0) (hhi : (M : Int) + 1 < hi) (l : List Tr) : ∀ (s : Nat), s ≤ M → zgm (β := Int) (ρ := Int ⊕ ρ) (fun s1 w1 => (chk (lo ≤ (s1 + 1) ∧ (s1 + 1) < hi) (bif (decide ((s1 + 1) > Z)) then (some (Sum.inr (Sum.inl ((s1 + 1))))) else (some (Sum.inl ((s1 + 1))))))) l (s : Int) = if s + l.length ≤ M then some (.inl ((s + l.length : Nat) : Int)) else some (.inr (.inl T)) := by
 induction l with
 | nil => intro s h; rw [if_pos (by simpa using h)]; rfl
 | cons x l ih =>
  intro s h
  have hb : (chk (lo ≤ ((s : Int) + 1) ∧ ((s : Int) + 1) < hi) (bif (decide (((s : Int) + 1) > Z)) then (some (Sum.inr (Sum.inl (((s : Int) + 1))))) else (some (Sum.inl (((s : Int) + 1))))) : Option (Int ⊕ (Int ⊕ ρ))) = if s + 1 ≤ M then some (.inl ((s + 1 : Nat) : Int)) else some (.inr (.inl T)) := by
   refine zm (by omega) ?_
   by_cases h1 : s + 1 ≤ M
   ·rw [if_pos h1, show decide ((s : Int) + 1 > Z) = false by simp; omega]; rfl
   ·rw [if_neg h1, show decide ((s : Int) + 1 > Z) = true by simp; omega, show ((s : Int) + 1) = T by omega]; rfl
  simp only [zgm, hb]
  rw [List.length_cons]
  by_cases h1 : s + 1 ≤ M
  ·simp only [if_pos h1]
   rw [ih (s + 1) h1]
   simp only [show s + 1 + l.length = s + (l.length + 1) by omega]
  ·simp only [if_neg h1]; rw [if_neg (by omega)]
theorem qjy (t : Tr) (h : (pre t).length < 2 ^ 61) : zxg t = some (zbq t) := by
 unfold zxg
 rw [zdf h, zbb, show (0 : Int) = ((0 : Nat) : Int) from rfl, qag 10000 10000 10001 (by omega) (by omega) _ _ (by omega) (by omega) (pre t) 0 (by omega)]
 unfold zbq
 by_cases h1 : (pre t).length ≤ 10000
 ·rw [if_pos (by omega)]
  show some _ = some _
  congr 1
  rw [Bool.eq_iff_iff]; simp; omega
 ·rw [if_neg (by omega)]
  show some _ = some _
  congr 1
  rw [Bool.eq_iff_iff]; simp; omega
theorem zkj (t : Tr) (h : (pre t).length < 2 ^ 61) : Pure (ITP Tryz.prog) Tryz.prog 62 [.agg (Enc.cells t)] (.raw (.bool (zbq t))) := qjm t _ (qjy t h)
theorem qjx (n : Nat) (a b : List Tr) (hab : a.length = b.length) (hl : a.length < 2 ^ 60) (ha : ∀ x ∈ a, (pre x).length < n) (hb : ∀ x ∈ b, (pre x).length < n) (m : Nat) (hm : a.length < m) : zxv m (qae n) a b = some (zjy a b) := by
 unfold zxv
 refine zas (by rw [hab]; simp) ?_
 refine qft a.length (fun i => (i : Int)) (fun i => some (zjy (a.drop i) (b.drop i))) hm fun i hi => ?_
 by_cases h : i < a.length
 ·have h2 : i < b.length := by omega
  have ea : a.drop i = a[i] :: a.drop (i + 1) := List.drop_eq_getElem_cons h
  have eb : b.drop i = b[i] :: b.drop (i + 1) := List.drop_eq_getElem_cons h2
  have hA := ha a[i] (List.getElem_mem h)
  have hB := hb b[i] (List.getElem_mem h2)
  cases h0 : zfa a[i] b[i] with
  | true =>
   refine .inl ⟨h, ?_, by simp only [ea, eb, zjy, h0, Bool.true_and]⟩
   refine zbk (by simpa using h) (zm ⟨by omega, by omega⟩ (zad fun x1 e1 => zm ⟨by omega, by omega⟩ (zad fun x2 e2 => ?_)))
   rw [znx h] at e1
   rw [znx h2] at e2
   subst e1 e2
   refine zbt true (by unfold qae q2; rw [if_pos ⟨hA, hB⟩, h0]) (zas rfl (zm (by omega) ?_))
   simp
  | false =>
   refine .inr ⟨.inr false, ?_, by simp only [ea, eb, zjy, h0]; rfl⟩
   refine zbk (by simpa using h) (zm ⟨by omega, by omega⟩ (zad fun x1 e1 => zm ⟨by omega, by omega⟩ (zad fun x2 e2 => ?_)))
   rw [znx h] at e1
   rw [znx h2] at e2
   subst e1 e2
   exact zbt false (by unfold qae q2; rw [if_pos ⟨hA, hB⟩, h0]) (zbk rfl rfl)
 ·refine .inr ⟨.inl (), zas (by simp; omega) rfl, ?_⟩
  rw [List.drop_of_length_le (by omega), List.drop_of_length_le (by omega)]
  rfl
theorem z7x : ∀ (a b : List Tr), a.length ≠ b.length → zjy a b = false
 | [], [], h => absurd rfl h
 | [], _ :: _, _ => rfl
 | _ :: _, [], _ => rfl
 | x :: a, y :: b, h => by rw [zjy, z7x a b (by simpa using h), Bool.and_false]
theorem qke (n : Nat) (a b : List Tr) (hl : a.length < 2 ^ 60) (ha : ∀ x ∈ a, (pre x).length < n) (hb : ∀ x ∈ b, (pre x).length < n) (m : Nat) (hm : a.length < m) : zxv m (qae n) a b = some (zjy a b) := by
 by_cases hab : a.length = b.length
 ·exact qjx n a b hab hl ha hb m hm
 ·unfold zxv
  rw [z7x a b hab]
  exact zbk (by simp; omega) rfl
theorem qjv (n : Nat) (a b : Tr) (ha : (pre a).length < n + 1) (hb : (pre b).length < n + 1) (hn : n < 2 ^ 60) : zxl (n + 1) n a b = some (zfa a b) := by
 obtain ⟨k, s, mn, mx, l⟩ := a
 obtain ⟨k', s', mn', mx', l'⟩ := b
 have sub : ∀ (k : Nat) (s : BS) (mn mx : Int) (l : List Tr), (pre (Tr.mk k s mn mx l)).length < n + 1 → (∀ x ∈ l, (pre x).length < n) ∧ l.length < n + 1 := fun k s mn mx l h => by
  rw [pre, List.length_cons] at h
  exact ⟨fun x hx => by have := zcc hx; omega, by have := zao l; omega⟩
 obtain ⟨a1, a2⟩ := sub _ _ _ _ _ ha
 obtain ⟨b1, b2⟩ := sub _ _ _ _ _ hb
 have hf := qke n l l' (by omega) a1 b1 (n + 1) (by omega)
 unfold zxl
 simp only [Tr.k, Tr.s, Tr.mn, Tr.mx, Tr.l, hf, bindE_some, zfa]
 by_cases hs : s = s' <;> cases (k : Int) == k' <;> cases mn == mn' <;> cases mx == mx' <;> simp [hs]
theorem z9d : ∀ (n : Nat), n < 2 ^ 60 + 1 → ∀ a b : Tr, (pre a).length < n ∧ (pre b).length < n → Pure (ITP Tryz.prog) Tryz.prog 65 [.agg (Enc.cells a), .agg (Enc.cells b)] (.raw (.bool (zfa a b)))
 | 0, _ => fun a b h => by omega
 | n + 1, hn => fun a b h => qjq (n + 1) n a b _ (fun x y hxy => z9d n (by omega) x y hxy) (qjv n a b h.1 h.2 (by omega))
theorem qdn (a b : Tr) (h : (pre a).length < 2 ^ 60 ∧ (pre b).length < 2 ^ 60) : Pure (ITP Tryz.prog) Tryz.prog 65 [.agg (Enc.cells a), .agg (Enc.cells b)] (.raw (.bool (zfa a b))) := z9d (2 ^ 60) (by decide) a b h
theorem qmw : Ent Tryz.prog 168 := enters_of Tryz.func168 (by kernel_rfl) rfl
set_option maxRecDepth 100000 in
set_option maxHeartbeats 4000000 in
theorem z6n (l : List Tr) (hl : List.isEmpty l = true) : Snd (ITP Tryz.prog) Tryz.prog 168 [.list (List.length l) (Enc.cellsL l) .none] St.empty (.list 0 [] .full) ⟨[], [], [], 0, false⟩ := by
 obtain rfl : l = [] := List.isEmpty_iff.1 hl
 obtain ⟨d, hd⟩ : ∃ d, Tryz.f168.body = some d := ⟨_, rfl⟩
 refine zqq mix Tryz.func168 hd qmw ?_
 cases hd
 refine zam (by dsimp only [zbe, Tryz.f168, List.length_cons, List.length_nil, Nat.zero_add, Nat.reduceAdd, Nat.reduceSub, List.replicate, List.cons_append, List.nil_append]) (by dsimp only [St.empty]) ?_
 refine zf (zb ?_)
 refine zuv (a := .list 0 [] .full) rfl rfl rfl rfl (by dsimp only [zab, List.set]) ?_
 refine zf ?_
 refine zf (zb ?_)
 refine zuv (a := .list 0 [] .none) rfl rfl rfl rfl (by dsimp only [zab, List.set]) ?_
 refine w_nil 0 false rfl rfl rfl ⟨_, _, _, _, _, rfl, .inl ⟨rfl, rfl⟩, rfl, .inl ⟨_, _, rfl⟩⟩ (by dsimp only [zab, List.set]) (by dsimp only [zab, List.set]) (fun h1 => ?_) ?_
 ·refine zby rfl ?_
  refine zf (zb ?_)
  refine zuv (a := .list 0 [] .full) rfl rfl rfl rfl (by dsimp only [zab, List.set]) ?_
  exact zrh (n := 0) (m := 0) [] [] 1 rfl rfl rfl rfl
 ·refine zcb rfl ?_
  refine zf (zb ?_)
  refine zuv (a := .list 0 [] .full) rfl rfl rfl rfl (by dsimp only [zab, List.set]) ?_
  refine zuv (a := .list 0 [] .none) rfl rfl rfl rfl (by dsimp only [zab, List.set]) ?_
  refine zuv (a := .list 0 [] .full) rfl rfl rfl rfl (by dsimp only [zab, List.set]) ?_
  refine zuv (a := .list 0 [] .full) rfl rfl rfl rfl (by dsimp only [zab, List.set]) ?_
  exact zrh (n := 0) (m := 0) [] [] 1 rfl rfl rfl rfl
set_option maxRecDepth 100000 in
set_option maxHeartbeats 4000000 in
theorem z2s (l : List Tr) (g : List.length l * 80 ≤ 140737488355328) (hl : List.isEmpty l = false) : Snd (ITP Tryz.prog) Tryz.prog 168 [.list (List.length l) (Enc.cellsL l) .none] St.empty (.bsl 0 0 (List.length l) 8 false) ⟨[(29, Enc.cellsL l)], [], [], 0, false⟩ := by
 have h0 : l ≠ [] := fun e => by rw [e] at hl; cases hl
 have hp := List.length_pos_iff.2 h0
 obtain ⟨d, hd⟩ : ∃ d, Tryz.f168.body = some d := ⟨_, rfl⟩
 refine zqq mix Tryz.func168 hd qmw ?_
 cases hd
 refine zam (by dsimp only [zbe, Tryz.f168, List.length_cons, List.length_nil, Nat.zero_add, Nat.reduceAdd, Nat.reduceSub, List.replicate, List.cons_append, List.nil_append]) (by dsimp only [St.empty]) ?_
 refine zf (zb ?_)
 refine zuv (a := .list 0 [] .full) rfl rfl rfl rfl (by dsimp only [zab, List.set]) ?_
 refine zf ?_
 refine zf (zb ?_)
 refine zuv (a := .list l.length (Enc.cellsL l) .none) rfl rfl rfl rfl (by dsimp only [zab, List.set]) ?_
 refine w_nil l.length false rfl rfl rfl ⟨_, _, _, _, _, rfl, .inl ⟨rfl, rfl⟩, rfl, .inl ⟨_, _, rfl⟩⟩ (by dsimp only [zab, List.set]) (by dsimp only [zab, List.set]) (fun h1 => ?_) ?_
 ·omega
 ·refine zcb rfl ?_
  refine zf (zb ?_)
  refine zuv (a := .list 0 [] .full) rfl rfl rfl rfl (by dsimp only [zab, List.set]) ?_
  refine zuv (a := .list l.length (Enc.cellsL l) .none) rfl rfl rfl rfl (by dsimp only [zab, List.set]) ?_
  refine zmc rfl rfl rfl (z7l rfl rfl rfl rfl rfl rfl rfl rfl rfl (zoo ⟨rfl, Enc.lenL l, by decide⟩) ⟨by decide, rfl, hp⟩ ⟨rfl, by unfold maxLen; omega, by show (0 + l.length) * 80 ≤ _; omega⟩) (by dsimp only [zab, List.set]) rfl ?_
  refine zuv rfl rfl rfl rfl (by dsimp only [zab, List.set, zej, List.getElem?_cons_zero, List.getElem?_cons_succ, Option.getD]) ?_
  refine zrh (n := 0) (m := 0) [] [0] 1 rfl rfl ?_ ?_
  ·rw [Nat.zero_add]; rfl
  ·exact zdk (zaf (cs := Enc.cellsL l) rfl (zah _ _ _ (Enc.cloL _)) zcl) rfl
theorem qan (l : List Tr) (hl : List.isEmpty l = true) (σ : St) : Snd (ITP Tryz.prog) Tryz.prog 168 [.list (List.length l) (Enc.cellsL l) .none] σ (.list 0 [] .full) σ := by
 have h := z8w (zap _) (z6n l hl) (args := [.list l.length (Enc.cellsL l) .none]) (by rw [stripL, zcs, Enc.stripL]; rfl) (by rw [zw, zbc, zk _ _ (Enc.cloL l)]; rfl) σ
 simpa [zln, zbm, qkk, shz, zhp] using h
theorem z5d (l : List Tr) (g : List.length l * 80 ≤ 140737488355328) (hl : List.isEmpty l = false) (n : Nat) (σ : St) (hσ : σ.boxes.length = n) : Snd (ITP Tryz.prog) Tryz.prog 168 [.list (List.length l) (Enc.cellsL l) .none] σ (.bsl n 0 (List.length l) 8 false) { σ with boxes := σ.boxes ++ [(29, Enc.cellsL l)] } := by
 subst hσ
 have h := z8w (zap _) (z2s l g hl) (args := [.list l.length (Enc.cellsL l) .none]) (by rw [stripL, zcs, Enc.stripL]; rfl) (by rw [zw, zbc, zk _ _ (Enc.cloL l)]; rfl) σ
 simpa [zln, zbm, qkk, shz, zhp, zah _ _ _ (Enc.cloL l)] using h
end Go.Ab
