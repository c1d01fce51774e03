/-
  slices.Clone of nodes.
-/
import Derived.Test.YtmoncghgagmilaaZnV1
import Derived.Test.YtmoncghgagmilaaZdQr
import Derived.Test.YtmoncghgagmilaaZdCq
set_option linter.unusedSimpArgs false
set_option linter.unusedVariables false
set_option maxRecDepth 100000
set_option maxHeartbeats 4000000
namespace Go.Ab
open Go Go.RowKit Go.Fwd Go.Proofs
def q2 {α : Type} (f : Tr → Tr → α) (n : Nat) (x y : Tr) : Option α := if (pre x).length < n ∧ (pre y).length < n then some (f x y) else none
def zzt : Nat → Tr → Tr → Option Bool := q2 zim
def qcmp : Nat → Tr → Tr → Option Int := q2 zf1
theorem z8m {α : Type} {f : Tr → Tr → α} {n : Nat} {x y : Tr} {z : α} (h : q2 f n x y = some z) : ((pre x).length < n ∧ (pre y).length < n) ∧ z = f x y := by
 unfold q2 at h
 split at h
 ·rename_i h1; exact ⟨h1, (Option.some.inj h).symm⟩
 ·cases h
def zso (t : Tr) : Option Bool :=
 (zdo (τ := Int) (chk ((pre t).length < 2 ^ 61) (zan (pre t) (fun x1 => (zdo (zg2 (β := Int) (fun s1 w1 => (chk (-9223372036854775808 ≤ (s1 + 1) ∧ (s1 + 1) < 9223372036854775808) (bif (decide ((s1 + 1) > 10000)) then (some (Sum.inr (Sum.inl ((s1 + 1))))) else (some (Sum.inl ((s1 + 1))))))) x1 (0)) (fun s1 => (some (Sum.inl (s1)))))))) (fun j1 => (some (decide (j1 ≤ 10000)))))
theorem ent32 : Ent Try.prog 32 := enters_of Try.func32 (by kernel_rfl) rfl
theorem z5f (t : Tr) (r : Bool) (h : zso t = some r) : Pure (ITP Try.prog) Try.prog 32 [.A (t : Tr)] (.raw (.bool r)) := by
 unfold zso at h
 refine zaw 12 mix Try.func32 ent32 ?_
 refine ze (zc ?_)
 refine zbc (a := .ptr 0 0) (σ'' := (.B [(30, (Enc.cells (t : Tr)))])) ?_
 refine w_o (a := .b false) ?_
 refine z3c ?_
 refine ze (zc ?_)
 refine zbc (a := .ptr 1 0) (σ'' := (.B [(30, (Enc.cells (t : Tr))), (3, [.i 0])])) ?_
 refine zbk 1 (.B [(30, (Enc.cells (t : Tr))), (3, [.i 0])]) ?_
 refine ze ?_
 refine z3n ?_
 refine za0 h (bz 0 13 8183) (fun j1 => []) (fun j1 => (.B [(30, (Enc.cells (t : Tr))), (3, [.i j1])])) ?_ ?_
 intro or1 h hr1
 refine zw [.v (.A (t : Tr))] ?_
 obtain ⟨g1, h⟩ := zh h
 obtain ⟨x1, hx1, h⟩ := zj h
 refine zbs (args' := [.A (t : Tr)]) (r := .iter (List.map zvq x1)) (by rw [← hx1]; exact (z35 t g1)) ?_
 refine zr ?_
 refine znq h zvq (fun s1 => (.B [(30, (Enc.cells (t : Tr))), (3, [.i s1])])) rfl (fun _ => rfl) rfl rfl ?_ ?_
 intro s1 w1 p1 h
 refine zam (by dsimp only [znf, List.zip, List.zipWith, List.foldl, List.set, Array.toList]) rfl ?_
 refine zr ?_
 refine zw [.v (.i s1)] ?_
 obtain ⟨g2, h⟩ := zh h
 refine zwt g2 ?_
 refine zbk 1 (.B [(30, (Enc.cells (t : Tr))), (3, [.i (s1 + 1)])]) ?_
 refine zw [.v (.i (s1 + 1)), .v (.b (decide ((s1 + 1) > 10000)))] ?_
 refine zbu h (fun hc1 h => ?_) (fun hc1 h => ?_)
 refine zae h (fun h => ⟨(zba (zv (zo _ _ (Enc.clo _)) (zv (by kernel_rfl) rfl))), ?_⟩)
 refine zg (o := or1) ((s1 + 1)) h ?_
 exact zc7 (bl 13 8)
 exact zl8 (p := p1) ((s1 + 1)) h (zba (zv (zo _ _ (Enc.clo _)) (zv (by kernel_rfl) rfl))) (by kernel_rfl)
 intro s1 h
 refine zg (o := or1) (s1) h ?_
 exact zc7 (bl 13 8)
 intro j1 h
 refine zf8 ?_
 refine zw [.v (.i j1), .v (.b (decide (j1 ≤ 10000))), .m _] ?_
 exact za4 h
def zrw (fuel : Nat) (n : Nat) (a : Tr) (b : Tr) : Option Bool :=
 (bif (((a.k : Nat) : Int) == ((b.k : Nat) : Int)) then (bif (decide (a.s = b.s)) then (bif (a.mn == b.mn) then (bif (a.mx == b.mx) then (za3 (zw3 fuel (zzt n) a.l b.l) (fun x1 => (some x1))) else (some false)) else (some false)) else (some false)) else (some false))
theorem ent33 : Ent Try.prog 33 := enters_of Try.func33 (by kernel_rfl) rfl
theorem z6i (fuel : Nat) (n : Nat) (a : Tr) (b : Tr) (r : Bool) (ih : ∀ x y : Tr, (pre x).length < n ∧ (pre y).length < n → Pure (ITP Try.prog) Try.prog 33 [.A x, .A y] (.raw (.bool (zim x y)))) (h : zrw fuel n a b = some r) : Pure (ITP Try.prog) Try.prog 33 [.A (a : Tr), .A (b : Tr)] (.raw (.bool r)) := by
 unfold zrw at h
 refine zaw 36 mix Try.func33 ent33 ?_
 refine ze (zc ?_)
 refine zbc (a := .ptr 0 0) (σ'' := (.B [(30, (Enc.cells (a : Tr)))])) ?_
 refine zbc (a := .ptr 1 0) (σ'' := (.B [(30, (Enc.cells (a : Tr))), (30, (Enc.cells (b : Tr)))])) ?_
 refine w_o (a := .b false) ?_
 refine zw [.v (.ptr 0 0), .v (.u ((a.k : Nat) : Int)), .v (.ptr 1 0), .v (.u ((b.k : Nat) : Int)), .v (.b (((a.k : Nat) : Int) == ((b.k : Nat) : Int)))] ?_
 refine zu h (fun hc1 h => ?_) (fun hc1 h => ?_)
 refine zau hc1 ?_
 refine w_r [.v (.ptr 0 1), .v (.A (a.s : BS)), .v (.ptr 1 1), .v (.A (b.s : BS))] ?_
 refine zac rfl rfl ?_
 refine zj6 (.b (decide (a.s = b.s))) rfl rfl rfl (zzm a.s b.s rfl rfl rfl) (by dsimp only [zn, List.set]) ?_
 refine w_o (a := .b (decide (a.s = b.s))) ?_
 refine zu h (fun hc2 h => ?_) (fun hc2 h => ?_)
 refine zau hc2 ?_
 refine w_r [.v (.ptr 0 5), .v (.i a.mn), .v (.ptr 1 5), .v (.i b.mn), .v (.b (a.mn == b.mn))] ?_
 refine w_r [.v (.b (a.mn == b.mn))] ?_
 refine zu h (fun hc3 h => ?_) (fun hc3 h => ?_)
 refine zau hc3 ?_
 refine w_r [.v (.ptr 0 6), .v (.i a.mx), .v (.ptr 1 6), .v (.i b.mx), .v (.b (a.mx == b.mx))] ?_
 refine w_r [.v (.b (a.mx == b.mx))] ?_
 refine zu h (fun hc4 h => ?_) (fun hc4 h => ?_)
 refine zau hc4 ?_
 refine w_r [.v (.ptr 0 7), .v (.L (a.l : List Tr)), .v (.ptr 1 7), .v (.L (b.l : List Tr))] ?_
 refine zac rfl rfl ?_
 obtain ⟨x1, hx1, h⟩ := zaa h
 refine za1 (args' := [.L (a.l : List Tr), .L (b.l : List Tr), .clos 33 []]) (r := .b x1) (eqf_sh fuel (zzt n) a.l b.l x1 33 (fun x y z h => by obtain ⟨h1, rfl⟩ := z8m h; exact ih x y h1) hx1) rfl rfl (zf (zds (Enc.cloL _)) (zf (zds (Enc.cloL _)) (zf (show AV.clos _ (stripL _) = _ from congrArg (AV.clos _) rfl) rfl))) (zb (zah (Enc.cloL _)) (zb (zah (Enc.cloL _)) (zb (show z7 _ _ = true from rfl) rfl))) (by dsimp only [zn, List.set]) ?_
 refine w_r [.v (.b x1), .m _] ?_
 exact za4 h
 refine zau hc4 ?_
 refine w_r [.p, .p, .p, .p, .p] ?_
 refine w_r [.v (.b false), .m _] ?_
 exact za4 h
 refine zau hc3 ?_
 refine w_r [.p, .p, .p, .p, .p] ?_
 refine w_r [.v (.b false), .m _, .p, .p, .p] ?_
 refine w_r [.p, .p, .v (.b false), .m _] ?_
 exact za4 h
 refine zau hc2 ?_
 refine w_r [.p, .p, .p, .p, .p] ?_
 refine w_r [.v (.b false), .m _, .p, .p, .p] ?_
 refine w_r [.p, .p, .v (.b false), .m _, .p] ?_
 refine w_r [.p, .p, .p, .p, .v (.b false)] ?_
 refine w_r [.m _] ?_
 exact za4 h
 refine zau hc1 ?_
 refine w_r [.p, .p, .p, .p, .p] ?_
 refine w_r [.v (.b false), .m _, .p, .p, .p] ?_
 refine w_r [.p, .p, .v (.b false), .m _, .p] ?_
 refine w_r [.p, .p, .p, .p, .v (.b false)] ?_
 refine w_r [.m _, .p, .p, .p, .p] ?_
 refine w_r [.p, .v (.b false), .m _] ?_
 exact za4 h
def zpi (s : BS) : Option (Int × Bool) :=
 (zdo (τ := Unit) (zan (els s) (fun x1 => (zdo (zg2 (β := Unit) (fun s1 w1 => (some (Sum.inr (Sum.inr (w1, true))))) x1 ()) (fun s1 => (some (Sum.inl ())))))) (fun j1 => (some (0, false))))
theorem ent95 : Ent Try.prog 95 := enters_of Try.func95 (by kernel_rfl) rfl
theorem z5m (s : BS) (r : (Int × Bool)) (h : zpi s = some r) : Pure (ITP Try.prog) Try.prog 95 [.A (s : BS)] (.tup [.raw (.int .u8 r.1), .raw (.bool r.2)]) := by
 unfold zpi at h
 refine zaw 8 mix Try.func95 ent95 ?_
 refine ze (zc ?_)
 refine zbc (a := .ptr 0 0) (σ'' := (.B [(28, (Enc.cells (s : BS)))])) ?_
 refine zbc (a := .ptr 1 0) (σ'' := (.B [(28, (Enc.cells (s : BS))), (5, [.u 0])])) ?_
 refine zbc (a := .ptr 2 0) (σ'' := (.B [(28, (Enc.cells (s : BS))), (5, [.u 0]), (4, [.b false])])) ?_
 refine za0 h (bz 0 9 499) (fun j1 => []) (fun j1 => (.B [(28, (Enc.cells (s : BS))), (5, [.u 0]), (4, [.b false])])) ?_ ?_
 intro or1 h hr1
 refine zw [.v (.A (s : BS))] ?_
 obtain ⟨x1, hx1, h⟩ := zj h
 refine zbs (args' := [.A (s : BS)]) (r := .iter (List.map z6r x1)) (by rw [← hx1]; exact (k_all s)) ?_
 refine zr ?_
 refine znq h z6r (fun s1 => (.B [(28, (Enc.cells (s : BS))), (5, [.u 0]), (4, [.b false])])) rfl (fun _ => rfl) rfl rfl ?_ ?_
 intro s1 w1 p1 h
 refine zam (by dsimp only [znf, List.zip, List.zipWith, List.foldl, List.set, Array.toList]) rfl ?_
 refine zc (k0 := 0) (id := 2) ?_
 refine zab ?_
 refine zr ?_
 refine zw [.m _] ?_
 refine zbk 1 (.B [(28, (Enc.cells (s : BS))), (5, [.u w1]), (4, [.b false])]) ?_
 refine zbk 1 (.B [(28, (Enc.cells (s : BS))), (5, [.u w1]), (4, [.b true])]) ?_
 refine zae h (fun h => ⟨(zba (zv (zo _ _ (Enc.clo _)) (zv (by kernel_rfl) (zv (by kernel_rfl) rfl)))), ?_⟩)
 replace h := zp h hr1
 exact zal (fun (r : (Int × Bool)) => .tup [.u r.1, .b r.2]) h (.tup [.u w1, .b true])
 intro s1 h
 refine zg (o := or1) () h ?_
 exact zc7 (bl 9 12)
 intro j1 h
 refine zf8 ?_
 refine ze (zc ?_)
 refine zbk 1 (.B [(28, (Enc.cells (s : BS))), (5, [.u 0]), (4, [.b false])]) ?_
 refine zbk 1 (.B [(28, (Enc.cells (s : BS))), (5, [.u 0]), (4, [.b false])]) ?_
 exact zal (fun (r : (Int × Bool)) => .tup [.u r.1, .b r.2]) h (.tup [.u 0, .b false])
def zkq (a : BS) (b : BS) : Option Int :=
 (zan (a &&& ~~~b) (fun x1 => (zan (b &&& ~~~a) (fun x2 => (zan (x1 ||| x2) (fun x3 => (za3 (zpi x3) (fun x4 => (bif (!x4.2) then (some 0) else (za3 (zqv a x4.1) (fun x5 => (bif x5 then (some (-1)) else (some 1)))))))))))))
theorem ent84 : Ent Try.prog 84 := enters_of Try.func84 (by kernel_rfl) rfl
theorem z4h (a : BS) (b : BS) (r : Int) (h : zkq a b = some r) : Pure (ITP Try.prog) Try.prog 84 [.A (a : BS), .A (b : BS)] (.raw (.int .i64 r)) := by
 unfold zkq at h
 refine zaw 23 mix Try.func84 ent84 ?_
 refine ze (zc ?_)
 refine zbc (a := .ptr 0 0) (σ'' := (.B [(28, (Enc.cells (a : BS)))])) ?_
 refine zbc (a := .ptr 1 0) (σ'' := (.B [(28, (Enc.cells (a : BS))), (28, (Enc.cells (b : BS)))])) ?_
 refine w_o (a := .i 0) ?_
 refine ze ?_
 refine zcw (k0 := 0) (id := 1) 12 (by kernel_rfl) (by kernel_rfl) ?_
 refine h_o (a := .A (a : BS)) ?_
 refine h_o (a := .A (b : BS)) ?_
 obtain ⟨x1, hx1, h⟩ := zj h
 refine zni (args' := [.A (a : BS), .A (b : BS)]) (r := .A (x1 : BS)) (by rw [← hx1]; exact (z8d a b)) ?_
 refine h_o (a := .A (b : BS)) ?_
 refine h_o (a := .A (a : BS)) ?_
 obtain ⟨x2, hx2, h⟩ := zj h
 refine zni (args' := [.A (b : BS), .A (a : BS)]) (r := .A (x2 : BS)) (by rw [← hx2]; exact (z8d b a)) ?_
 obtain ⟨x3, hx3, h⟩ := zj h
 refine zni (args' := [.A (x1 : BS), .A (x2 : BS)]) (r := .A (x3 : BS)) (by rw [← hx3]; exact (k_or2 x1 x2)) ?_
 obtain ⟨x4, hx4, h⟩ := zaa h
 refine zni (z5m x3 x4 hx4) ?_
 refine zgc ?_
 refine h_ex ?_
 refine h_ex ?_
 refine zgc ?_
 refine zdr ?_
 refine zab ?_
 refine ze ?_
 refine zr ?_
 refine zw [.m _, .v (.b (!x4.2)), .m _] ?_
 refine zbu h (fun hc1 h => ?_) (fun hc1 h => ?_)
 refine zw [.v (.i 0)] ?_
 exact zd0 h
 refine zw [.v (.A (a : BS)), .m _] ?_
 obtain ⟨x5, hx5, h⟩ := zaa h
 refine zbs (z2z a x4.1 x5 hx5) ?_
 refine zab ?_
 refine zbu h (fun hc2 h => ?_) (fun hc2 h => ?_)
 refine zw [.v (.i (-1))] ?_
 exact zd0 h
 refine zw [.v (.i 1)] ?_
 exact zd0 h
def zyt (fuel : Nat) (n : Nat) (a : Tr) (b : Tr) : Option Int :=
 (bif (((a.k : Nat) : Int) != ((b.k : Nat) : Int)) then (za3 (zue ((a.k : Nat) : Int) ((b.k : Nat) : Int)) (fun x1 => (some x1))) else (zdo (τ := Unit) (bif (((a.k : Nat) : Int) == 2) then (za3 (zkq a.s b.s) (fun x2 => (some (Sum.inr x2)))) else (bif (((a.k : Nat) : Int) == 5) then (za3 (zlr a.mn b.mn) (fun x3 => (za3 (zq6 a) (fun x4 => (za3 (zq6 b) (fun x5 => (za3 (zlr x4 x5) (fun x6 => (za3 (zpn fuel ([x3, x6] : List Int)) (fun x7 => (bif (x7 != 0) then (some (Sum.inr x7)) else (some (Sum.inl ()))))))))))))) else (zdo (τ := Bool) (bif (((a.k : Nat) : Int) == 0) then (some (Sum.inl ((((a.k : Nat) : Int) == 0)))) else (some (Sum.inl ((((a.k : Nat) : Int) == 1))))) (fun j2 => (bif j2 then (some (Sum.inr 0)) else (some (Sum.inl ()))))))) (fun j1 => (za3 (z1r fuel (qcmp n) a.l b.l) (fun x8 => (some x8))))))
theorem ent72 : Ent Try.prog 72 := enters_of Try.func72 (by kernel_rfl) rfl
theorem cmpt_sh (fuel : Nat) (n : Nat) (a : Tr) (b : Tr) (r : Int) (ih : ∀ x y : Tr, (pre x).length < n ∧ (pre y).length < n → Pure (ITP Try.prog) Try.prog 72 [.A x, .A y] (.raw (.int .i64 (zf1 x y)))) (h : zyt fuel n a b = some r) : Pure (ITP Try.prog) Try.prog 72 [.A (a : Tr), .A (b : Tr)] (.raw (.int .i64 r)) := by
 unfold zyt at h
 refine zaw 48 mix Try.func72 ent72 ?_
 refine ze (zc ?_)
 refine zbc (a := .ptr 0 0) (σ'' := (.B [(30, (Enc.cells (a : Tr)))])) ?_
 refine zbc (a := .ptr 1 0) (σ'' := (.B [(30, (Enc.cells (a : Tr))), (30, (Enc.cells (b : Tr)))])) ?_
 refine w_o (a := .i 0) ?_
 refine ze ?_
 refine zw [.v (.ptr 0 0), .v (.u ((a.k : Nat) : Int)), .v (.ptr 1 0), .v (.u ((b.k : Nat) : Int)), .v (.b (((a.k : Nat) : Int) != ((b.k : Nat) : Int)))] ?_
 refine zbu h (fun hc1 h => ?_) (fun hc1 h => ?_)
 refine zw [.v (.ptr 0 0), .v (.u ((a.k : Nat) : Int)), .v (.ptr 1 0), .v (.u ((b.k : Nat) : Int))] ?_
 obtain ⟨x1, hx1, h⟩ := zaa h
 refine zbs (cmp8_sh ((a.k : Nat) : Int) ((b.k : Nat) : Int) x1 hx1) ?_
 refine zab ?_
 exact zd0 h
 refine za0 h (bz 0 50 1125899906842611) (fun j1 => []) (fun j1 => (.B [(30, (Enc.cells (a : Tr))), (30, (Enc.cells (b : Tr)))])) ?_ ?_
 intro or1 h hr1
 refine zw [.v (.ptr 0 0), .v (.u ((a.k : Nat) : Int))] ?_
 refine zr ?_
 refine zw [.v (.b (((a.k : Nat) : Int) == 2)), .m _] ?_
 refine zbu h (fun hc2 h => ?_) (fun hc2 h => ?_)
 refine zw [.v (.ptr 0 1), .v (.A (a.s : BS)), .v (.ptr 1 1), .v (.A (b.s : BS))] ?_
 obtain ⟨x2, hx2, h⟩ := zaa h
 refine zbs (z4h a.s b.s x2 hx2) ?_
 refine zab ?_
 replace h := zp h hr1
 exact zd0 h
 refine zw [.v (.b (((a.k : Nat) : Int) == 5)), .m _] ?_
 refine zbu h (fun hc3 h => ?_) (fun hc3 h => ?_)
 refine ze ?_
 refine zcw (k0 := 0) (id := 7) 8 (by kernel_rfl) (by kernel_rfl) ?_
 refine h_o (a := .ptr 0 5) ?_
 refine h_o (a := .i a.mn) ?_
 refine h_o (a := .ptr 1 5) ?_
 refine h_o (a := .i b.mn) ?_
 obtain ⟨x3, hx3, h⟩ := zaa h
 refine zni (zyg a.mn b.mn x3 hx3) ?_
 refine h_o (a := .A (a : Tr)) ?_
 obtain ⟨x4, hx4, h⟩ := zaa h
 refine zni (z31 a x4 hx4) ?_
 refine h_o (a := .A (b : Tr)) ?_
 refine zdr ?_
 obtain ⟨x5, hx5, h⟩ := zaa h
 refine zbs (z31 b x5 hx5) ?_
 obtain ⟨x6, hx6, h⟩ := zaa h
 refine zbs (zyg x4 x5 x6 hx6) ?_
 refine w_o (a := .F (([x3, x6] : List Int) : List Int)) (h := za2 (zcj (α := Int) (l := [x3, x6]) (cs := Enc.cells (x3 : Int) ++ (Enc.cells (x6 : Int) ++ [])) rfl (by rw [Enc.cons, Enc.cons, Enc.nil]))) ?_
 obtain ⟨x7, hx7, h⟩ := zaa h
 refine zbs (z6q fuel ([x3, x6] : List Int) x7 hx7) ?_
 refine zab ?_
 refine zw [.m _, .v (.b (x7 != 0))] ?_
 refine zbu h (fun hc4 h => ?_) (fun hc4 h => ?_)
 refine zw [.m _, .m _] ?_
 replace h := zp h hr1
 exact zd0 h
 refine zg (o := or1) () h ?_
 exact zc7 (bl 50 12)
 refine za0 h (bz 0 50 1125899906842611) (fun j2 => [(42, .b j2)]) (fun j2 => (.B [(30, (Enc.cells (a : Tr))), (30, (Enc.cells (b : Tr)))])) ?_ ?_
 intro or2 h hr2
 refine zw [.v (.b (((a.k : Nat) : Int) == 0)), .m _] ?_
 refine zbu h (fun hc5 h => ?_) (fun hc5 h => ?_)
 refine zg (o := or2) ((((a.k : Nat) : Int) == 0)) h ?_
 exact zc7 (bl 50 4398046511116)
 refine zc (k0 := 0) (id := 11) ?_
 refine w_r [.v (.b (((a.k : Nat) : Int) == 1)), .m _] ?_
 refine zg (o := or2) ((((a.k : Nat) : Int) == 1)) h ?_
 exact zc7 (bl 50 4398046511116)
 intro j2 h
 refine zf8 ?_
 refine zbu h (fun hc6 h => ?_) (fun hc6 h => ?_)
 refine zw [.v (.i 0)] ?_
 replace h := zp h hr1
 exact zd0 h
 refine zg (o := or1) () h ?_
 exact zc7 (bl 50 12)
 intro j1 h
 refine zf8 ?_
 refine zw [.v (.ptr 0 7), .v (.L (a.l : List Tr)), .v (.ptr 1 7), .v (.L (b.l : List Tr))] ?_
 obtain ⟨x8, hx8, h⟩ := zaa h
 refine za1 (args' := [.L (a.l : List Tr), .L (b.l : List Tr), .clos 72 []]) (r := .i x8) (cpf_sh fuel (qcmp n) a.l b.l x8 72 (fun x y z h => by obtain ⟨h1, rfl⟩ := z8m h; exact ih x y h1) hx8) rfl rfl (zf (zds (Enc.cloL _)) (zf (zds (Enc.cloL _)) (zf (show AV.clos _ (stripL _) = _ from congrArg (AV.clos _) rfl) rfl))) (zb (zah (Enc.cloL _)) (zb (zah (Enc.cloL _)) (zb (show z7 _ _ = true from rfl) rfl))) (by dsimp only [zn, List.set]) ?_
 refine zab ?_
 exact zd0 h
end Go.Ab
set_option linter.unusedSimpArgs false
set_option linter.unusedVariables false
namespace Go.Ab
open Go Go.RowKit Go.Fwd Go.Proofs
theorem z5v (s : BS) : zpi s = some (match els s with | [] => (0, false) | c :: _ => (c, true)) := by
 unfold zpi
 rw [zan]
 generalize els s = l
 cases l with
 | nil => rfl
 | cons c l => rfl
theorem z18 (a b : BS) : zkq a b = some (cmpS a b) := by
 unfold zkq
 rw [zan, zan, zan, z5v]
 generalize hd : (a &&& ~~~b) ||| (b &&& ~~~a) = d
 have hf := z0k a.getLsbD b.getLsbD d.getLsbD (List.range 256) (fun j hj => by
  have hj := List.mem_range.1 hj
  rw [← hd]
  simp only [BitVec.getLsbD_or, BitVec.getLsbD_and, BitVec.getLsbD_not, hj, decide_true, Bool.true_and]
  cases a.getLsbD j <;> cases b.getLsbD j <;> rfl)
 rw [cmpS, hf]
 have he : els d = ((List.range 256).filter fun j => d.getLsbD j).map fun (j : Nat) => (j : Int) := rfl
 rw [he]
 have hm : ∀ c ∈ (List.range 256).filter (fun j => d.getLsbD j), c < 256 := fun c hc => List.mem_range.1 (List.mem_filter.1 hc).1
 rw [show (List.range 256).filter d.getLsbD = (List.range 256).filter (fun j => d.getLsbD j) from rfl]
 revert hm
 generalize (List.range 256).filter (fun j => d.getLsbD j) = l
 intro hm
 cases l with
 | nil => rfl
 | cons c l =>
  refine zet _ rfl (zbv rfl ?_)
  refine zet (a.getLsbD c) (z23 a c (hm c (by simp))) ?_
  cases h : a.getLsbD c
  ·simp [h]
  ·simp [h]
theorem z6d (x y : Int) : zlr x y = some (zka x y) := by
 unfold zlr zoz zka
 simp only [bindE_some, bne_self_eq_false, cond_false]
 by_cases h : x < y
 ·simp [h]
 ·by_cases h2 : x > y
  ·simp [h, h2]
  ·simp [h, h2]
theorem cmp8_eq (x y : Int) : zue x y = some (zka x y) := by
 unfold zue zle zka
 simp only [bindE_some, bne_self_eq_false, cond_false]
 by_cases h : x < y
 ·simp [h]
 ·by_cases h2 : x > y
  ·simp [h, h2]
  ·simp [h, h2]
theorem most_eq (t : Tr) : zq6 t = some (zxr t.mx) := by
 unfold zq6 zxr
 by_cases h : t.mx = -1
 ·simp [h]
 ·rw [show (t.mx == -1) = false by simpa using h, if_neg h]; rfl
theorem z6e (n : Nat) (x y : Int) : zpn (n + 3) [x, y] = some (zdt x y) := by
 unfold zpn zdt
 by_cases hx : x = 0
 ·by_cases hy : y = 0
  ·subst hx hy; rfl
  ·subst hx
   have : (y != 0) = true := by simpa using hy
   simp [zch, chk, ix, this]
 ·have : (x != 0) = true := by simpa using hx
  simp [zch, chk, ix, this, hx]
theorem cmpf_eq (n : Nat) (a b : List Tr) (ha : ∀ x ∈ a, (pre x).length < n) (hb : ∀ x ∈ b, (pre x).length < n) (hl : a.length < 2 ^ 60) (m : Nat) (hm : a.length < m) : z1r m (qcmp n) a b = some (zhv a b) := by
 unfold z1r
 refine z27 a.length (fun i => (i : Int)) (fun i => some (zhv (a.drop i) (b.drop i))) hm fun i hi => ?_
 by_cases h : i < a.length
 ·have ea : a.drop i = a[i] :: a.drop (i + 1) := List.drop_eq_getElem_cons h
  by_cases h2 : i < b.length
  ·have eb : b.drop i = b[i] :: b.drop (i + 1) := List.drop_eq_getElem_cons h2
   have hA := ha a[i] (List.getElem_mem h)
   have hB := hb b[i] (List.getElem_mem h2)
   by_cases h0 : zf1 a[i] b[i] = 0
   ·refine .inl ⟨h, ?_, by simp only [ea, eb, zhv, zdt, h0]; simp⟩
    refine zby (by simpa using h) (zt ⟨by omega, by omega⟩ (zaj fun x1 e1 => zbv (by simp; omega) (zt ⟨by omega, by omega⟩ (zaj fun x2 e2 => ?_))))
    rw [zm5 h] at e1
    rw [zm5 h2] at e2
    subst e1 e2
    refine zet (zf1 a[i] b[i]) (if_pos ⟨hA, hB⟩) (zbv (by rw [h0]; rfl) (zt (by omega) ?_))
    simp
   ·refine .inr ⟨.inr (zf1 a[i] b[i]), ?_, by simp only [ea, eb, zhv, zdt]; rw [if_pos h0]; rfl⟩
    refine zby (by simpa using h) (zt ⟨by omega, by omega⟩ (zaj fun x1 e1 => zbv (by simp; omega) (zt ⟨by omega, by omega⟩ (zaj fun x2 e2 => ?_))))
    rw [zm5 h] at e1
    rw [zm5 h2] at e2
    subst e1 e2
    refine zet (zf1 a[i] b[i]) (if_pos ⟨hA, hB⟩) (zby (by simpa using h0) ?_)
    rfl
  ·refine .inr ⟨.inr 1, ?_, ?_⟩
   ·exact zby (by simpa using h) (zt ⟨by omega, by omega⟩ (zaj fun x1 e1 => zby (by simp; omega) rfl))
   ·show some 1 = some (zhv (a.drop i) (b.drop i))
    rw [ea, List.drop_of_length_le (show b.length ≤ i by omega), zhv]
 ·refine .inr ⟨.inl (), zbv (by simp; omega) rfl, ?_⟩
  have ea : a.drop i = [] := List.drop_of_length_le (by omega)
  show (bif decide ((a.length : Int) < (b.length : Int)) then some (-1) else some 0) = some (zhv (a.drop i) (b.drop i))
  rw [ea]
  by_cases h2 : a.length < b.length
  ·have eb : b.drop i = b[i] :: b.drop (i + 1) := List.drop_eq_getElem_cons (by omega)
   rw [eb, zhv, show decide ((a.length : Int) < (b.length : Int)) = true by simp; omega]; rfl
  ·rw [List.drop_of_length_le (show b.length ≤ i by omega), zhv, show decide ((a.length : Int) < (b.length : Int)) = false by simp; omega]; rfl
theorem cmpt_eq (n : Nat) (a b : Tr) (ha : (pre a).length < n + 1) (hb : (pre b).length < n + 1) (hn : n < 2 ^ 60) : zyt (n + 4) n a b = some (zf1 a b) := by
 obtain ⟨k, s, mn, mx, l⟩ := a
 obtain ⟨k', s', mn', mx', l'⟩ := b
 have sub : ∀ (k : Nat) (s : BS) (mn mx : Int) (l : List Tr), (pre (Tr.mk k s mn mx l)).length < n + 1 → (∀ x ∈ l, (pre x).length < n) ∧ l.length < n := fun k s mn mx l h => by
  rw [pre, List.length_cons] at h
  exact ⟨fun x hx => by have := zbr hx; omega, by have := zag l; omega⟩
 obtain ⟨a1, a2⟩ := sub _ _ _ _ _ ha
 obtain ⟨b1, b2⟩ := sub _ _ _ _ _ hb
 have hf := cmpf_eq n l l' a1 b1 (by omega) (n + 4) (by omega)
 unfold zyt
 simp only [Tr.k, Tr.s, Tr.mn, Tr.mx, Tr.l, cmp8_eq, z6d, z18, most_eq, bindE_some, hf]
 rw [show n + 4 = (n + 1) + 3 by omega, z6e, zf1]
 simp only [bindE_some]
 by_cases e : k = k'
 ·subst e
  refine zbv (by simp) ?_
  simp only [ne_eq, not_true_eq_false, if_false]
  by_cases h2 : k = 2
  ·subst h2; rfl
  ·have e2 : (((k : Nat) : Int) == 2) = false := by simp; omega
   rw [e2, cond_false, if_neg h2]
   by_cases h5 : k = 5
   ·subst h5
    rw [if_pos rfl]
    rw [show ((((5 : Nat) : Int)) == 5) = true from rfl, cond_true]
    generalize zdt (zka mn mn') (zka (zxr mx) (zxr mx')) = c
    by_cases hc : c = 0
    ·subst hc; rfl
    ·rw [show (c != 0) = true by simpa using hc, zdt, if_pos hc]; rfl
   ·have e5 : (((k : Nat) : Int) == 5) = false := by simp; omega
    rw [e5, cond_false, if_neg h5]
    by_cases h0 : k = 0
    ·subst h0; rfl
    ·have e0 : (((k : Nat) : Int) == 0) = false := by simp; omega
     rw [e0, cond_false]
     by_cases h1 : k = 1
     ·subst h1; rfl
     ·have e1 : (((k : Nat) : Int) == 1) = false := by simp; omega
      rw [e1, if_neg (by omega)]; rfl
 ·refine zby (by simp; omega) ?_
  rw [if_pos e]
theorem z3d : ∀ (n : Nat), n < 2 ^ 60 + 1 → ∀ a b : Tr, (pre a).length < n ∧ (pre b).length < n → Pure (ITP Try.prog) Try.prog 72 [.agg (Enc.cells a), .agg (Enc.cells b)] (.raw (.int .i64 (zf1 a b)))
 | 0, _ => fun a b h => by omega
 | n + 1, hn => fun a b h => cmpt_sh (n + 4) n a b _ (fun x y hxy => z3d n (by omega) x y hxy) (cmpt_eq n a b h.1 h.2 (by omega))
theorem cmp_at (a b : Tr) (h : (pre a).length < 2 ^ 60 ∧ (pre b).length < 2 ^ 60) : Pure (ITP Try.prog) Try.prog 72 [.agg (Enc.cells a), .agg (Enc.cells b)] (.raw (.int .i64 (zf1 a b))) := z3d (2 ^ 60) (by decide) a b h
theorem z04 {ρ : Type} (M : Nat) (Z T : Int) (hZ : Z = M) (hT : T = M + 1) (lo hi : Int) (hlo : lo ≤ 0) (hhi : (M : Int) + 1 < hi) (l : List Tr) : ∀ (s : Nat), s ≤ M → zg2 (β := Int) (ρ := Int ⊕ ρ) (fun s1 w1 => (chk (lo ≤ (s1 + 1) ∧ (s1 + 1) < hi) (bif (decide ((s1 + 1) > Z)) then (some (Sum.inr (Sum.inl ((s1 + 1))))) else (some (Sum.inl ((s1 + 1))))))) l (s : Int) = if s + l.length ≤ M then some (.inl ((s + l.length : Nat) : Int)) else some (.inr (.inl T)) := by
 induction l with
 | nil => intro s h; rw [if_pos (by simpa using h)]; rfl
 | cons x l ih =>
  intro s h
  have hb : (chk (lo ≤ ((s : Int) + 1) ∧ ((s : Int) + 1) < hi) (bif (decide (((s : Int) + 1) > Z)) then (some (Sum.inr (Sum.inl (((s : Int) + 1))))) else (some (Sum.inl (((s : Int) + 1))))) : Option (Int ⊕ (Int ⊕ ρ))) = if s + 1 ≤ M then some (.inl ((s + 1 : Nat) : Int)) else some (.inr (.inl T)) := by
   refine zt (by omega) ?_
   by_cases h1 : s + 1 ≤ M
   ·rw [if_pos h1, show decide ((s : Int) + 1 > Z) = false by simp; omega]; rfl
   ·rw [if_neg h1, show decide ((s : Int) + 1 > Z) = true by simp; omega, show ((s : Int) + 1) = T by omega]; rfl
  simp only [zg2, hb]
  rw [List.length_cons]
  by_cases h1 : s + 1 ≤ M
  ·simp only [if_pos h1]
   rw [ih (s + 1) h1]
   simp only [show s + 1 + l.length = s + (l.length + 1) by omega]
  ·simp only [if_neg h1]; rw [if_neg (by omega)]
theorem z6v (t : Tr) (h : (pre t).length < 2 ^ 61) : zso t = some (zcl t) := by
 unfold zso
 rw [zaz h, zan, show (0 : Int) = ((0 : Nat) : Int) from rfl, z04 10000 10000 10001 (by omega) (by omega) _ _ (by omega) (by omega) (pre t) 0 (by omega)]
 unfold zcl
 by_cases h1 : (pre t).length ≤ 10000
 ·rw [if_pos (by omega)]
  show some _ = some _
  congr 1
  rw [Bool.eq_iff_iff]; simp; omega
 ·rw [if_neg (by omega)]
  show some _ = some _
  congr 1
  rw [Bool.eq_iff_iff]; simp; omega
theorem zlv (t : Tr) (h : (pre t).length < 2 ^ 61) : Pure (ITP Try.prog) Try.prog 32 [.agg (Enc.cells t)] (.raw (.bool (zcl t))) := z5f t _ (z6v t h)
theorem z65 (n : Nat) (a b : List Tr) (hab : a.length = b.length) (hl : a.length < 2 ^ 60) (ha : ∀ x ∈ a, (pre x).length < n) (hb : ∀ x ∈ b, (pre x).length < n) (m : Nat) (hm : a.length < m) : zw3 m (zzt n) a b = some (zlf a b) := by
 unfold zw3
 refine zbv (by rw [hab]; simp) ?_
 refine z27 a.length (fun i => (i : Int)) (fun i => some (zlf (a.drop i) (b.drop i))) hm fun i hi => ?_
 by_cases h : i < a.length
 ·have h2 : i < b.length := by omega
  have ea : a.drop i = a[i] :: a.drop (i + 1) := List.drop_eq_getElem_cons h
  have eb : b.drop i = b[i] :: b.drop (i + 1) := List.drop_eq_getElem_cons h2
  have hA := ha a[i] (List.getElem_mem h)
  have hB := hb b[i] (List.getElem_mem h2)
  cases h0 : zim a[i] b[i] with
  | true =>
   refine .inl ⟨h, ?_, by simp only [ea, eb, zlf, h0, Bool.true_and]⟩
   refine zby (by simpa using h) (zt ⟨by omega, by omega⟩ (zaj fun x1 e1 => zt ⟨by omega, by omega⟩ (zaj fun x2 e2 => ?_)))
   rw [zm5 h] at e1
   rw [zm5 h2] at e2
   subst e1 e2
   refine zet true (by unfold zzt q2; rw [if_pos ⟨hA, hB⟩, h0]) (zbv rfl (zt (by omega) ?_))
   simp
  | false =>
   refine .inr ⟨.inr false, ?_, by simp only [ea, eb, zlf, h0]; rfl⟩
   refine zby (by simpa using h) (zt ⟨by omega, by omega⟩ (zaj fun x1 e1 => zt ⟨by omega, by omega⟩ (zaj fun x2 e2 => ?_)))
   rw [zm5 h] at e1
   rw [zm5 h2] at e2
   subst e1 e2
   exact zet false (by unfold zzt q2; rw [if_pos ⟨hA, hB⟩, h0]) (zby rfl rfl)
 ·refine .inr ⟨.inl (), zbv (by simp; omega) rfl, ?_⟩
  rw [List.drop_of_length_le (by omega), List.drop_of_length_le (by omega)]
  rfl
theorem zzk : ∀ (a b : List Tr), a.length ≠ b.length → zlf a b = false
 | [], [], h => absurd rfl h
 | [], _ :: _, _ => rfl
 | _ :: _, [], _ => rfl
 | x :: a, y :: b, h => by rw [zlf, zzk a b (by simpa using h), Bool.and_false]
theorem z7l (n : Nat) (a b : List Tr) (hl : a.length < 2 ^ 60) (ha : ∀ x ∈ a, (pre x).length < n) (hb : ∀ x ∈ b, (pre x).length < n) (m : Nat) (hm : a.length < m) : zw3 m (zzt n) a b = some (zlf a b) := by
 by_cases hab : a.length = b.length
 ·exact z65 n a b hab hl ha hb m hm
 ·unfold zw3
  rw [zzk a b hab]
  exact zby (by simp; omega) rfl
theorem z6z (n : Nat) (a b : Tr) (ha : (pre a).length < n + 1) (hb : (pre b).length < n + 1) (hn : n < 2 ^ 60) : zrw (n + 1) n a b = some (zim a b) := by
 obtain ⟨k, s, mn, mx, l⟩ := a
 obtain ⟨k', s', mn', mx', l'⟩ := b
 have sub : ∀ (k : Nat) (s : BS) (mn mx : Int) (l : List Tr), (pre (Tr.mk k s mn mx l)).length < n + 1 → (∀ x ∈ l, (pre x).length < n) ∧ l.length < n + 1 := fun k s mn mx l h => by
  rw [pre, List.length_cons] at h
  exact ⟨fun x hx => by have := zbr hx; omega, by have := zag l; omega⟩
 obtain ⟨a1, a2⟩ := sub _ _ _ _ _ ha
 obtain ⟨b1, b2⟩ := sub _ _ _ _ _ hb
 have hf := z7l n l l' (by omega) a1 b1 (n + 1) (by omega)
 unfold zrw
 simp only [Tr.k, Tr.s, Tr.mn, Tr.mx, Tr.l, hf, bindE_some, zim]
 by_cases hs : s = s' <;> cases (k : Int) == k' <;> cases mn == mn' <;> cases mx == mx' <;> simp [hs]
theorem zx1 : ∀ (n : Nat), n < 2 ^ 60 + 1 → ∀ a b : Tr, (pre a).length < n ∧ (pre b).length < n → Pure (ITP Try.prog) Try.prog 33 [.agg (Enc.cells a), .agg (Enc.cells b)] (.raw (.bool (zim a b)))
 | 0, _ => fun a b h => by omega
 | n + 1, hn => fun a b h => z6i (n + 1) n a b _ (fun x y hxy => zx1 n (by omega) x y hxy) (z6z n a b h.1 h.2 (by omega))
theorem z1z (a b : Tr) (h : (pre a).length < 2 ^ 60 ∧ (pre b).length < 2 ^ 60) : Pure (ITP Try.prog) Try.prog 33 [.agg (Enc.cells a), .agg (Enc.cells b)] (.raw (.bool (zim a b))) := zx1 (2 ^ 60) (by decide) a b h
end Go.Ab
set_option linter.unusedSimpArgs false
set_option linter.unusedVariables false
namespace Go.Ab
open Go Go.RowKit Go.Fwd Go.Proofs
theorem ent48 : Ent Try.prog 48 := enters_of Try.func48 (by kernel_rfl) rfl
set_option maxRecDepth 100000 in
set_option maxHeartbeats 4000000 in
theorem zxp (l : List Tr) (hl : List.isEmpty l = true) : Snd (ITP Try.prog) Try.prog 48 [.list (List.length l) (Enc.cellsL l) .none] St.empty (.list 0 [] .full) ⟨[], [], [], 0, false⟩ := by
 obtain rfl : l = [] := List.isEmpty_iff.1 hl
 obtain ⟨d, hd⟩ : ∃ d, Try.f48.body = some d := ⟨_, rfl⟩
 refine zy9 mix Try.func48 hd ent48 ?_
 cases hd
 refine zam (by dsimp only [zbq, Try.f48, List.length_cons, List.length_nil, Nat.zero_add, Nat.reduceAdd, Nat.reduceSub, List.replicate, List.cons_append, List.nil_append]) (by dsimp only [St.empty]) ?_
 refine ze (zc ?_)
 refine zez (a := .list 0 [] .full) rfl rfl rfl rfl (by dsimp only [zn, List.set]) ?_
 refine ze ?_
 refine ze (zc ?_)
 refine zez (a := .list 0 [] .none) rfl rfl rfl rfl (by dsimp only [zn, List.set]) ?_
 refine w_nil 0 false rfl rfl rfl ⟨_, _, _, _, _, rfl, .inl ⟨rfl, rfl⟩, rfl, .inl ⟨_, _, rfl⟩⟩ (by dsimp only [zn, List.set]) (by dsimp only [zn, List.set]) (fun h1 => ?_) ?_
 ·refine zbo rfl ?_
  refine ze (zc ?_)
  refine zez (a := .list 0 [] .full) rfl rfl rfl rfl (by dsimp only [zn, List.set]) ?_
  exact ztd (n := 0) (m := 0) [] [] 1 rfl rfl rfl rfl
 ·refine zav rfl ?_
  refine ze (zc ?_)
  refine zez (a := .list 0 [] .full) rfl rfl rfl rfl (by dsimp only [zn, List.set]) ?_
  refine zez (a := .list 0 [] .none) rfl rfl rfl rfl (by dsimp only [zn, List.set]) ?_
  refine zez (a := .list 0 [] .full) rfl rfl rfl rfl (by dsimp only [zn, List.set]) ?_
  refine zez (a := .list 0 [] .full) rfl rfl rfl rfl (by dsimp only [zn, List.set]) ?_
  exact ztd (n := 0) (m := 0) [] [] 1 rfl rfl rfl rfl
set_option maxRecDepth 100000 in
set_option maxHeartbeats 4000000 in
theorem zuy (l : List Tr) (g : List.length l * 80 ≤ 140737488355328) (hl : List.isEmpty l = false) : Snd (ITP Try.prog) Try.prog 48 [.list (List.length l) (Enc.cellsL l) .none] St.empty (.bsl 0 0 (List.length l) 8 false) ⟨[(30, Enc.cellsL l)], [], [], 0, false⟩ := by
 have h0 : l ≠ [] := fun e => by rw [e] at hl; cases hl
 have hp := List.length_pos_iff.2 h0
 obtain ⟨d, hd⟩ : ∃ d, Try.f48.body = some d := ⟨_, rfl⟩
 refine zy9 mix Try.func48 hd ent48 ?_
 cases hd
 refine zam (by dsimp only [zbq, Try.f48, List.length_cons, List.length_nil, Nat.zero_add, Nat.reduceAdd, Nat.reduceSub, List.replicate, List.cons_append, List.nil_append]) (by dsimp only [St.empty]) ?_
 refine ze (zc ?_)
 refine zez (a := .list 0 [] .full) rfl rfl rfl rfl (by dsimp only [zn, List.set]) ?_
 refine ze ?_
 refine ze (zc ?_)
 refine zez (a := .list l.length (Enc.cellsL l) .none) rfl rfl rfl rfl (by dsimp only [zn, List.set]) ?_
 refine w_nil l.length false rfl rfl rfl ⟨_, _, _, _, _, rfl, .inl ⟨rfl, rfl⟩, rfl, .inl ⟨_, _, rfl⟩⟩ (by dsimp only [zn, List.set]) (by dsimp only [zn, List.set]) (fun h1 => ?_) ?_
 ·omega
 ·refine zav rfl ?_
  refine ze (zc ?_)
  refine zez (a := .list 0 [] .full) rfl rfl rfl rfl (by dsimp only [zn, List.set]) ?_
  refine zez (a := .list l.length (Enc.cellsL l) .none) rfl rfl rfl rfl (by dsimp only [zn, List.set]) ?_
  refine zj4 rfl rfl rfl (zy3 rfl rfl rfl rfl rfl rfl rfl rfl rfl (zhu ⟨rfl, Enc.lenL l, by decide⟩) ⟨by decide, rfl, hp⟩ ⟨rfl, by unfold maxLen; omega, by show (0 + l.length) * 80 ≤ _; omega⟩) (by dsimp only [zn, List.set]) rfl ?_
  refine zez rfl rfl rfl rfl (by dsimp only [zn, List.set, zcp, List.getElem?_cons_zero, List.getElem?_cons_succ, Option.getD]) ?_
  refine ztd (n := 0) (m := 0) [] [0] 1 rfl rfl ?_ ?_
  ·rw [Nat.zero_add]; rfl
  ·exact zdh (z8 (cs := Enc.cellsL l) rfl (zak _ _ _ (Enc.cloL _)) zca) rfl
theorem z0o (l : List Tr) (hl : List.isEmpty l = true) (σ : St) : Snd (ITP Try.prog) Try.prog 48 [.list (List.length l) (Enc.cellsL l) .none] σ (.list 0 [] .full) σ := by
 have h := zyp (zas _) (zxp l hl) (args := [.list l.length (Enc.cellsL l) .none]) (by rw [stripL, zb7, Enc.stripL]; rfl) (by rw [z7, za5, zo _ _ (Enc.cloL l)]; rfl) σ
 simpa [znh, zci, z7j, shz, zfy] using h
theorem zwl (l : List Tr) (g : List.length l * 80 ≤ 140737488355328) (hl : List.isEmpty l = false) (n : Nat) (σ : St) (hσ : σ.boxes.length = n) : Snd (ITP Try.prog) Try.prog 48 [.list (List.length l) (Enc.cellsL l) .none] σ (.bsl n 0 (List.length l) 8 false) { σ with boxes := σ.boxes ++ [(30, Enc.cellsL l)] } := by
 subst hσ
 have h := zyp (zas _) (zuy l g hl) (args := [.list l.length (Enc.cellsL l) .none]) (by rw [stripL, zb7, Enc.stripL]; rfl) (by rw [z7, za5, zo _ _ (Enc.cloL l)]; rfl) σ
 simpa [znh, zci, z7j, shz, zfy, zak _ _ _ (Enc.cloL l)] using h
end Go.Ab
