/-
  rx, rxnorm: functions without loops.
-/
import Derived.Test.YtmoncghgagmilaaZdCq
import Derived.Test.YtmoncghgagmilaaZdQr
set_option linter.unusedSimpArgs false
set_option linter.unusedVariables false
set_option maxRecDepth 100000
set_option maxHeartbeats 4000000
namespace Go.Ab
open Go Go.RowKit Go.Fwd Go.Proofs
def zle (x : Int) : Option Bool :=
 (some (x != x))
theorem ent94 : Ent Try.prog 94 := enters_of Try.func94 (by kernel_rfl) rfl
theorem zu3 (x : Int) (r : Bool) (h : zle x = some r) : Pure (ITP Try.prog) Try.prog 94 [.raw (.int .u8 x)] (.raw (.bool r)) := by
 unfold zle at h
 refine zaw 5 mix Try.func94 ent94 ?_
 refine zw [.v (.b false)] ?_
 refine zw [.m _, .m _, .v (.b (x != x)), .m _] ?_
 exact za4 h
def zoz (x : Int) : Option Bool :=
 (some (x != x))
theorem ent98 : Ent Try.prog 98 := enters_of Try.func98 (by kernel_rfl) rfl
theorem zy5 (x : Int) (r : Bool) (h : zoz x = some r) : Pure (ITP Try.prog) Try.prog 98 [.raw (.int .i64 x)] (.raw (.bool r)) := by
 unfold zoz at h
 refine zaw 5 mix Try.func98 ent98 ?_
 refine zw [.v (.b false)] ?_
 refine zw [.m _, .m _, .v (.b (x != x)), .m _] ?_
 exact za4 h
def zue (x : Int) (y : Int) : Option Int :=
 (za3 (zle x) (fun x1 => (za3 (zle y) (fun x2 => (bif x1 then (bif x2 then (some 0) else (some (-1))) else (bif x2 then (some 1) else (bif (decide (x < y)) then (some (-1)) else (bif (decide (x > y)) then (some 1) else (some 0)))))))))
theorem ent83 : Ent Try.prog 83 := enters_of Try.func83 (by kernel_rfl) rfl
theorem cmp8_sh (x : Int) (y : Int) (r : Int) (h : zue x y = some r) : Pure (ITP Try.prog) Try.prog 83 [.raw (.int .u8 x), .raw (.int .u8 y)] (.raw (.int .i64 r)) := by
 unfold zue at h
 refine zaw 18 mix Try.func83 ent83 ?_
 refine zw [.v (.i 0)] ?_
 refine zw [.m _] ?_
 obtain ⟨x1, hx1, h⟩ := zaa h
 refine zbs (zu3 x x1 hx1) ?_
 refine zab ?_
 refine zw [.m _] ?_
 obtain ⟨x2, hx2, h⟩ := zaa h
 refine zbs (zu3 y x2 hx2) ?_
 refine zab ?_
 refine ze ?_
 refine zw [.m _] ?_
 refine zbu h (fun hc1 h => ?_) (fun hc1 h => ?_)
 refine ze ?_
 refine zw [.m _] ?_
 refine zbu h (fun hc2 h => ?_) (fun hc2 h => ?_)
 refine zw [.v (.i 0)] ?_
 exact zd0 h
 refine zw [.v (.i (-1))] ?_
 exact zd0 h
 refine ze ?_
 refine zw [.m _] ?_
 refine zbu h (fun hc3 h => ?_) (fun hc3 h => ?_)
 refine zw [.v (.i 1)] ?_
 exact zd0 h
 refine ze ?_
 refine zw [.m _, .m _, .v (.b (decide (x < y)))] ?_
 refine zbu h (fun hc4 h => ?_) (fun hc4 h => ?_)
 refine zw [.v (.i (-1))] ?_
 exact zd0 h
 refine ze ?_
 refine zw [.m _, .m _, .v (.b (decide (x > y)))] ?_
 refine zbu h (fun hc5 h => ?_) (fun hc5 h => ?_)
 refine zw [.v (.i 1)] ?_
 exact zd0 h
 refine zw [.v (.i 0)] ?_
 exact zd0 h
def zlr (x : Int) (y : Int) : Option Int :=
 (za3 (zoz x) (fun x1 => (za3 (zoz y) (fun x2 => (bif x1 then (bif x2 then (some 0) else (some (-1))) else (bif x2 then (some 1) else (bif (decide (x < y)) then (some (-1)) else (bif (decide (x > y)) then (some 1) else (some 0)))))))))
theorem ent86 : Ent Try.prog 86 := enters_of Try.func86 (by kernel_rfl) rfl
theorem zyg (x : Int) (y : Int) (r : Int) (h : zlr x y = some r) : Pure (ITP Try.prog) Try.prog 86 [.raw (.int .i64 x), .raw (.int .i64 y)] (.raw (.int .i64 r)) := by
 unfold zlr at h
 refine zaw 18 mix Try.func86 ent86 ?_
 refine zw [.v (.i 0)] ?_
 refine zw [.m _] ?_
 obtain ⟨x1, hx1, h⟩ := zaa h
 refine zbs (zy5 x x1 hx1) ?_
 refine zab ?_
 refine zw [.m _] ?_
 obtain ⟨x2, hx2, h⟩ := zaa h
 refine zbs (zy5 y x2 hx2) ?_
 refine zab ?_
 refine ze ?_
 refine zw [.m _] ?_
 refine zbu h (fun hc1 h => ?_) (fun hc1 h => ?_)
 refine ze ?_
 refine zw [.m _] ?_
 refine zbu h (fun hc2 h => ?_) (fun hc2 h => ?_)
 refine zw [.v (.i 0)] ?_
 exact zd0 h
 refine zw [.v (.i (-1))] ?_
 exact zd0 h
 refine ze ?_
 refine zw [.m _] ?_
 refine zbu h (fun hc3 h => ?_) (fun hc3 h => ?_)
 refine zw [.v (.i 1)] ?_
 exact zd0 h
 refine ze ?_
 refine zw [.m _, .m _, .v (.b (decide (x < y)))] ?_
 refine zbu h (fun hc4 h => ?_) (fun hc4 h => ?_)
 refine zw [.v (.i (-1))] ?_
 exact zd0 h
 refine ze ?_
 refine zw [.m _, .m _, .v (.b (decide (x > y)))] ?_
 refine zbu h (fun hc5 h => ?_) (fun hc5 h => ?_)
 refine zw [.v (.i 1)] ?_
 exact zd0 h
 refine zw [.v (.i 0)] ?_
 exact zd0 h
def zq6 (t : Tr) : Option Int :=
 (bif (t.mx == (-1)) then (some 9223372036854775807) else (some t.mx))
theorem ent87 : Ent Try.prog 87 := enters_of Try.func87 (by kernel_rfl) rfl
theorem z31 (t : Tr) (r : Int) (h : zq6 t = some r) : Pure (ITP Try.prog) Try.prog 87 [.A (t : Tr)] (.raw (.int .i64 r)) := by
 unfold zq6 at h
 refine zaw 7 mix Try.func87 ent87 ?_
 refine ze (zc ?_)
 refine zbc (a := .ptr 0 0) (σ'' := (.B [(30, (Enc.cells (t : Tr)))])) ?_
 refine w_o (a := .i 0) ?_
 refine ze ?_
 refine zw [.v (.ptr 0 6), .v (.i t.mx), .v (.b (t.mx == (-1)))] ?_
 refine zbu h (fun hc1 h => ?_) (fun hc1 h => ?_)
 refine zw [.v (.i 9223372036854775807)] ?_
 exact zd0 h
 refine zw [.v (.ptr 0 6), .v (.i t.mx), .m _] ?_
 exact zd0 h
def zpn (fuel : Nat) (l : (List Int)) : Option Int :=
 (zdo (τ := Unit) (zch (β := Int) (fun s1 => (bif (decide (s1 < (List.length l : Int))) then (chk (0 ≤ s1 ∧ s1 < (List.length l : Int)) (bif ((ix l s1) != 0) then (some (Sum.inr (Sum.inr (ix l s1)))) else (chk (-9223372036854775808 ≤ (s1 + 1) ∧ (s1 + 1) < 9223372036854775808) (some (Sum.inl ((s1 + 1))))))) else (some (Sum.inr (Sum.inl ()))))) fuel (0)) (fun j1 => (some 0)))
theorem ent85 : Ent Try.prog 85 := enters_of Try.func85 (by kernel_rfl) rfl
theorem z6q (fuel : Nat) (l : (List Int)) (r : Int) (h : zpn fuel l = some r) : Pure (ITP Try.prog) Try.prog 85 [.L (l : List Int)] (.raw (.int .i64 r)) := by
 unfold zpn at h
 refine zaw 17 mix Try.func85 ent85 ?_
 refine zw [.v (.i 0)] ?_
 refine zw [.v (.i 0)] ?_
 refine za0 h (bz 0 18 262135) (fun j1 => []) (fun j1 => (.B [])) ?_ ?_
 intro or1 h hr1
 refine zw [.m _, .v (.i (List.length l : Int)), .v (.i 0)] ?_
 refine zr ?_
 refine zcf h (bz 0 18 261943) (fun s1 => [(8, .i s1)]) (fun s1 => (.B [])) ?_ ?_
 exact zc7 (bl 18 456)
 intro s1 p1 h
 refine zf8 ?_
 refine zw [.v (.b (decide (s1 < (List.length l : Int))))] ?_
 refine ze ?_
 refine zbu h (fun hc1 h => ?_) (fun hc1 h => ?_)
 refine ze ?_
 refine zr ?_
 refine ze (zc ?_)
 obtain ⟨g1, h⟩ := zh h
 refine w_o (a := .iptr (Enc.cells (ix l s1) ++ Enc.cellsL (List.drop (Int.toNat s1 + 1) l))) (h := za2 (zf7 (α := Int) (l := l) g1 rfl rfl rfl rfl rfl)) ?_
 refine w_r [.v (.i (ix l s1)), .m _] ?_
 refine zw [.m _, .m _, .v (.b ((ix l s1) != 0))] ?_
 refine zbu h (fun hc2 h => ?_) (fun hc2 h => ?_)
 refine zw [.m _, .m _] ?_
 refine zae h (fun h => ?_)
 replace h := zp h hr1
 exact zd0 h
 refine zc (k0 := 0) (id := 7) ?_
 obtain ⟨g2, h⟩ := zh h
 refine zwt g2 ?_
 refine zab ?_
 refine zbb (p := p1) ((s1 + 1)) h ?_
 exact zc7 (bl 18 456)
 refine zae h (fun h => ?_)
 refine zg (o := or1) () h ?_
 exact zc7 (bl 18 8)
 intro j1 h
 refine zf8 ?_
 refine zw [.m _, .m _] ?_
 exact zd0 h
def ze6 (lo : Int) (hi : Int) : Option Bool :=
 (zdo (τ := Unit) (bif (decide (lo < 0)) then (some (Sum.inr false)) else (bif (decide (lo > 16)) then (some (Sum.inr false)) else (bif (lo == 1) then (bif (hi == 1) then (some (Sum.inr false)) else (some (Sum.inl ()))) else (some (Sum.inl ()))))) (fun j1 => (bif (hi == (-1)) then (some true) else (bif (decide (hi ≥ 1)) then (bif (decide (hi ≤ 16)) then (some (decide (hi ≥ lo))) else (some false)) else (some false)))))
theorem ent36 : Ent Try.prog 36 := enters_of Try.func36 (by kernel_rfl) rfl
theorem zhj (lo : Int) (hi : Int) (r : Bool) (h : ze6 lo hi = some r) : Pure (ITP Try.prog) Try.prog 36 [.raw (.int .i64 lo), .raw (.int .i64 hi)] (.raw (.bool r)) := by
 unfold ze6 at h
 refine zaw 32 mix Try.func36 ent36 ?_
 refine zw [.v (.b false)] ?_
 refine za0 h (bz 0 34 17179869180) (fun j1 => []) (fun j1 => (.B [])) ?_ ?_
 intro or1 h hr1
 refine zw [.m _, .v (.b (decide (lo < 0)))] ?_
 refine zu h (fun hc1 h => ?_) (fun hc1 h => ?_)
 refine zau hc1 ?_
 refine w_r [.p, .p, .v (.b true), .m _, .p] ?_
 refine w_r [.p, .p, .p, .p, .p] ?_
 refine w_r [.v (.b true)] ?_
 refine zbo rfl ?_
 refine zw [.v (.b false)] ?_
 replace h := zp h hr1
 exact za4 h
 refine zau hc1 ?_
 refine w_r [.m _, .v (.b (decide (lo > 16))), .v (.b (decide (lo > 16)))] ?_
 refine zu h (fun hc2 h => ?_) (fun hc2 h => ?_)
 refine zau hc2 ?_
 refine w_r [.p, .p, .p, .p, .p] ?_
 refine w_r [.p, .v (.b true)] ?_
 refine zbo rfl ?_
 refine zw [.v (.b false)] ?_
 replace h := zp h hr1
 exact za4 h
 refine zau hc2 ?_
 refine w_r [.m _, .v (.b (lo == 1))] ?_
 refine zac rfl rfl ?_
 refine zu h (fun hc3 h => ?_) (fun hc3 h => ?_)
 refine zau hc3 ?_
 refine w_r [.m _, .v (.b (hi == 1)), .v (.b (hi == 1)), .v (.b (hi == 1))] ?_
 refine zbu h (fun hc4 h => ?_) (fun hc4 h => ?_)
 refine zw [.v (.b false)] ?_
 replace h := zp h hr1
 exact za4 h
 refine zg (o := or1) () h ?_
 exact zc7 (bl 34 3)
 refine zau hc3 ?_
 refine w_r [.p, .p, .v (.b false), .v (.b false)] ?_
 refine zav rfl ?_
 refine zg (o := or1) () h ?_
 exact zc7 (bl 34 3)
 intro j1 h
 refine zf8 ?_
 refine zw [.m _, .v (.b (hi == (-1)))] ?_
 refine zu h (fun hc5 h => ?_) (fun hc5 h => ?_)
 refine zau hc5 ?_
 refine w_r [.p, .p, .p, .p, .p] ?_
 refine w_r [.p, .p, .p, .p, .p] ?_
 refine w_r [.p, .v (.b true), .m _] ?_
 exact za4 h
 refine zau hc5 ?_
 refine w_r [.m _, .v (.b (decide (hi ≥ 1)))] ?_
 refine zac rfl rfl ?_
 refine zu h (fun hc6 h => ?_) (fun hc6 h => ?_)
 refine zau hc6 ?_
 refine w_r [.m _, .v (.b (decide (hi ≤ 16))), .v (.b (decide (hi ≤ 16)))] ?_
 refine zac rfl rfl ?_
 refine zu h (fun hc7 h => ?_) (fun hc7 h => ?_)
 refine zau hc7 ?_
 refine w_r [.m _, .m _, .v (.b (decide (hi ≥ lo))), .v (.b (decide (hi ≥ lo))), .v (.b (decide (hi ≥ lo)))] ?_
 refine w_r [.m _] ?_
 exact za4 h
 refine zau hc7 ?_
 refine w_r [.p, .p, .p, .v (.b false), .v (.b false)] ?_
 refine w_r [.m _] ?_
 exact za4 h
 refine zau hc6 ?_
 refine w_r [.p, .p, .v (.b false), .m _, .p] ?_
 refine w_r [.p, .p, .v (.b false), .v (.b false), .m _] ?_
 exact za4 h
def F_opt  : Option Bd :=
 (some (Bd.mk 0 1))
theorem ent52 : Ent Try.prog 52 := enters_of Try.func52 (by kernel_rfl) rfl
theorem zyi  (r : Bd) (h : F_opt  = some r) : Pure (ITP Try.prog) Try.prog 52 [] (.A (r : Bd)) := by
 unfold F_opt at h
 refine zaw 2 mix Try.func52 ent52 ?_
 refine ze (zc ?_)
 refine zbc (a := .ptr 0 0) (σ'' := (.B [(62, (Enc.cells ((Bd.mk 0 0) : Bd)))])) ?_
 refine zw [.v (.A ((Bd.mk 0 1) : Bd))] ?_
 refine zbk 2 (.B [(62, (Enc.cells ((Bd.mk 0 1) : Bd)))]) ?_
 exact zal (fun (r : Bd) => .A (r : Bd)) h (.A ((Bd.mk 0 1) : Bd))
def z8i  : Option Bd :=
 (some (Bd.mk 0 (-1)))
theorem ent54 : Ent Try.prog 54 := enters_of Try.func54 (by kernel_rfl) rfl
theorem zhz  (r : Bd) (h : z8i  = some r) : Pure (ITP Try.prog) Try.prog 54 [] (.A (r : Bd)) := by
 unfold z8i at h
 refine zaw 2 mix Try.func54 ent54 ?_
 refine ze (zc ?_)
 refine zbc (a := .ptr 0 0) (σ'' := (.B [(62, (Enc.cells ((Bd.mk 0 0) : Bd)))])) ?_
 refine zw [.v (.A ((Bd.mk 0 (-1)) : Bd))] ?_
 refine zbk 2 (.B [(62, (Enc.cells ((Bd.mk 0 (-1)) : Bd)))]) ?_
 exact zal (fun (r : Bd) => .A (r : Bd)) h (.A ((Bd.mk 0 (-1)) : Bd))
def z73  : Option Bd :=
 (some (Bd.mk 1 (-1)))
theorem ent55 : Ent Try.prog 55 := enters_of Try.func55 (by kernel_rfl) rfl
theorem zh0  (r : Bd) (h : z73  = some r) : Pure (ITP Try.prog) Try.prog 55 [] (.A (r : Bd)) := by
 unfold z73 at h
 refine zaw 2 mix Try.func55 ent55 ?_
 refine ze (zc ?_)
 refine zbc (a := .ptr 0 0) (σ'' := (.B [(62, (Enc.cells ((Bd.mk 0 0) : Bd)))])) ?_
 refine zw [.v (.A ((Bd.mk 1 (-1)) : Bd))] ?_
 refine zbk 2 (.B [(62, (Enc.cells ((Bd.mk 1 (-1)) : Bd)))]) ?_
 exact zal (fun (r : Bd) => .A (r : Bd)) h (.A ((Bd.mk 1 (-1)) : Bd))
def F_ofB (t : Tr) : Option Bd :=
 (some (Bd.mk t.mn t.mx))
theorem ent43 : Ent Try.prog 43 := enters_of Try.func43 (by kernel_rfl) rfl
theorem zrd (t : Tr) (r : Bd) (h : F_ofB t = some r) : Pure (ITP Try.prog) Try.prog 43 [.A (t : Tr)] (.A (r : Bd)) := by
 unfold F_ofB at h
 refine zaw 7 mix Try.func43 ent43 ?_
 refine ze (zc ?_)
 refine zbc (a := .ptr 0 0) (σ'' := (.B [(30, (Enc.cells (t : Tr)))])) ?_
 refine zbc (a := .ptr 1 0) (σ'' := (.B [(30, (Enc.cells (t : Tr))), (62, (Enc.cells ((Bd.mk 0 0) : Bd)))])) ?_
 refine zw [.v (.ptr 0 5), .v (.i t.mn), .v (.ptr 0 6), .v (.i t.mx), .v (.A ((Bd.mk t.mn t.mx) : Bd))] ?_
 refine zbk 2 (.B [(30, (Enc.cells (t : Tr))), (62, (Enc.cells ((Bd.mk t.mn t.mx) : Bd)))]) ?_
 exact zal (fun (r : Bd) => .A (r : Bd)) h (.A ((Bd.mk t.mn t.mx) : Bd))
def zsi (t : Tr) : Option Tr :=
 (some (Tr.mk 6 (0#256) 0 0 [t]))
theorem ent23 : Ent Try.prog 23 := enters_of Try.func23 (by kernel_rfl) rfl
theorem z1o (t : Tr) (r : Tr) (h : zsi t = some r) : Pure (ITP Try.prog) Try.prog 23 [.A (t : Tr)] (.A (r : Tr)) := by
 unfold zsi at h
 refine zaw 5 mix Try.func23 ent23 ?_
 refine ze (zc ?_)
 refine zbc (a := .ptr 0 0) (σ'' := (.B [(30, (Enc.cells (t : Tr)))])) ?_
 refine zbc (a := .ptr 1 0) (σ'' := (.B [(30, (Enc.cells (t : Tr))), (30, [.u 0, .raw (.int .u64 0), .raw (.int .u64 0), .raw (.int .u64 0), .raw (.int .u64 0), .i 0, .i 0, .list 0 [] .full])])) ?_
 refine zw [.v (.A (t : Tr))] ?_
 refine w_o (a := .F ([t] : List Tr)) (h := za2 (zcj (α := Tr) (l := [t]) (cs := Enc.cells (t : Tr) ++ []) rfl (by rw [Enc.cons, Enc.nil]))) ?_
 refine zcd (.A ((Tr.mk 6 (0#256) 0 0 [t]) : Tr)) (a0 := (zbf (Tr.mk 6 (0#256) 0 0 [t]) .full)) rfl rfl rfl (by kernel_rfl) (zi _ _) (by dsimp only [zn, List.set]) ?_
 refine zbk 8 (.B [(30, (Enc.cells (t : Tr))), (30, (Enc.cells ((Tr.mk 6 (0#256) 0 0 [t]) : Tr)))]) ?_
 exact zal (fun (r : Tr) => .A (r : Tr)) h (.A ((Tr.mk 6 (0#256) 0 0 [t]) : Tr))
def z2v (t : Tr) (lo : Int) (hi : Int) : Option Tr :=
 (some (Tr.mk 5 (0#256) lo hi [t]))
theorem ent24 : Ent Try.prog 24 := enters_of Try.func24 (by kernel_rfl) rfl
theorem rep8_sh (t : Tr) (lo : Int) (hi : Int) (r : Tr) (h : z2v t lo hi = some r) : Pure (ITP Try.prog) Try.prog 24 [.A (t : Tr), .raw (.int .i64 lo), .raw (.int .i64 hi)] (.A (r : Tr)) := by
 unfold z2v at h
 refine zaw 9 mix Try.func24 ent24 ?_
 refine ze (zc ?_)
 refine zbc (a := .ptr 0 0) (σ'' := (.B [(30, (Enc.cells (t : Tr)))])) ?_
 refine zbc (a := .ptr 1 0) (σ'' := (.B [(30, (Enc.cells (t : Tr))), (30, [.u 0, .raw (.int .u64 0), .raw (.int .u64 0), .raw (.int .u64 0), .raw (.int .u64 0), .i 0, .i 0, .list 0 [] .full])])) ?_
 refine zw [.m _, .m _, .v (.A (t : Tr))] ?_
 refine w_o (a := .F ([t] : List Tr)) (h := za2 (zcj (α := Tr) (l := [t]) (cs := Enc.cells (t : Tr) ++ []) rfl (by rw [Enc.cons, Enc.nil]))) ?_
 refine zcd (.A ((Tr.mk 5 (0#256) lo hi [t]) : Tr)) (a0 := (zbf (Tr.mk 5 (0#256) lo hi [t]) .full)) rfl rfl rfl (by kernel_rfl) (zi _ _) (by dsimp only [zn, List.set]) ?_
 refine zbk 8 (.B [(30, (Enc.cells (t : Tr))), (30, (Enc.cells ((Tr.mk 5 (0#256) lo hi [t]) : Tr)))]) ?_
 exact zal (fun (r : Tr) => .A (r : Tr)) h (.A ((Tr.mk 5 (0#256) lo hi [t]) : Tr))
def zxz (s : BS) : Option Tr :=
 (bif (decide (s = (0#256))) then (some noneT) else (some (Tr.mk 2 s 0 0 [])))
theorem ent60 : Ent Try.prog 60 := enters_of Try.func60 (by kernel_rfl) rfl
theorem rxof_sh (s : BS) (r : Tr) (h : zxz s = some r) : Pure (ITP Try.prog) Try.prog 60 [.A (s : BS)] (.A (r : Tr)) := by
 unfold zxz at h
 refine zaw 8 mix Try.func60 ent60 ?_
 refine ze (zc ?_)
 refine zbc (a := .ptr 0 0) (σ'' := (.B [(28, (Enc.cells (s : BS)))])) ?_
 refine zbc (a := .ptr 1 0) (σ'' := (.B [(28, (Enc.cells (s : BS))), (30, [.u 0, .raw (.int .u64 0), .raw (.int .u64 0), .raw (.int .u64 0), .raw (.int .u64 0), .i 0, .i 0, .list 0 [] .full])])) ?_
 refine ze ?_
 refine zw [.v (.A (s : BS)), .v (.A (0#256 : BS))] ?_
 refine zj6 (.b (decide (s = (0#256)))) rfl rfl rfl (zzm s (0#256) rfl rfl rfl) (by dsimp only [zn, List.set]) ?_
 refine zbu h (fun hc1 h => ?_) (fun hc1 h => ?_)
 refine ze (zc ?_)
 refine zcd (.A (noneT : Tr)) (a0 := (zbf noneT .full)) rfl rfl rfl (by kernel_rfl) (zi _ _) (by dsimp only [zn, List.set]) ?_
 refine zbk 8 (.B [(28, (Enc.cells (s : BS))), (30, (Enc.cells (noneT : Tr)))]) ?_
 exact zal (fun (r : Tr) => .A (r : Tr)) h (.A (noneT : Tr))
 refine zw [.v (.A (s : BS))] ?_
 refine zcd (.A ((Tr.mk 2 s 0 0 []) : Tr)) (a0 := (zbf (Tr.mk 2 s 0 0 []) .full)) rfl rfl rfl (by kernel_rfl) (zi _ _) (by dsimp only [zn, List.set]) ?_
 refine zbk 8 (.B [(28, (Enc.cells (s : BS))), (30, (Enc.cells ((Tr.mk 2 s 0 0 []) : Tr)))]) ?_
 exact zal (fun (r : Tr) => .A (r : Tr)) h (.A ((Tr.mk 2 s 0 0 []) : Tr))
def zqv (s : BS) (c : Int) : Option Bool :=
 (chk (0 ≤ (zsb .u8 c 6) ∧ (zsb .u8 c 6) < 4) (chk (0 ≤ (z1v .u8 c 63)) (some ((z1v .u64 (zsb .u64 (wd s (Int.toNat (zsb .u8 c 6))) (z1v .u8 c 63)) 1) == 1))))
theorem ent97 : Ent Try.prog 97 := enters_of Try.func97 (by kernel_rfl) rfl
theorem z2z (s : BS) (c : Int) (r : Bool) (h : zqv s c = some r) : Pure (ITP Try.prog) Try.prog 97 [.A (s : BS), .raw (.int .u8 c)] (.raw (.bool r)) := by
 unfold zqv at h
 refine zaw 12 mix Try.func97 ent97 ?_
 refine ze (zc ?_)
 refine zbc (a := .ptr 0 0) (σ'' := (.B [(28, (Enc.cells (s : BS)))])) ?_
 refine w_o (a := .b false) ?_
 refine zw [.m _] ?_
 refine w_o (a := .u (zsb .u8 c 6)) (h := za2 (q_shr (by decide) rfl rfl rfl)) ?_
 obtain ⟨g1, h⟩ := zh h
 refine w_o (a := .ptr 0 (0 + Int.toNat (zsb .u8 c 6) * 1)) (h := za2 (q_idxA g1 rfl rfl rfl rfl rfl)) ?_
 refine w_o (a := .raw (.int .u64 (wd s (Int.toNat (zsb .u8 c 6))))) (h := za2 (q_loadW s (by omega) rfl rfl rfl)) ?_
 refine w_r [.m _, .v (.u (z1v .u8 c 63))] ?_
 obtain ⟨g2, h⟩ := zh h
 refine w_o (a := .raw (.int .u64 (zsb .u64 (wd s (Int.toNat (zsb .u8 c 6))) (z1v .u8 c 63)))) (h := za2 (q_shr g2 rfl rfl rfl)) ?_
 refine w_r [.v (.raw (.int .u64 (z1v .u64 (zsb .u64 (wd s (Int.toNat (zsb .u8 c 6))) (z1v .u8 c 63)) 1))), .v (.b ((z1v .u64 (zsb .u64 (wd s (Int.toNat (zsb .u8 c 6))) (z1v .u8 c 63)) 1) == 1)), .m _] ?_
 exact za4 h
end Go.Ab
