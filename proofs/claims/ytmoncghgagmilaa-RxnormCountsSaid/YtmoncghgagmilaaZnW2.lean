/-
  rx: functions of closures; has, right, same.
-/
import Derived.Test.YtmoncghgagmilaaZnW1
import Derived.Test.YtmoncghgagmilaaZdQq
set_option linter.unusedSimpArgs false
set_option linter.unusedVariables false
set_option maxRecDepth 100000
set_option maxHeartbeats 4000000
namespace Go.Ab
open Go Go.RowKit Go.Fwd Go.Proofs
theorem zx8 {l : List AV} (h : cloL l = true) : clo (.iptr l) = true := h
def z6b (fuel : Nat) (p : Tr → Option Bool) (l : (List Tr)) : Option Int :=
 (zds (τ := Unit) (zcl (β := Int) (fun s1 => (bif (decide (s1 < (List.length l : Int))) then (chk (0 ≤ s1 ∧ s1 < (List.length l : Int)) (zal (ix l s1) (fun x1 => (zau (p x1) (fun x2 => (bif x2 then (some (Sum.inr (Sum.inr s1))) else (chk (-9223372036854775808 ≤ (s1 + 1) ∧ (s1 + 1) < 9223372036854775808) (some (Sum.inl ((s1 + 1))))))))))) else (some (Sum.inr (Sum.inl ()))))) fuel (0)) (fun j1 => (some (-1))))
theorem ent51 : Ent Try.prog 51 := enters_of Try.func51 (by kernel_rfl) rfl
theorem ixf_sh (fuel : Nat) (p : Tr → Option Bool) (l : (List Tr)) (r : Int) (g : FuncId) (hp : ∀ x y, p x = some y → Pure (ITP Try.prog) Try.prog g [.A x] (.raw (.bool y))) (h : z6b fuel p l = some r) : Pure (ITP Try.prog) Try.prog 51 [.L (l : List Tr), .clos g []] (.raw (.int .i64 r)) := by
 unfold z6b at h
 refine zax 17 mix Try.func51 ent51 ?_
 refine zr [.v (.i 0)] ?_
 refine za3 h (bz 0 19 524287) (fun j1 => []) (fun j1 => (.B [])) ?_ ?_
 intro or1 h hr1
 refine zr [.m _, .v (.i (List.length l : Int)), .v (.i 0)] ?_
 refine zt ?_
 refine zcp h (bz 0 19 524156) (fun s1 => [(8, .i s1)]) (fun s1 => (.B [])) ?_ ?_
 exact zc1 (bl 19 387)
 intro s1 p1 h
 refine zf9 ?_
 refine zr [.v (.b (decide (s1 < (List.length l : Int))))] ?_
 refine ze ?_
 refine zbv h (fun hc1 h => ?_) (fun hc1 h => ?_)
 refine ze ?_
 refine zt ?_
 refine zr [.m _, .m _] ?_
 refine zr [.m _, .m _, .m _] ?_
 obtain ⟨g1, h⟩ := zh h
 obtain ⟨x1, hx1, h⟩ := zj h
 refine zwf hx1 g1 ?_
 refine w_o (a := .A (x1 : Tr)) ?_
 obtain ⟨x2, hx2, h⟩ := zw h
 refine zbq (r := .b x2) (hp x1 x2 hx2) ?_
 refine zbv h (fun hc2 h => ?_) (fun hc2 h => ?_)
 refine zr [.m _, .m _] ?_
 refine zac h (fun h => ?_)
 replace h := zo h hr1
 exact zd4 h
 refine zd (k0 := 0) (id := 6) ?_
 obtain ⟨g2, h⟩ := zh h
 refine zv1 g2 ?_
 refine zad ?_
 refine zbn (p := p1) ((s1 + 1)) h ?_
 exact zc1 (bl 19 387)
 refine zac h (fun h => ?_)
 refine zg (o := or1) () h ?_
 exact zc1 (bl 19 0)
 intro j1 h
 refine zf9 ?_
 refine zr [.v (.i (-1))] ?_
 exact zd4 h
def F_ixc (fuel : Nat) (p : Tr → Option Bool) (l : (List Tr)) : Option Int :=
 (zds (τ := Unit) (zcl (β := Int) (fun s1 => (bif (decide (s1 < (List.length l : Int))) then (chk (0 ≤ s1 ∧ s1 < (List.length l : Int)) (zal (ix l s1) (fun x1 => (zau (p x1) (fun x2 => (bif x2 then (some (Sum.inr (Sum.inr s1))) else (chk (-9223372036854775808 ≤ (s1 + 1) ∧ (s1 + 1) < 9223372036854775808) (some (Sum.inl ((s1 + 1))))))))))) else (some (Sum.inr (Sum.inl ()))))) fuel (0)) (fun j1 => (some (-1))))
theorem ixc_sh (fuel : Nat) (p : Tr → Option Bool) (l : (List Tr)) (r : Int) (g : FuncId) (c : AV) (hok : clo c = true) (hp : ∀ x y, p x = some y → Pure (ITP Try.prog) Try.prog g [.A x, c] (.raw (.bool y))) (h : F_ixc fuel p l = some r) : Pure (ITP Try.prog) Try.prog 51 [.L (l : List Tr), .clos g [c]] (.raw (.int .i64 r)) := by
 unfold F_ixc at h
 refine zax 17 mix Try.func51 ent51 ?_
 refine zr [.v (.i 0)] ?_
 refine za3 h (bz 0 19 524287) (fun j1 => []) (fun j1 => (.B [])) ?_ ?_
 intro or1 h hr1
 refine zr [.m _, .v (.i (List.length l : Int)), .v (.i 0)] ?_
 refine zt ?_
 refine zcp h (bz 0 19 524156) (fun s1 => [(8, .i s1)]) (fun s1 => (.B [])) ?_ ?_
 exact zc1 (bl 19 387)
 intro s1 p1 h
 refine zf9 ?_
 refine zr [.v (.b (decide (s1 < (List.length l : Int))))] ?_
 refine ze ?_
 refine zbv h (fun hc1 h => ?_) (fun hc1 h => ?_)
 refine ze ?_
 refine zt ?_
 refine zr [.m _, .m _] ?_
 refine zr [.m _, .m _, .m _] ?_
 obtain ⟨g1, h⟩ := zh h
 obtain ⟨x1, hx1, h⟩ := zj h
 refine zwf hx1 g1 ?_
 refine w_o (a := .A (x1 : Tr)) ?_
 obtain ⟨x2, hx2, h⟩ := zw h
 refine zb3 (args' := [.A (x1 : Tr), c]) (r := .b x2) (hp x1 x2 hx2) rfl rfl (zf (zai (zl (Enc.clo _))) (zf (zai hok) rfl)) (zb (zn _ _ (zl (Enc.clo _))) (zb (zn _ _ hok) rfl)) (by dsimp only [zp, List.set]) ?_
 refine zbv h (fun hc2 h => ?_) (fun hc2 h => ?_)
 refine zr [.m _, .m _] ?_
 refine zac h (fun h => ?_)
 replace h := zo h hr1
 exact zd4 h
 refine zd (k0 := 0) (id := 6) ?_
 obtain ⟨g2, h⟩ := zh h
 refine zv1 g2 ?_
 refine zad ?_
 refine zbn (p := p1) ((s1 + 1)) h ?_
 exact zc1 (bl 19 387)
 refine zac h (fun h => ?_)
 refine zg (o := or1) () h ?_
 exact zc1 (bl 19 0)
 intro j1 h
 refine zf9 ?_
 refine zr [.v (.i (-1))] ?_
 exact zd4 h
def zwr (fuel : Nat) (p : Tr → Option Bool) (l : (List Tr)) : Option Bool :=
 (zau (z6b fuel p l) (fun x1 => (some (decide (x1 ≥ 0)))))
theorem ent40 : Ent Try.prog 40 := enters_of Try.func40 (by kernel_rfl) rfl
theorem z3o (fuel : Nat) (p : Tr → Option Bool) (l : (List Tr)) (r : Bool) (g : FuncId) (hp : ∀ x y, p x = some y → Pure (ITP Try.prog) Try.prog g [.A x] (.raw (.bool y))) (h : zwr fuel p l = some r) : Pure (ITP Try.prog) Try.prog 40 [.L (l : List Tr), .clos g []] (.raw (.bool r)) := by
 unfold zwr at h
 refine zax 7 mix Try.func40 ent40 ?_
 refine zr [.v (.b false)] ?_
 refine zr [.m _, .m _] ?_
 obtain ⟨x1, hx1, h⟩ := zw h
 refine zb3 (args' := [.L (l : List Tr), .clos g []]) (r := .i x1) (ixf_sh fuel p l x1 g hp hx1) rfl rfl (zf (zer (Enc.cloL _)) (zf (show AV.clos _ (stripL _) = _ from congrArg (AV.clos _) rfl) rfl)) (zb (zar (Enc.cloL _)) (zb (show z7 _ _ = true from rfl) rfl)) (by dsimp only [zp, List.set]) ?_
 refine w_r [.v (.b (decide (x1 ≥ 0))), .m _] ?_
 exact zas h
def z3z (fuel : Nat) (p : Tr → Option Bool) (l : (List Tr)) : Option Bool :=
 (zau (F_ixc fuel p l) (fun x1 => (some (decide (x1 ≥ 0)))))
theorem z7x (fuel : Nat) (p : Tr → Option Bool) (l : (List Tr)) (r : Bool) (g : FuncId) (c : AV) (hok : clo c = true) (hp : ∀ x y, p x = some y → Pure (ITP Try.prog) Try.prog g [.A x, c] (.raw (.bool y))) (h : z3z fuel p l = some r) : Pure (ITP Try.prog) Try.prog 40 [.L (l : List Tr), .clos g [c]] (.raw (.bool r)) := by
 unfold z3z at h
 refine zax 7 mix Try.func40 ent40 ?_
 refine zr [.v (.b false)] ?_
 refine zr [.m _, .m _] ?_
 obtain ⟨x1, hx1, h⟩ := zw h
 refine zb3 (args' := [.L (l : List Tr), .clos g [c]]) (r := .i x1) (ixc_sh fuel p l x1 g c hok hp hx1) rfl rfl (zf (zer (Enc.cloL _)) (zf (show AV.clos _ (stripL _) = _ from congrArg (AV.clos _) (zf (zai hok) rfl)) rfl)) (zb (zar (Enc.cloL _)) (zb (show z7 _ _ = true from (zb (zn _ _ hok) rfl)) rfl)) (by dsimp only [zp, List.set]) ?_
 refine w_r [.v (.b (decide (x1 ≥ 0))), .m _] ?_
 exact zas h
def zxa (fuel : Nat) (p : Tr → Tr → Option Bool) (a : (List Tr)) (b : (List Tr)) : Option Bool :=
 (bif ((List.length a : Int) != (List.length b : Int)) then (some false) else (zds (τ := Unit) (zcl (β := Int) (fun s1 => (bif (decide (s1 < (List.length a : Int))) then (chk (0 ≤ s1 ∧ s1 < (List.length a : Int)) (zal (ix a s1) (fun x1 => (chk (0 ≤ s1 ∧ s1 < (List.length b : Int)) (zal (ix b s1) (fun x2 => (zau (p x1 x2) (fun x3 => (bif (!x3) then (some (Sum.inr (Sum.inr false))) else (chk (-9223372036854775808 ≤ (s1 + 1) ∧ (s1 + 1) < 9223372036854775808) (some (Sum.inl ((s1 + 1)))))))))))))) else (some (Sum.inr (Sum.inl ()))))) fuel (0)) (fun j1 => (some true))))
theorem ent46 : Ent Try.prog 46 := enters_of Try.func46 (by kernel_rfl) rfl
theorem eqf_sh (fuel : Nat) (p : Tr → Tr → Option Bool) (a : (List Tr)) (b : (List Tr)) (r : Bool) (g : FuncId) (hp : ∀ x y z, p x y = some z → Pure (ITP Try.prog) Try.prog g [.A x, .A y] (.raw (.bool z))) (h : zxa fuel p a b = some r) : Pure (ITP Try.prog) Try.prog 46 [.L (a : List Tr), .L (b : List Tr), .clos g []] (.raw (.bool r)) := by
 unfold zxa at h
 refine zax 29 mix Try.func46 ent46 ?_
 refine zr [.v (.b false)] ?_
 refine ze ?_
 refine zr [.m _, .v (.i (List.length a : Int)), .m _, .v (.i (List.length b : Int)), .v (.b ((List.length a : Int) != (List.length b : Int)))] ?_
 refine zbv h (fun hc1 h => ?_) (fun hc1 h => ?_)
 refine zr [.v (.b false)] ?_
 exact zas h
 refine za3 h (bz 0 32 4294967295) (fun j1 => []) (fun j1 => (.B [])) ?_ ?_
 intro or1 h hr1
 refine zr [.m _, .v (.i (List.length a : Int)), .v (.i 0)] ?_
 refine zt ?_
 refine zcp h (bz 0 32 4294868985) (fun s1 => [(17, .i s1)]) (fun s1 => (.B [])) ?_ ?_
 exact zc1 (bl 32 229382)
 intro s1 p1 h
 refine zf9 ?_
 refine zr [.v (.b (decide (s1 < (List.length a : Int))))] ?_
 refine ze ?_
 refine zbv h (fun hc2 h => ?_) (fun hc2 h => ?_)
 refine ze ?_
 refine zt ?_
 refine zr [.m _] ?_
 obtain ⟨g1, h⟩ := zh h
 obtain ⟨x1, hx1, h⟩ := zj h
 refine zwf hx1 g1 ?_
 refine w_o (a := .A (x1 : Tr)) ?_
 refine zbj (a := .ptr 0 0) (σ'' := (.B [(30, [.u 0, .raw (.int .u64 0), .raw (.int .u64 0), .raw (.int .u64 0), .raw (.int .u64 0), .i 0, .i 0, .list 0 [] .full])])) ?_
 refine zad ?_
 refine zbm 8 (.B [(30, (Enc.cells (x1 : Tr)))]) ?_
 refine zr [.m _, .m _] ?_
 obtain ⟨g2, h⟩ := zh h
 obtain ⟨x2, hx2, h⟩ := zj h
 refine zwf hx2 g2 ?_
 refine w_o (a := .A (x2 : Tr)) ?_
 refine zbj (a := .ptr 1 0) (σ'' := (.B [(30, (Enc.cells (x1 : Tr))), (30, [.u 0, .raw (.int .u64 0), .raw (.int .u64 0), .raw (.int .u64 0), .raw (.int .u64 0), .i 0, .i 0, .list 0 [] .full])])) ?_
 refine zbm 8 (.B [(30, (Enc.cells (x1 : Tr))), (30, (Enc.cells (x2 : Tr)))]) ?_
 refine zr [.m _, .v (.A (x1 : Tr)), .v (.A (x2 : Tr))] ?_
 obtain ⟨x3, hx3, h⟩ := zw h
 refine zbq (r := .b x3) (hp x1 x2 x3 hx3) ?_
 refine w_o (a := .b (!x3)) ?_
 refine zbv h (fun hc3 h => ?_) (fun hc3 h => ?_)
 refine zr [.v (.b false)] ?_
 refine zac h (fun h => ?_)
 replace h := zo h hr1
 exact zas h
 refine zd (k0 := 0) (id := 9) ?_
 obtain ⟨g3, h⟩ := zh h
 refine zv1 g3 ?_
 refine zad ?_
 refine zbn (p := p1) ((s1 + 1)) h ?_
 exact zcn (bl 32 229382) 0 (by kernel_rfl) (Nat.le_of_ble_eq_true rfl) (zbi rfl) (by dsimp only [zaf, zae, List.foldl, List.set, bz, bzc, Nat.reduceMod, Nat.reduceDiv, Nat.reduceBEq, Nat.reduceAdd]; exact (zb rfl (zb (zar (Enc.cloL _)) (zb (show z7 _ _ = true from rfl) (zb rfl (zb rfl (zb rfl (zb rfl (zb rfl (zb rfl (zb rfl (zb rfl (zb rfl (zb rfl (zb rfl (zb rfl (zb (zar (Enc.cloL _)) (by kernel_rfl)))))))))))))))))) (by kernel_rfl)
 refine zac h (fun h => ?_)
 refine zg (o := or1) () h ?_
 exact zc1 (bl 32 0)
 intro j1 h
 refine zf9 ?_
 refine zr [.v (.b true)] ?_
 exact zas h
def z26 (fuel : Nat) (p : Tr → Tr → Option Int) (a : (List Tr)) (b : (List Tr)) : Option Int :=
 (zds (τ := Unit) (zcl (β := Int) (fun s1 => (bif (decide (s1 < (List.length a : Int))) then (chk (0 ≤ s1 ∧ s1 < (List.length a : Int)) (zal (ix a s1) (fun x1 => (bif (decide (s1 ≥ (List.length b : Int))) then (some (Sum.inr (Sum.inr 1))) else (chk (0 ≤ s1 ∧ s1 < (List.length b : Int)) (zal (ix b s1) (fun x2 => (zau (p x1 x2) (fun x3 => (bif (x3 != 0) then (some (Sum.inr (Sum.inr x3))) else (chk (-9223372036854775808 ≤ (s1 + 1) ∧ (s1 + 1) < 9223372036854775808) (some (Sum.inl ((s1 + 1))))))))))))))) else (some (Sum.inr (Sum.inl ()))))) fuel (0)) (fun j1 => (bif (decide ((List.length a : Int) < (List.length b : Int))) then (some (-1)) else (some 0))))
theorem ent88 : Ent Try.prog 88 := enters_of Try.func88 (by kernel_rfl) rfl
theorem cpf_sh (fuel : Nat) (p : Tr → Tr → Option Int) (a : (List Tr)) (b : (List Tr)) (r : Int) (g : FuncId) (hp : ∀ x y z, p x y = some z → Pure (ITP Try.prog) Try.prog g [.A x, .A y] (.raw (.int .i64 z))) (h : z26 fuel p a b = some r) : Pure (ITP Try.prog) Try.prog 88 [.L (a : List Tr), .L (b : List Tr), .clos g []] (.raw (.int .i64 r)) := by
 unfold z26 at h
 refine zax 36 mix Try.func88 ent88 ?_
 refine zr [.v (.i 0)] ?_
 refine za3 h (bz 0 39 549755813884) (fun j1 => []) (fun j1 => (.B [])) ?_ ?_
 intro or1 h hr1
 refine zr [.m _, .v (.i (List.length a : Int)), .v (.i 0)] ?_
 refine zt ?_
 refine zcp h (bz 0 39 549755807736) (fun s1 => [(13, .i s1)]) (fun s1 => (.B [])) ?_ ?_
 exact zc1 (bl 39 14343)
 intro s1 p1 h
 refine zf9 ?_
 refine zr [.v (.b (decide (s1 < (List.length a : Int))))] ?_
 refine ze ?_
 refine zbv h (fun hc1 h => ?_) (fun hc1 h => ?_)
 refine ze ?_
 refine zt ?_
 refine zr [.m _] ?_
 obtain ⟨g1, h⟩ := zh h
 obtain ⟨x1, hx1, h⟩ := zj h
 refine zwf hx1 g1 ?_
 refine w_o (a := .A (x1 : Tr)) ?_
 refine zbj (a := .ptr 0 0) (σ'' := (.B [(30, [.u 0, .raw (.int .u64 0), .raw (.int .u64 0), .raw (.int .u64 0), .raw (.int .u64 0), .i 0, .i 0, .list 0 [] .full])])) ?_
 refine zad ?_
 refine zbm 8 (.B [(30, (Enc.cells (x1 : Tr)))]) ?_
 refine ze ?_
 refine zr [.m _, .m _, .v (.i (List.length b : Int)), .v (.b (decide (s1 ≥ (List.length b : Int))))] ?_
 refine zbv h (fun hc2 h => ?_) (fun hc2 h => ?_)
 refine zr [.v (.i 1)] ?_
 refine zac h (fun h => ?_)
 replace h := zo h hr1
 exact zd4 h
 refine zr [.m _, .m _] ?_
 obtain ⟨g2, h⟩ := zh h
 obtain ⟨x2, hx2, h⟩ := zj h
 refine zwf hx2 g2 ?_
 refine w_o (a := .A (x2 : Tr)) ?_
 refine zbj (a := .ptr 1 0) (σ'' := (.B [(30, (Enc.cells (x1 : Tr))), (30, [.u 0, .raw (.int .u64 0), .raw (.int .u64 0), .raw (.int .u64 0), .raw (.int .u64 0), .i 0, .i 0, .list 0 [] .full])])) ?_
 refine zbm 8 (.B [(30, (Enc.cells (x1 : Tr))), (30, (Enc.cells (x2 : Tr)))]) ?_
 refine zr [.m _, .v (.A (x1 : Tr)), .v (.A (x2 : Tr))] ?_
 obtain ⟨x3, hx3, h⟩ := zw h
 refine zbq (r := .i x3) (hp x1 x2 x3 hx3) ?_
 refine zad ?_
 refine zr [.m _, .v (.b (x3 != 0))] ?_
 refine zbv h (fun hc3 h => ?_) (fun hc3 h => ?_)
 refine zr [.m _, .m _] ?_
 refine zac h (fun h => ?_)
 replace h := zo h hr1
 exact zd4 h
 refine zd (k0 := 0) (id := 10) ?_
 obtain ⟨g3, h⟩ := zh h
 refine zv1 g3 ?_
 refine zad ?_
 refine zbn (p := p1) ((s1 + 1)) h ?_
 exact zcn (bl 39 14343) 0 (by kernel_rfl) (Nat.le_of_ble_eq_true rfl) (zbi rfl) (by dsimp only [zaf, zae, List.foldl, List.set, bz, bzc, Nat.reduceMod, Nat.reduceDiv, Nat.reduceBEq, Nat.reduceAdd]; exact (zb (zar (Enc.cloL _)) (zb (zar (Enc.cloL _)) (zb (show z7 _ _ = true from rfl) (zb rfl (zb rfl (zb rfl (zb rfl (zb rfl (zb rfl (zb rfl (zb rfl (zb (zar (Enc.cloL _)) (by kernel_rfl)))))))))))))) (by kernel_rfl)
 refine zac h (fun h => ?_)
 refine zg (o := or1) () h ?_
 exact zc1 (bl 39 3)
 intro j1 h
 refine zf9 ?_
 refine ze ?_
 refine zr [.m _, .v (.i (List.length a : Int)), .m _, .v (.i (List.length b : Int)), .v (.b (decide ((List.length a : Int) < (List.length b : Int))))] ?_
 refine zbv h (fun hc4 h => ?_) (fun hc4 h => ?_)
 refine zr [.v (.i (-1))] ?_
 exact zd4 h
 refine zr [.v (.i 0)] ?_
 exact zd4 h
def zup (x : Tr) (k : Int) : Option Bool :=
 (some (((x.k : Nat) : Int) == k))
theorem ent64 : Ent Try.prog 64 := enters_of Try.func64 (by kernel_rfl) rfl
theorem has1_sh (x : Tr) (k : Int) (r : Bool) (h : zup x k = some r) : Pure (ITP Try.prog) Try.prog 64 [.A (x : Tr), .iptr [.raw (.int .u8 k)]] (.raw (.bool r)) := by
 unfold zup at h
 refine zax 6 mix Try.func64 ent64 ?_
 refine ze (zd ?_)
 refine zbj (a := .ptr 0 0) (σ'' := (.B [(30, (Enc.cells (x : Tr)))])) ?_
 refine w_o (a := .b false) ?_
 refine zr [.v (.ptr 0 0), .v (.u ((x.k : Nat) : Int)), .v (.u k), .v (.b (((x.k : Nat) : Int) == k)), .m _] ?_
 exact zas h
def zp0 (fuel : Nat) (t : Tr) (k : Int) : Option Bool :=
 (zau (z3z fuel (fun x => zup x k) t.l) (fun x1 => (some x1)))
theorem ent50 : Ent Try.prog 50 := enters_of Try.func50 (by kernel_rfl) rfl
theorem zzg (fuel : Nat) (t : Tr) (k : Int) (r : Bool) (h : zp0 fuel t k = some r) : Pure (ITP Try.prog) Try.prog 50 [.A (t : Tr), .raw (.int .u8 k)] (.raw (.bool r)) := by
 unfold zp0 at h
 refine zax 7 mix Try.func50 ent50 ?_
 refine ze (zd ?_)
 refine zbj (a := .ptr 0 0) (σ'' := (.B [(30, (Enc.cells (t : Tr)))])) ?_
 refine zbj (a := .ptr 1 0) (σ'' := (.B [(30, (Enc.cells (t : Tr))), (5, [.u k])])) ?_
 refine w_o (a := .b false) ?_
 refine zr [.v (.ptr 0 7), .v (.L (t.l : List Tr)), .v (.clos 64 [.ptr 1 0])] ?_
 obtain ⟨x1, hx1, h⟩ := zw h
 refine z1w 1 (args' := [.L (t.l : List Tr), .clos 64 [.iptr [.u k]]]) (r := .b x1) (z7x fuel (fun x => zup x k) t.l x1 64 (.iptr [.u k]) (zx8 (zyl rfl rfl)) (fun x y h => has1_sh x k y h) hx1) rfl rfl (zgi (zwh (zc3 (Enc.cloL _))) (zgi rfl zna)) rfl (by dsimp only [zp, List.set]) ?_
 refine zad ?_
 exact zas h
def zsh (fuel : Nat) (t : Tr) : Option Bool :=
 (zds (τ := Unit) (bif (((t.k : Nat) : Int) != 2) then (bif (decide (t.s ≠ (0#256))) then (some (Sum.inr false)) else (bif (((t.k : Nat) : Int) != 5) then (bif (t.mn != 0) then (some (Sum.inr false)) else (bif (t.mx != 0) then (some (Sum.inr false)) else (bif (decide (((t.k : Nat) : Int) < 3)) then (bif (decide ((List.length t.l : Int) > 0)) then (some (Sum.inr false)) else (some (Sum.inl ()))) else (some (Sum.inl ()))))) else (bif (decide (((t.k : Nat) : Int) < 3)) then (bif (decide ((List.length t.l : Int) > 0)) then (some (Sum.inr false)) else (some (Sum.inl ()))) else (some (Sum.inl ()))))) else (bif (((t.k : Nat) : Int) != 5) then (bif (t.mn != 0) then (some (Sum.inr false)) else (bif (t.mx != 0) then (some (Sum.inr false)) else (bif (decide (((t.k : Nat) : Int) < 3)) then (bif (decide ((List.length t.l : Int) > 0)) then (some (Sum.inr false)) else (some (Sum.inl ()))) else (some (Sum.inl ()))))) else (bif (decide (((t.k : Nat) : Int) < 3)) then (bif (decide ((List.length t.l : Int) > 0)) then (some (Sum.inr false)) else (some (Sum.inl ()))) else (some (Sum.inl ()))))) (fun j1 => (bif (((t.k : Nat) : Int) == 1) then (some true) else (bif (((t.k : Nat) : Int) == 2) then (some (decide (t.s ≠ (0#256)))) else (bif (((t.k : Nat) : Int) == 3) then (bif (decide ((List.length t.l : Int) > 1)) then (zau (zp0 fuel t 1) (fun x1 => (bif (!x1) then (zau (zp0 fuel t 3) (fun x2 => (some (!x2)))) else (some false)))) else (some false)) else (bif (((t.k : Nat) : Int) == 4) then (bif (decide ((List.length t.l : Int) > 1)) then (zau (zp0 fuel t 4) (fun x3 => (some (!x3)))) else (some false)) else (bif (((t.k : Nat) : Int) == 5) then (bif ((List.length t.l : Int) == 1) then (zau (ze7 t.mn t.mx) (fun x4 => (bif x4 then (zau (zp0 fuel t 1) (fun x5 => (some (!x5)))) else (some false)))) else (some false)) else (bif (((t.k : Nat) : Int) == 6) then (some ((List.length t.l : Int) == 1)) else (some false)))))))))
theorem ent39 : Ent Try.prog 39 := enters_of Try.func39 (by kernel_rfl) rfl
theorem z67 (fuel : Nat) (t : Tr) (r : Bool) (h : zsh fuel t = some r) : Pure (ITP Try.prog) Try.prog 39 [.A (t : Tr)] (.raw (.bool r)) := by
 unfold zsh at h
 refine zax 101 mix Try.func39 ent39 ?_
 refine ze (zd ?_)
 refine zbj (a := .ptr 0 0) (σ'' := (.B [(30, (Enc.cells (t : Tr)))])) ?_
 refine w_o (a := .b false) ?_
 refine za3 h (bz 0 102 5070602400912917605986812821501) (fun j1 => []) (fun j1 => (.B [(30, (Enc.cells (t : Tr)))])) ?_ ?_
 intro or1 h hr1
 refine zr [.v (.ptr 0 0), .v (.u ((t.k : Nat) : Int)), .v (.b (((t.k : Nat) : Int) != 2))] ?_
 refine zu h (fun hc1 h => ?_) (fun hc1 h => ?_)
 refine zaw hc1 ?_
 refine w_r [.v (.ptr 0 1), .v (.A (t.s : BS)), .v (.A (0#256 : BS))] ?_
 refine zab rfl rfl ?_
 refine zj5 (.b (decide (t.s ≠ (0#256)))) rfl rfl rfl (zug t.s (0#256) rfl rfl rfl) (by dsimp only [zp, List.set]) ?_
 refine w_o (a := .b (decide (t.s ≠ (0#256)))) ?_
 refine zu h (fun hc2 h => ?_) (fun hc2 h => ?_)
 refine zaw hc2 ?_
 refine w_r [.p, .p, .p, .p, .p] ?_
 refine w_r [.p, .p, .p, .p, .p] ?_
 refine w_r [.p, .p, .p, .v (.b true), .m _] ?_
 refine w_r [.p, .p, .p, .p, .p] ?_
 refine w_r [.p, .p, .p, .p, .v (.b true)] ?_
 refine zba rfl ?_
 refine zr [.v (.b false)] ?_
 replace h := zo h hr1
 exact zas h
 refine zaw hc2 ?_
 refine w_r [.v (.ptr 0 0), .v (.u ((t.k : Nat) : Int)), .v (.b (((t.k : Nat) : Int) != 5))] ?_
 refine zab rfl rfl ?_
 refine zu h (fun hc3 h => ?_) (fun hc3 h => ?_)
 refine zaw hc3 ?_
 refine w_r [.v (.ptr 0 5), .v (.i t.mn), .v (.b (t.mn != 0))] ?_
 refine zab rfl rfl ?_
 refine zu h (fun hc4 h => ?_) (fun hc4 h => ?_)
 refine zaw hc4 ?_
 refine w_r [.p, .p, .p, .v (.b true), .v (.b true)] ?_
 refine w_r [.v (.b true), .m _, .p, .p, .p] ?_
 refine w_r [.p, .p, .p, .p, .p] ?_
 refine w_r [.p, .v (.b true)] ?_
 refine zba rfl ?_
 refine zr [.v (.b false)] ?_
 replace h := zo h hr1
 exact zas h
 refine zaw hc4 ?_
 refine w_r [.v (.ptr 0 6), .v (.i t.mx), .v (.b (t.mx != 0)), .v (.b (t.mx != 0)), .v (.b (t.mx != 0))] ?_
 refine w_r [.v (.b (t.mx != 0))] ?_
 refine zu h (fun hc5 h => ?_) (fun hc5 h => ?_)
 refine zaw hc5 ?_
 refine w_r [.p, .p, .p, .p, .p] ?_
 refine w_r [.p, .p, .p, .p, .v (.b true)] ?_
 refine zba rfl ?_
 refine zr [.v (.b false)] ?_
 replace h := zo h hr1
 exact zas h
 refine zaw hc5 ?_
 refine w_r [.v (.ptr 0 0), .v (.u ((t.k : Nat) : Int)), .v (.b (decide (((t.k : Nat) : Int) < 3)))] ?_
 refine zab rfl rfl ?_
 refine zu h (fun hc6 h => ?_) (fun hc6 h => ?_)
 refine zaw hc6 ?_
 refine w_r [.v (.ptr 0 7), .v (.L (t.l : List Tr)), .v (.i (List.length t.l : Int)), .v (.b (decide ((List.length t.l : Int) > 0))), .v (.b (decide ((List.length t.l : Int) > 0)))] ?_
 refine w_r [.v (.b (decide ((List.length t.l : Int) > 0)))] ?_
 refine zbv h (fun hc7 h => ?_) (fun hc7 h => ?_)
 refine zr [.v (.b false)] ?_
 replace h := zo h hr1
 exact zas h
 refine zg (o := or1) () h ?_
 exact zc1 (bl 102 2)
 refine zaw hc6 ?_
 refine w_r [.p, .p, .p, .p, .v (.b false)] ?_
 refine w_r [.v (.b false)] ?_
 refine zay rfl ?_
 refine zg (o := or1) () h ?_
 exact zc1 (bl 102 2)
 refine zaw hc3 ?_
 refine w_r [.p, .p, .p, .p, .p] ?_
 refine w_r [.p, .p, .p, .v (.b false), .v (.b false)] ?_
 refine w_r [.m _, .v (.ptr 0 0), .v (.u ((t.k : Nat) : Int)), .v (.b (decide (((t.k : Nat) : Int) < 3)))] ?_
 refine zab rfl rfl ?_
 refine zu h (fun hc8 h => ?_) (fun hc8 h => ?_)
 refine zaw hc8 ?_
 refine w_r [.v (.ptr 0 7), .v (.L (t.l : List Tr)), .v (.i (List.length t.l : Int)), .v (.b (decide ((List.length t.l : Int) > 0))), .v (.b (decide ((List.length t.l : Int) > 0)))] ?_
 refine w_r [.v (.b (decide ((List.length t.l : Int) > 0)))] ?_
 refine zbv h (fun hc9 h => ?_) (fun hc9 h => ?_)
 refine zr [.v (.b false)] ?_
 replace h := zo h hr1
 exact zas h
 refine zg (o := or1) () h ?_
 exact zc1 (bl 102 2)
 refine zaw hc8 ?_
 refine w_r [.p, .p, .p, .p, .v (.b false)] ?_
 refine w_r [.v (.b false)] ?_
 refine zay rfl ?_
 refine zg (o := or1) () h ?_
 exact zc1 (bl 102 2)
 refine zaw hc1 ?_
 refine w_r [.p, .p, .p, .p, .v (.b false)] ?_
 refine w_r [.m _, .v (.ptr 0 0), .v (.u ((t.k : Nat) : Int)), .v (.b (((t.k : Nat) : Int) != 5))] ?_
 refine zab rfl rfl ?_
 refine zu h (fun hc10 h => ?_) (fun hc10 h => ?_)
 refine zaw hc10 ?_
 refine w_r [.v (.ptr 0 5), .v (.i t.mn), .v (.b (t.mn != 0))] ?_
 refine zab rfl rfl ?_
 refine zu h (fun hc11 h => ?_) (fun hc11 h => ?_)
 refine zaw hc11 ?_
 refine w_r [.p, .p, .p, .v (.b true), .v (.b true)] ?_
 refine w_r [.v (.b true), .m _, .p, .p, .p] ?_
 refine w_r [.p, .p, .p, .p, .p] ?_
 refine w_r [.p, .v (.b true)] ?_
 refine zba rfl ?_
 refine zr [.v (.b false)] ?_
 replace h := zo h hr1
 exact zas h
 refine zaw hc11 ?_
 refine w_r [.v (.ptr 0 6), .v (.i t.mx), .v (.b (t.mx != 0)), .v (.b (t.mx != 0)), .v (.b (t.mx != 0))] ?_
 refine w_r [.v (.b (t.mx != 0))] ?_
 refine zu h (fun hc12 h => ?_) (fun hc12 h => ?_)
 refine zaw hc12 ?_
 refine w_r [.p, .p, .p, .p, .p] ?_
 refine w_r [.p, .p, .p, .p, .v (.b true)] ?_
 refine zba rfl ?_
 refine zr [.v (.b false)] ?_
 replace h := zo h hr1
 exact zas h
 refine zaw hc12 ?_
 refine w_r [.v (.ptr 0 0), .v (.u ((t.k : Nat) : Int)), .v (.b (decide (((t.k : Nat) : Int) < 3)))] ?_
 refine zab rfl rfl ?_
 refine zu h (fun hc13 h => ?_) (fun hc13 h => ?_)
 refine zaw hc13 ?_
 refine w_r [.v (.ptr 0 7), .v (.L (t.l : List Tr)), .v (.i (List.length t.l : Int)), .v (.b (decide ((List.length t.l : Int) > 0))), .v (.b (decide ((List.length t.l : Int) > 0)))] ?_
 refine w_r [.v (.b (decide ((List.length t.l : Int) > 0)))] ?_
 refine zbv h (fun hc14 h => ?_) (fun hc14 h => ?_)
 refine zr [.v (.b false)] ?_
 replace h := zo h hr1
 exact zas h
 refine zg (o := or1) () h ?_
 exact zc1 (bl 102 2)
 refine zaw hc13 ?_
 refine w_r [.p, .p, .p, .p, .v (.b false)] ?_
 refine w_r [.v (.b false)] ?_
 refine zay rfl ?_
 refine zg (o := or1) () h ?_
 exact zc1 (bl 102 2)
 refine zaw hc10 ?_
 refine w_r [.p, .p, .p, .p, .p] ?_
 refine w_r [.p, .p, .p, .v (.b false), .v (.b false)] ?_
 refine w_r [.m _, .v (.ptr 0 0), .v (.u ((t.k : Nat) : Int)), .v (.b (decide (((t.k : Nat) : Int) < 3)))] ?_
 refine zab rfl rfl ?_
 refine zu h (fun hc15 h => ?_) (fun hc15 h => ?_)
 refine zaw hc15 ?_
 refine w_r [.v (.ptr 0 7), .v (.L (t.l : List Tr)), .v (.i (List.length t.l : Int)), .v (.b (decide ((List.length t.l : Int) > 0))), .v (.b (decide ((List.length t.l : Int) > 0)))] ?_
 refine w_r [.v (.b (decide ((List.length t.l : Int) > 0)))] ?_
 refine zbv h (fun hc16 h => ?_) (fun hc16 h => ?_)
 refine zr [.v (.b false)] ?_
 replace h := zo h hr1
 exact zas h
 refine zg (o := or1) () h ?_
 exact zc1 (bl 102 2)
 refine zaw hc15 ?_
 refine w_r [.p, .p, .p, .p, .v (.b false)] ?_
 refine w_r [.v (.b false)] ?_
 refine zay rfl ?_
 refine zg (o := or1) () h ?_
 exact zc1 (bl 102 2)
 intro j1 h
 refine zf9 ?_
 refine ze ?_
 refine zr [.v (.ptr 0 0), .v (.u ((t.k : Nat) : Int))] ?_
 refine zt ?_
 refine zr [.v (.b (((t.k : Nat) : Int) == 1)), .m _] ?_
 refine zbv h (fun hc17 h => ?_) (fun hc17 h => ?_)
 refine zr [.v (.b true)] ?_
 exact zas h
 refine zr [.v (.b (((t.k : Nat) : Int) == 2)), .m _] ?_
 refine zbv h (fun hc18 h => ?_) (fun hc18 h => ?_)
 refine zr [.v (.ptr 0 1), .v (.A (t.s : BS)), .v (.A (0#256 : BS))] ?_
 refine zj5 (.b (decide (t.s ≠ (0#256)))) rfl rfl rfl (zug t.s (0#256) rfl rfl rfl) (by dsimp only [zp, List.set]) ?_
 refine zad ?_
 exact zas h
 refine zr [.v (.b (((t.k : Nat) : Int) == 3)), .m _] ?_
 refine zbv h (fun hc19 h => ?_) (fun hc19 h => ?_)
 refine zr [.v (.ptr 0 7), .v (.L (t.l : List Tr)), .v (.i (List.length t.l : Int)), .v (.b (decide ((List.length t.l : Int) > 1)))] ?_
 refine zu h (fun hc20 h => ?_) (fun hc20 h => ?_)
 refine zaw hc20 ?_
 refine zab rfl rfl ?_
 refine w_o (a := .A (t : Tr)) ?_
 refine zab rfl rfl ?_
 obtain ⟨x1, hx1, h⟩ := zw h
 refine zbq (zzg fuel t 1 x1 hx1) ?_
 refine w_r [.v (.b (!x1)), .v (.b (!x1))] ?_
 refine zu h (fun hc21 h => ?_) (fun hc21 h => ?_)
 refine zaw hc21 ?_
 refine zab rfl rfl ?_
 refine w_o (a := .A (t : Tr)) ?_
 refine zab rfl rfl ?_
 obtain ⟨x2, hx2, h⟩ := zw h
 refine zbq (zzg fuel t 3 x2 hx2) ?_
 refine w_r [.v (.b (!x2)), .v (.b (!x2)), .m _] ?_
 exact zas h
 refine zaw hc21 ?_
 refine w_r [.p, .p, .p, .v (.b false), .m _] ?_
 exact zas h
 refine zaw hc20 ?_
 refine w_r [.p, .p, .p, .v (.b false), .m _] ?_
 refine w_r [.p, .p, .p, .v (.b false), .m _] ?_
 exact zas h
 refine zr [.v (.b (((t.k : Nat) : Int) == 4)), .m _] ?_
 refine zbv h (fun hc22 h => ?_) (fun hc22 h => ?_)
 refine zr [.v (.ptr 0 7), .v (.L (t.l : List Tr)), .v (.i (List.length t.l : Int)), .v (.b (decide ((List.length t.l : Int) > 1)))] ?_
 refine zu h (fun hc23 h => ?_) (fun hc23 h => ?_)
 refine zaw hc23 ?_
 refine zab rfl rfl ?_
 refine w_o (a := .A (t : Tr)) ?_
 refine zab rfl rfl ?_
 obtain ⟨x3, hx3, h⟩ := zw h
 refine zbq (zzg fuel t 4 x3 hx3) ?_
 refine w_r [.v (.b (!x3)), .v (.b (!x3)), .m _] ?_
 exact zas h
 refine zaw hc23 ?_
 refine w_r [.p, .p, .p, .v (.b false), .m _] ?_
 exact zas h
 refine zr [.v (.b (((t.k : Nat) : Int) == 5)), .m _] ?_
 refine zbv h (fun hc24 h => ?_) (fun hc24 h => ?_)
 refine zr [.v (.ptr 0 7), .v (.L (t.l : List Tr)), .v (.i (List.length t.l : Int)), .v (.b ((List.length t.l : Int) == 1))] ?_
 refine zu h (fun hc25 h => ?_) (fun hc25 h => ?_)
 refine zaw hc25 ?_
 refine w_r [.v (.ptr 0 5), .v (.i t.mn), .v (.ptr 0 6), .v (.i t.mx)] ?_
 refine zab rfl rfl ?_
 obtain ⟨x4, hx4, h⟩ := zw h
 refine zbq (zh1 t.mn t.mx x4 hx4) ?_
 refine w_o (a := .b x4) ?_
 refine zu h (fun hc26 h => ?_) (fun hc26 h => ?_)
 refine zaw hc26 ?_
 refine zab rfl rfl ?_
 refine w_o (a := .A (t : Tr)) ?_
 refine zab rfl rfl ?_
 obtain ⟨x5, hx5, h⟩ := zw h
 refine zbq (zzg fuel t 1 x5 hx5) ?_
 refine w_r [.v (.b (!x5)), .v (.b (!x5)), .m _] ?_
 exact zas h
 refine zaw hc26 ?_
 refine w_r [.p, .p, .p, .v (.b false), .m _] ?_
 exact zas h
 refine zaw hc25 ?_
 refine w_r [.p, .p, .p, .p, .p] ?_
 refine w_r [.v (.b false), .m _, .p, .p, .p] ?_
 refine w_r [.v (.b false), .m _] ?_
 exact zas h
 refine zr [.v (.ptr 0 0), .v (.u ((t.k : Nat) : Int)), .v (.b (((t.k : Nat) : Int) == 6))] ?_
 refine zu h (fun hc27 h => ?_) (fun hc27 h => ?_)
 refine zaw hc27 ?_
 refine w_r [.v (.ptr 0 7), .v (.L (t.l : List Tr)), .v (.i (List.length t.l : Int)), .v (.b ((List.length t.l : Int) == 1)), .v (.b ((List.length t.l : Int) == 1))] ?_
 refine w_r [.m _] ?_
 exact zas h
 refine zaw hc27 ?_
 refine w_r [.p, .p, .p, .p, .v (.b false)] ?_
 refine w_r [.m _] ?_
 exact zas h
end Go.Ab
