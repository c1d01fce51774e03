/-
  rx: functions of closures; has, right, same.
-/
import Derived.Test.YtmoncghgagmilaaZnW1
import Derived.Test.YtmoncghgagmilaaZdQr
set_option linter.unusedSimpArgs false
set_option linter.unusedVariables false
set_option maxRecDepth 100000
set_option maxHeartbeats 4000000
namespace Go.Ab
open Go Go.RowKit Go.Fwd Go.Proofs
theorem zza {l : List AV} (h : cloL l = true) : clo (.iptr l) = true := h
def z62 (fuel : Nat) (p : Tr → Option Bool) (l : (List Tr)) : Option Int :=
 (zdo (τ := Unit) (zch (β := Int) (fun s1 => (bif (decide (s1 < (List.length l : Int))) then (chk (0 ≤ s1 ∧ s1 < (List.length l : Int)) (zan (ix l s1) (fun x1 => (za3 (p x1) (fun x2 => (bif x2 then (some (Sum.inr (Sum.inr s1))) else (chk (-9223372036854775808 ≤ (s1 + 1) ∧ (s1 + 1) < 9223372036854775808) (some (Sum.inl ((s1 + 1))))))))))) else (some (Sum.inr (Sum.inl ()))))) fuel (0)) (fun j1 => (some (-1))))
theorem ent51 : Ent Try.prog 51 := enters_of Try.func51 (by kernel_rfl) rfl
theorem ixf_sh (fuel : Nat) (p : Tr → Option Bool) (l : (List Tr)) (r : Int) (g : FuncId) (hp : ∀ x y, p x = some y → Pure (ITP Try.prog) Try.prog g [.A x] (.raw (.bool y))) (h : z62 fuel p l = some r) : Pure (ITP Try.prog) Try.prog 51 [.L (l : List Tr), .clos g []] (.raw (.int .i64 r)) := by
 unfold z62 at h
 refine zaw 17 mix Try.func51 ent51 ?_
 refine zw [.v (.i 0)] ?_
 refine za0 h (bz 0 19 524287) (fun j1 => []) (fun j1 => (.B [])) ?_ ?_
 intro or1 h hr1
 refine zw [.m _, .v (.i (List.length l : Int)), .v (.i 0)] ?_
 refine zr ?_
 refine zcf h (bz 0 19 524156) (fun s1 => [(8, .i s1)]) (fun s1 => (.B [])) ?_ ?_
 exact zc7 (bl 19 387)
 intro s1 p1 h
 refine zf8 ?_
 refine zw [.v (.b (decide (s1 < (List.length l : Int))))] ?_
 refine ze ?_
 refine zbu h (fun hc1 h => ?_) (fun hc1 h => ?_)
 refine ze ?_
 refine zr ?_
 refine zw [.m _, .m _] ?_
 refine zw [.m _, .m _, .m _] ?_
 obtain ⟨g1, h⟩ := zh h
 obtain ⟨x1, hx1, h⟩ := zj h
 refine zzn hx1 g1 ?_
 refine w_o (a := .A (x1 : Tr)) ?_
 obtain ⟨x2, hx2, h⟩ := zaa h
 refine zbs (r := .b x2) (hp x1 x2 hx2) ?_
 refine zbu h (fun hc2 h => ?_) (fun hc2 h => ?_)
 refine zw [.m _, .m _] ?_
 refine zae h (fun h => ?_)
 replace h := zp h hr1
 exact zd0 h
 refine zc (k0 := 0) (id := 6) ?_
 obtain ⟨g2, h⟩ := zh h
 refine zwt g2 ?_
 refine zab ?_
 refine zbb (p := p1) ((s1 + 1)) h ?_
 exact zc7 (bl 19 387)
 refine zae h (fun h => ?_)
 refine zg (o := or1) () h ?_
 exact zc7 (bl 19 0)
 intro j1 h
 refine zf8 ?_
 refine zw [.v (.i (-1))] ?_
 exact zd0 h
def F_ixc (fuel : Nat) (p : Tr → Option Bool) (l : (List Tr)) : Option Int :=
 (zdo (τ := Unit) (zch (β := Int) (fun s1 => (bif (decide (s1 < (List.length l : Int))) then (chk (0 ≤ s1 ∧ s1 < (List.length l : Int)) (zan (ix l s1) (fun x1 => (za3 (p x1) (fun x2 => (bif x2 then (some (Sum.inr (Sum.inr s1))) else (chk (-9223372036854775808 ≤ (s1 + 1) ∧ (s1 + 1) < 9223372036854775808) (some (Sum.inl ((s1 + 1))))))))))) else (some (Sum.inr (Sum.inl ()))))) fuel (0)) (fun j1 => (some (-1))))
theorem ixc_sh (fuel : Nat) (p : Tr → Option Bool) (l : (List Tr)) (r : Int) (g : FuncId) (c : AV) (hok : clo c = true) (hp : ∀ x y, p x = some y → Pure (ITP Try.prog) Try.prog g [.A x, c] (.raw (.bool y))) (h : F_ixc fuel p l = some r) : Pure (ITP Try.prog) Try.prog 51 [.L (l : List Tr), .clos g [c]] (.raw (.int .i64 r)) := by
 unfold F_ixc at h
 refine zaw 17 mix Try.func51 ent51 ?_
 refine zw [.v (.i 0)] ?_
 refine za0 h (bz 0 19 524287) (fun j1 => []) (fun j1 => (.B [])) ?_ ?_
 intro or1 h hr1
 refine zw [.m _, .v (.i (List.length l : Int)), .v (.i 0)] ?_
 refine zr ?_
 refine zcf h (bz 0 19 524156) (fun s1 => [(8, .i s1)]) (fun s1 => (.B [])) ?_ ?_
 exact zc7 (bl 19 387)
 intro s1 p1 h
 refine zf8 ?_
 refine zw [.v (.b (decide (s1 < (List.length l : Int))))] ?_
 refine ze ?_
 refine zbu h (fun hc1 h => ?_) (fun hc1 h => ?_)
 refine ze ?_
 refine zr ?_
 refine zw [.m _, .m _] ?_
 refine zw [.m _, .m _, .m _] ?_
 obtain ⟨g1, h⟩ := zh h
 obtain ⟨x1, hx1, h⟩ := zj h
 refine zzn hx1 g1 ?_
 refine w_o (a := .A (x1 : Tr)) ?_
 obtain ⟨x2, hx2, h⟩ := zaa h
 refine za1 (args' := [.A (x1 : Tr), c]) (r := .b x2) (hp x1 x2 hx2) rfl rfl (zf (zaf (zl (Enc.clo _))) (zf (zaf hok) rfl)) (zb (zm _ _ (zl (Enc.clo _))) (zb (zm _ _ hok) rfl)) (by dsimp only [zn, List.set]) ?_
 refine zbu h (fun hc2 h => ?_) (fun hc2 h => ?_)
 refine zw [.m _, .m _] ?_
 refine zae h (fun h => ?_)
 replace h := zp h hr1
 exact zd0 h
 refine zc (k0 := 0) (id := 6) ?_
 obtain ⟨g2, h⟩ := zh h
 refine zwt g2 ?_
 refine zab ?_
 refine zbb (p := p1) ((s1 + 1)) h ?_
 exact zc7 (bl 19 387)
 refine zae h (fun h => ?_)
 refine zg (o := or1) () h ?_
 exact zc7 (bl 19 0)
 intro j1 h
 refine zf8 ?_
 refine zw [.v (.i (-1))] ?_
 exact zd0 h
def zwq (fuel : Nat) (p : Tr → Option Bool) (l : (List Tr)) : Option Bool :=
 (za3 (z62 fuel p l) (fun x1 => (some (decide (x1 ≥ 0)))))
theorem ent40 : Ent Try.prog 40 := enters_of Try.func40 (by kernel_rfl) rfl
theorem z1g (fuel : Nat) (p : Tr → Option Bool) (l : (List Tr)) (r : Bool) (g : FuncId) (hp : ∀ x y, p x = some y → Pure (ITP Try.prog) Try.prog g [.A x] (.raw (.bool y))) (h : zwq fuel p l = some r) : Pure (ITP Try.prog) Try.prog 40 [.L (l : List Tr), .clos g []] (.raw (.bool r)) := by
 unfold zwq at h
 refine zaw 7 mix Try.func40 ent40 ?_
 refine zw [.v (.b false)] ?_
 refine zw [.m _, .m _] ?_
 obtain ⟨x1, hx1, h⟩ := zaa h
 refine za1 (args' := [.L (l : List Tr), .clos g []]) (r := .i x1) (ixf_sh fuel p l x1 g hp hx1) rfl rfl (zf (zds (Enc.cloL _)) (zf (show AV.clos _ (stripL _) = _ from congrArg (AV.clos _) rfl) rfl)) (zb (zah (Enc.cloL _)) (zb (show z7 _ _ = true from rfl) rfl)) (by dsimp only [zn, List.set]) ?_
 refine w_r [.v (.b (decide (x1 ≥ 0))), .m _] ?_
 exact za4 h
def z33 (fuel : Nat) (p : Tr → Option Bool) (l : (List Tr)) : Option Bool :=
 (za3 (F_ixc fuel p l) (fun x1 => (some (decide (x1 ≥ 0)))))
theorem z74 (fuel : Nat) (p : Tr → Option Bool) (l : (List Tr)) (r : Bool) (g : FuncId) (c : AV) (hok : clo c = true) (hp : ∀ x y, p x = some y → Pure (ITP Try.prog) Try.prog g [.A x, c] (.raw (.bool y))) (h : z33 fuel p l = some r) : Pure (ITP Try.prog) Try.prog 40 [.L (l : List Tr), .clos g [c]] (.raw (.bool r)) := by
 unfold z33 at h
 refine zaw 7 mix Try.func40 ent40 ?_
 refine zw [.v (.b false)] ?_
 refine zw [.m _, .m _] ?_
 obtain ⟨x1, hx1, h⟩ := zaa h
 refine za1 (args' := [.L (l : List Tr), .clos g [c]]) (r := .i x1) (ixc_sh fuel p l x1 g c hok hp hx1) rfl rfl (zf (zds (Enc.cloL _)) (zf (show AV.clos _ (stripL _) = _ from congrArg (AV.clos _) (zf (zaf hok) rfl)) rfl)) (zb (zah (Enc.cloL _)) (zb (show z7 _ _ = true from (zb (zm _ _ hok) rfl)) rfl)) (by dsimp only [zn, List.set]) ?_
 refine w_r [.v (.b (decide (x1 ≥ 0))), .m _] ?_
 exact za4 h
def zw3 (fuel : Nat) (p : Tr → Tr → Option Bool) (a : (List Tr)) (b : (List Tr)) : Option Bool :=
 (bif ((List.length a : Int) != (List.length b : Int)) then (some false) else (zdo (τ := Unit) (zch (β := Int) (fun s1 => (bif (decide (s1 < (List.length a : Int))) then (chk (0 ≤ s1 ∧ s1 < (List.length a : Int)) (zan (ix a s1) (fun x1 => (chk (0 ≤ s1 ∧ s1 < (List.length b : Int)) (zan (ix b s1) (fun x2 => (za3 (p x1 x2) (fun x3 => (bif (!x3) then (some (Sum.inr (Sum.inr false))) else (chk (-9223372036854775808 ≤ (s1 + 1) ∧ (s1 + 1) < 9223372036854775808) (some (Sum.inl ((s1 + 1)))))))))))))) else (some (Sum.inr (Sum.inl ()))))) fuel (0)) (fun j1 => (some true))))
theorem ent46 : Ent Try.prog 46 := enters_of Try.func46 (by kernel_rfl) rfl
theorem eqf_sh (fuel : Nat) (p : Tr → Tr → Option Bool) (a : (List Tr)) (b : (List Tr)) (r : Bool) (g : FuncId) (hp : ∀ x y z, p x y = some z → Pure (ITP Try.prog) Try.prog g [.A x, .A y] (.raw (.bool z))) (h : zw3 fuel p a b = some r) : Pure (ITP Try.prog) Try.prog 46 [.L (a : List Tr), .L (b : List Tr), .clos g []] (.raw (.bool r)) := by
 unfold zw3 at h
 refine zaw 29 mix Try.func46 ent46 ?_
 refine zw [.v (.b false)] ?_
 refine ze ?_
 refine zw [.m _, .v (.i (List.length a : Int)), .m _, .v (.i (List.length b : Int)), .v (.b ((List.length a : Int) != (List.length b : Int)))] ?_
 refine zbu h (fun hc1 h => ?_) (fun hc1 h => ?_)
 refine zw [.v (.b false)] ?_
 exact za4 h
 refine za0 h (bz 0 32 4294967295) (fun j1 => []) (fun j1 => (.B [])) ?_ ?_
 intro or1 h hr1
 refine zw [.m _, .v (.i (List.length a : Int)), .v (.i 0)] ?_
 refine zr ?_
 refine zcf h (bz 0 32 4294868985) (fun s1 => [(17, .i s1)]) (fun s1 => (.B [])) ?_ ?_
 exact zc7 (bl 32 229382)
 intro s1 p1 h
 refine zf8 ?_
 refine zw [.v (.b (decide (s1 < (List.length a : Int))))] ?_
 refine ze ?_
 refine zbu h (fun hc2 h => ?_) (fun hc2 h => ?_)
 refine ze ?_
 refine zr ?_
 refine zw [.m _] ?_
 obtain ⟨g1, h⟩ := zh h
 obtain ⟨x1, hx1, h⟩ := zj h
 refine zzn hx1 g1 ?_
 refine w_o (a := .A (x1 : Tr)) ?_
 refine zbc (a := .ptr 0 0) (σ'' := (.B [(30, [.u 0, .raw (.int .u64 0), .raw (.int .u64 0), .raw (.int .u64 0), .raw (.int .u64 0), .i 0, .i 0, .list 0 [] .full])])) ?_
 refine zab ?_
 refine zbk 8 (.B [(30, (Enc.cells (x1 : Tr)))]) ?_
 refine zw [.m _, .m _] ?_
 obtain ⟨g2, h⟩ := zh h
 obtain ⟨x2, hx2, h⟩ := zj h
 refine zzn hx2 g2 ?_
 refine w_o (a := .A (x2 : Tr)) ?_
 refine zbc (a := .ptr 1 0) (σ'' := (.B [(30, (Enc.cells (x1 : Tr))), (30, [.u 0, .raw (.int .u64 0), .raw (.int .u64 0), .raw (.int .u64 0), .raw (.int .u64 0), .i 0, .i 0, .list 0 [] .full])])) ?_
 refine zbk 8 (.B [(30, (Enc.cells (x1 : Tr))), (30, (Enc.cells (x2 : Tr)))]) ?_
 refine zw [.m _, .v (.A (x1 : Tr)), .v (.A (x2 : Tr))] ?_
 obtain ⟨x3, hx3, h⟩ := zaa h
 refine zbs (r := .b x3) (hp x1 x2 x3 hx3) ?_
 refine w_o (a := .b (!x3)) ?_
 refine zbu h (fun hc3 h => ?_) (fun hc3 h => ?_)
 refine zw [.v (.b false)] ?_
 refine zae h (fun h => ?_)
 replace h := zp h hr1
 exact za4 h
 refine zc (k0 := 0) (id := 9) ?_
 obtain ⟨g3, h⟩ := zh h
 refine zwt g3 ?_
 refine zab ?_
 refine zbb (p := p1) ((s1 + 1)) h ?_
 exact zb3 (bl 32 229382) 0 (by kernel_rfl) (Nat.le_of_ble_eq_true rfl) (zba rfl) (by dsimp only [zz, zad, List.foldl, List.set, bz, bzc, Nat.reduceMod, Nat.reduceDiv, Nat.reduceBEq, Nat.reduceAdd]; exact (zb rfl (zb (zah (Enc.cloL _)) (zb (show z7 _ _ = true from rfl) (zb rfl (zb rfl (zb rfl (zb rfl (zb rfl (zb rfl (zb rfl (zb rfl (zb rfl (zb rfl (zb rfl (zb rfl (zb (zah (Enc.cloL _)) (by kernel_rfl)))))))))))))))))) (by kernel_rfl)
 refine zae h (fun h => ?_)
 refine zg (o := or1) () h ?_
 exact zc7 (bl 32 0)
 intro j1 h
 refine zf8 ?_
 refine zw [.v (.b true)] ?_
 exact za4 h
def z1r (fuel : Nat) (p : Tr → Tr → Option Int) (a : (List Tr)) (b : (List Tr)) : Option Int :=
 (zdo (τ := Unit) (zch (β := Int) (fun s1 => (bif (decide (s1 < (List.length a : Int))) then (chk (0 ≤ s1 ∧ s1 < (List.length a : Int)) (zan (ix a s1) (fun x1 => (bif (decide (s1 ≥ (List.length b : Int))) then (some (Sum.inr (Sum.inr 1))) else (chk (0 ≤ s1 ∧ s1 < (List.length b : Int)) (zan (ix b s1) (fun x2 => (za3 (p x1 x2) (fun x3 => (bif (x3 != 0) then (some (Sum.inr (Sum.inr x3))) else (chk (-9223372036854775808 ≤ (s1 + 1) ∧ (s1 + 1) < 9223372036854775808) (some (Sum.inl ((s1 + 1))))))))))))))) else (some (Sum.inr (Sum.inl ()))))) fuel (0)) (fun j1 => (bif (decide ((List.length a : Int) < (List.length b : Int))) then (some (-1)) else (some 0))))
theorem ent88 : Ent Try.prog 88 := enters_of Try.func88 (by kernel_rfl) rfl
theorem cpf_sh (fuel : Nat) (p : Tr → Tr → Option Int) (a : (List Tr)) (b : (List Tr)) (r : Int) (g : FuncId) (hp : ∀ x y z, p x y = some z → Pure (ITP Try.prog) Try.prog g [.A x, .A y] (.raw (.int .i64 z))) (h : z1r fuel p a b = some r) : Pure (ITP Try.prog) Try.prog 88 [.L (a : List Tr), .L (b : List Tr), .clos g []] (.raw (.int .i64 r)) := by
 unfold z1r at h
 refine zaw 36 mix Try.func88 ent88 ?_
 refine zw [.v (.i 0)] ?_
 refine za0 h (bz 0 39 549755813884) (fun j1 => []) (fun j1 => (.B [])) ?_ ?_
 intro or1 h hr1
 refine zw [.m _, .v (.i (List.length a : Int)), .v (.i 0)] ?_
 refine zr ?_
 refine zcf h (bz 0 39 549755807736) (fun s1 => [(13, .i s1)]) (fun s1 => (.B [])) ?_ ?_
 exact zc7 (bl 39 14343)
 intro s1 p1 h
 refine zf8 ?_
 refine zw [.v (.b (decide (s1 < (List.length a : Int))))] ?_
 refine ze ?_
 refine zbu h (fun hc1 h => ?_) (fun hc1 h => ?_)
 refine ze ?_
 refine zr ?_
 refine zw [.m _] ?_
 obtain ⟨g1, h⟩ := zh h
 obtain ⟨x1, hx1, h⟩ := zj h
 refine zzn hx1 g1 ?_
 refine w_o (a := .A (x1 : Tr)) ?_
 refine zbc (a := .ptr 0 0) (σ'' := (.B [(30, [.u 0, .raw (.int .u64 0), .raw (.int .u64 0), .raw (.int .u64 0), .raw (.int .u64 0), .i 0, .i 0, .list 0 [] .full])])) ?_
 refine zab ?_
 refine zbk 8 (.B [(30, (Enc.cells (x1 : Tr)))]) ?_
 refine ze ?_
 refine zw [.m _, .m _, .v (.i (List.length b : Int)), .v (.b (decide (s1 ≥ (List.length b : Int))))] ?_
 refine zbu h (fun hc2 h => ?_) (fun hc2 h => ?_)
 refine zw [.v (.i 1)] ?_
 refine zae h (fun h => ?_)
 replace h := zp h hr1
 exact zd0 h
 refine zw [.m _, .m _] ?_
 obtain ⟨g2, h⟩ := zh h
 obtain ⟨x2, hx2, h⟩ := zj h
 refine zzn hx2 g2 ?_
 refine w_o (a := .A (x2 : Tr)) ?_
 refine zbc (a := .ptr 1 0) (σ'' := (.B [(30, (Enc.cells (x1 : Tr))), (30, [.u 0, .raw (.int .u64 0), .raw (.int .u64 0), .raw (.int .u64 0), .raw (.int .u64 0), .i 0, .i 0, .list 0 [] .full])])) ?_
 refine zbk 8 (.B [(30, (Enc.cells (x1 : Tr))), (30, (Enc.cells (x2 : Tr)))]) ?_
 refine zw [.m _, .v (.A (x1 : Tr)), .v (.A (x2 : Tr))] ?_
 obtain ⟨x3, hx3, h⟩ := zaa h
 refine zbs (r := .i x3) (hp x1 x2 x3 hx3) ?_
 refine zab ?_
 refine zw [.m _, .v (.b (x3 != 0))] ?_
 refine zbu h (fun hc3 h => ?_) (fun hc3 h => ?_)
 refine zw [.m _, .m _] ?_
 refine zae h (fun h => ?_)
 replace h := zp h hr1
 exact zd0 h
 refine zc (k0 := 0) (id := 10) ?_
 obtain ⟨g3, h⟩ := zh h
 refine zwt g3 ?_
 refine zab ?_
 refine zbb (p := p1) ((s1 + 1)) h ?_
 exact zb3 (bl 39 14343) 0 (by kernel_rfl) (Nat.le_of_ble_eq_true rfl) (zba rfl) (by dsimp only [zz, zad, List.foldl, List.set, bz, bzc, Nat.reduceMod, Nat.reduceDiv, Nat.reduceBEq, Nat.reduceAdd]; exact (zb (zah (Enc.cloL _)) (zb (zah (Enc.cloL _)) (zb (show z7 _ _ = true from rfl) (zb rfl (zb rfl (zb rfl (zb rfl (zb rfl (zb rfl (zb rfl (zb rfl (zb (zah (Enc.cloL _)) (by kernel_rfl)))))))))))))) (by kernel_rfl)
 refine zae h (fun h => ?_)
 refine zg (o := or1) () h ?_
 exact zc7 (bl 39 3)
 intro j1 h
 refine zf8 ?_
 refine ze ?_
 refine zw [.m _, .v (.i (List.length a : Int)), .m _, .v (.i (List.length b : Int)), .v (.b (decide ((List.length a : Int) < (List.length b : Int))))] ?_
 refine zbu h (fun hc4 h => ?_) (fun hc4 h => ?_)
 refine zw [.v (.i (-1))] ?_
 exact zd0 h
 refine zw [.v (.i 0)] ?_
 exact zd0 h
def zva (x : Tr) (k : Int) : Option Bool :=
 (some (((x.k : Nat) : Int) == k))
theorem ent64 : Ent Try.prog 64 := enters_of Try.func64 (by kernel_rfl) rfl
theorem has1_sh (x : Tr) (k : Int) (r : Bool) (h : zva x k = some r) : Pure (ITP Try.prog) Try.prog 64 [.A (x : Tr), .iptr [.raw (.int .u8 k)]] (.raw (.bool r)) := by
 unfold zva at h
 refine zaw 6 mix Try.func64 ent64 ?_
 refine ze (zc ?_)
 refine zbc (a := .ptr 0 0) (σ'' := (.B [(30, (Enc.cells (x : Tr)))])) ?_
 refine w_o (a := .b false) ?_
 refine zw [.v (.ptr 0 0), .v (.u ((x.k : Nat) : Int)), .v (.u k), .v (.b (((x.k : Nat) : Int) == k)), .m _] ?_
 exact za4 h
def zoq (fuel : Nat) (t : Tr) (k : Int) : Option Bool :=
 (za3 (z33 fuel (fun x => zva x k) t.l) (fun x1 => (some x1)))
theorem ent50 : Ent Try.prog 50 := enters_of Try.func50 (by kernel_rfl) rfl
theorem zyw (fuel : Nat) (t : Tr) (k : Int) (r : Bool) (h : zoq fuel t k = some r) : Pure (ITP Try.prog) Try.prog 50 [.A (t : Tr), .raw (.int .u8 k)] (.raw (.bool r)) := by
 unfold zoq at h
 refine zaw 7 mix Try.func50 ent50 ?_
 refine ze (zc ?_)
 refine zbc (a := .ptr 0 0) (σ'' := (.B [(30, (Enc.cells (t : Tr)))])) ?_
 refine zbc (a := .ptr 1 0) (σ'' := (.B [(30, (Enc.cells (t : Tr))), (5, [.u k])])) ?_
 refine w_o (a := .b false) ?_
 refine zw [.v (.ptr 0 7), .v (.L (t.l : List Tr)), .v (.clos 64 [.ptr 1 0])] ?_
 obtain ⟨x1, hx1, h⟩ := zaa h
 refine z4u 1 (args' := [.L (t.l : List Tr), .clos 64 [.iptr [.u k]]]) (r := .b x1) (z74 fuel (fun x => zva x k) t.l x1 64 (.iptr [.u k]) (zza (zs6 rfl rfl)) (fun x y h => has1_sh x k y h) hx1) rfl rfl (zf5 (zwf (zcu (Enc.cloL _))) (zf5 rfl znb)) rfl (by dsimp only [zn, List.set]) ?_
 refine zab ?_
 exact za4 h
def zs7 (fuel : Nat) (t : Tr) : Option Bool :=
 (zdo (τ := Unit) (bif (((t.k : Nat) : Int) != 2) then (bif (decide (t.s ≠ (0#256))) then (some (Sum.inr false)) else (bif (((t.k : Nat) : Int) != 5) then (bif (t.mn != 0) then (some (Sum.inr false)) else (bif (t.mx != 0) then (some (Sum.inr false)) else (bif (decide (((t.k : Nat) : Int) < 3)) then (bif (decide ((List.length t.l : Int) > 0)) then (some (Sum.inr false)) else (some (Sum.inl ()))) else (some (Sum.inl ()))))) else (bif (decide (((t.k : Nat) : Int) < 3)) then (bif (decide ((List.length t.l : Int) > 0)) then (some (Sum.inr false)) else (some (Sum.inl ()))) else (some (Sum.inl ()))))) else (bif (((t.k : Nat) : Int) != 5) then (bif (t.mn != 0) then (some (Sum.inr false)) else (bif (t.mx != 0) then (some (Sum.inr false)) else (bif (decide (((t.k : Nat) : Int) < 3)) then (bif (decide ((List.length t.l : Int) > 0)) then (some (Sum.inr false)) else (some (Sum.inl ()))) else (some (Sum.inl ()))))) else (bif (decide (((t.k : Nat) : Int) < 3)) then (bif (decide ((List.length t.l : Int) > 0)) then (some (Sum.inr false)) else (some (Sum.inl ()))) else (some (Sum.inl ()))))) (fun j1 => (bif (((t.k : Nat) : Int) == 1) then (some true) else (bif (((t.k : Nat) : Int) == 2) then (some (decide (t.s ≠ (0#256)))) else (bif (((t.k : Nat) : Int) == 3) then (bif (decide ((List.length t.l : Int) > 1)) then (za3 (zoq fuel t 1) (fun x1 => (bif (!x1) then (za3 (zoq fuel t 3) (fun x2 => (some (!x2)))) else (some false)))) else (some false)) else (bif (((t.k : Nat) : Int) == 4) then (bif (decide ((List.length t.l : Int) > 1)) then (za3 (zoq fuel t 4) (fun x3 => (some (!x3)))) else (some false)) else (bif (((t.k : Nat) : Int) == 5) then (bif ((List.length t.l : Int) == 1) then (za3 (ze6 t.mn t.mx) (fun x4 => (bif x4 then (za3 (zoq fuel t 1) (fun x5 => (some (!x5)))) else (some false)))) else (some false)) else (bif (((t.k : Nat) : Int) == 6) then (some ((List.length t.l : Int) == 1)) else (some false)))))))))
theorem ent39 : Ent Try.prog 39 := enters_of Try.func39 (by kernel_rfl) rfl
theorem z5t (fuel : Nat) (t : Tr) (r : Bool) (h : zs7 fuel t = some r) : Pure (ITP Try.prog) Try.prog 39 [.A (t : Tr)] (.raw (.bool r)) := by
 unfold zs7 at h
 refine zaw 101 mix Try.func39 ent39 ?_
 refine ze (zc ?_)
 refine zbc (a := .ptr 0 0) (σ'' := (.B [(30, (Enc.cells (t : Tr)))])) ?_
 refine w_o (a := .b false) ?_
 refine za0 h (bz 0 102 5070602400912917605986812821501) (fun j1 => []) (fun j1 => (.B [(30, (Enc.cells (t : Tr)))])) ?_ ?_
 intro or1 h hr1
 refine zw [.v (.ptr 0 0), .v (.u ((t.k : Nat) : Int)), .v (.b (((t.k : Nat) : Int) != 2))] ?_
 refine zu h (fun hc1 h => ?_) (fun hc1 h => ?_)
 refine zau hc1 ?_
 refine w_r [.v (.ptr 0 1), .v (.A (t.s : BS)), .v (.A (0#256 : BS))] ?_
 refine zac rfl rfl ?_
 refine zj6 (.b (decide (t.s ≠ (0#256)))) rfl rfl rfl (zu8 t.s (0#256) rfl rfl rfl) (by dsimp only [zn, List.set]) ?_
 refine w_o (a := .b (decide (t.s ≠ (0#256)))) ?_
 refine zu h (fun hc2 h => ?_) (fun hc2 h => ?_)
 refine zau hc2 ?_
 refine w_r [.p, .p, .p, .p, .p] ?_
 refine w_r [.p, .p, .p, .p, .p] ?_
 refine w_r [.p, .p, .p, .v (.b true), .m _] ?_
 refine w_r [.p, .p, .p, .p, .p] ?_
 refine w_r [.p, .p, .p, .p, .v (.b true)] ?_
 refine zbo rfl ?_
 refine zw [.v (.b false)] ?_
 replace h := zp h hr1
 exact za4 h
 refine zau hc2 ?_
 refine w_r [.v (.ptr 0 0), .v (.u ((t.k : Nat) : Int)), .v (.b (((t.k : Nat) : Int) != 5))] ?_
 refine zac rfl rfl ?_
 refine zu h (fun hc3 h => ?_) (fun hc3 h => ?_)
 refine zau hc3 ?_
 refine w_r [.v (.ptr 0 5), .v (.i t.mn), .v (.b (t.mn != 0))] ?_
 refine zac rfl rfl ?_
 refine zu h (fun hc4 h => ?_) (fun hc4 h => ?_)
 refine zau hc4 ?_
 refine w_r [.p, .p, .p, .v (.b true), .v (.b true)] ?_
 refine w_r [.v (.b true), .m _, .p, .p, .p] ?_
 refine w_r [.p, .p, .p, .p, .p] ?_
 refine w_r [.p, .v (.b true)] ?_
 refine zbo rfl ?_
 refine zw [.v (.b false)] ?_
 replace h := zp h hr1
 exact za4 h
 refine zau hc4 ?_
 refine w_r [.v (.ptr 0 6), .v (.i t.mx), .v (.b (t.mx != 0)), .v (.b (t.mx != 0)), .v (.b (t.mx != 0))] ?_
 refine w_r [.v (.b (t.mx != 0))] ?_
 refine zu h (fun hc5 h => ?_) (fun hc5 h => ?_)
 refine zau hc5 ?_
 refine w_r [.p, .p, .p, .p, .p] ?_
 refine w_r [.p, .p, .p, .p, .v (.b true)] ?_
 refine zbo rfl ?_
 refine zw [.v (.b false)] ?_
 replace h := zp h hr1
 exact za4 h
 refine zau hc5 ?_
 refine w_r [.v (.ptr 0 0), .v (.u ((t.k : Nat) : Int)), .v (.b (decide (((t.k : Nat) : Int) < 3)))] ?_
 refine zac rfl rfl ?_
 refine zu h (fun hc6 h => ?_) (fun hc6 h => ?_)
 refine zau hc6 ?_
 refine w_r [.v (.ptr 0 7), .v (.L (t.l : List Tr)), .v (.i (List.length t.l : Int)), .v (.b (decide ((List.length t.l : Int) > 0))), .v (.b (decide ((List.length t.l : Int) > 0)))] ?_
 refine w_r [.v (.b (decide ((List.length t.l : Int) > 0)))] ?_
 refine zbu h (fun hc7 h => ?_) (fun hc7 h => ?_)
 refine zw [.v (.b false)] ?_
 replace h := zp h hr1
 exact za4 h
 refine zg (o := or1) () h ?_
 exact zc7 (bl 102 2)
 refine zau hc6 ?_
 refine w_r [.p, .p, .p, .p, .v (.b false)] ?_
 refine w_r [.v (.b false)] ?_
 refine zav rfl ?_
 refine zg (o := or1) () h ?_
 exact zc7 (bl 102 2)
 refine zau hc3 ?_
 refine w_r [.p, .p, .p, .p, .p] ?_
 refine w_r [.p, .p, .p, .v (.b false), .v (.b false)] ?_
 refine w_r [.m _, .v (.ptr 0 0), .v (.u ((t.k : Nat) : Int)), .v (.b (decide (((t.k : Nat) : Int) < 3)))] ?_
 refine zac rfl rfl ?_
 refine zu h (fun hc8 h => ?_) (fun hc8 h => ?_)
 refine zau hc8 ?_
 refine w_r [.v (.ptr 0 7), .v (.L (t.l : List Tr)), .v (.i (List.length t.l : Int)), .v (.b (decide ((List.length t.l : Int) > 0))), .v (.b (decide ((List.length t.l : Int) > 0)))] ?_
 refine w_r [.v (.b (decide ((List.length t.l : Int) > 0)))] ?_
 refine zbu h (fun hc9 h => ?_) (fun hc9 h => ?_)
 refine zw [.v (.b false)] ?_
 replace h := zp h hr1
 exact za4 h
 refine zg (o := or1) () h ?_
 exact zc7 (bl 102 2)
 refine zau hc8 ?_
 refine w_r [.p, .p, .p, .p, .v (.b false)] ?_
 refine w_r [.v (.b false)] ?_
 refine zav rfl ?_
 refine zg (o := or1) () h ?_
 exact zc7 (bl 102 2)
 refine zau hc1 ?_
 refine w_r [.p, .p, .p, .p, .v (.b false)] ?_
 refine w_r [.m _, .v (.ptr 0 0), .v (.u ((t.k : Nat) : Int)), .v (.b (((t.k : Nat) : Int) != 5))] ?_
 refine zac rfl rfl ?_
 refine zu h (fun hc10 h => ?_) (fun hc10 h => ?_)
 refine zau hc10 ?_
 refine w_r [.v (.ptr 0 5), .v (.i t.mn), .v (.b (t.mn != 0))] ?_
 refine zac rfl rfl ?_
 refine zu h (fun hc11 h => ?_) (fun hc11 h => ?_)
 refine zau hc11 ?_
 refine w_r [.p, .p, .p, .v (.b true), .v (.b true)] ?_
 refine w_r [.v (.b true), .m _, .p, .p, .p] ?_
 refine w_r [.p, .p, .p, .p, .p] ?_
 refine w_r [.p, .v (.b true)] ?_
 refine zbo rfl ?_
 refine zw [.v (.b false)] ?_
 replace h := zp h hr1
 exact za4 h
 refine zau hc11 ?_
 refine w_r [.v (.ptr 0 6), .v (.i t.mx), .v (.b (t.mx != 0)), .v (.b (t.mx != 0)), .v (.b (t.mx != 0))] ?_
 refine w_r [.v (.b (t.mx != 0))] ?_
 refine zu h (fun hc12 h => ?_) (fun hc12 h => ?_)
 refine zau hc12 ?_
 refine w_r [.p, .p, .p, .p, .p] ?_
 refine w_r [.p, .p, .p, .p, .v (.b true)] ?_
 refine zbo rfl ?_
 refine zw [.v (.b false)] ?_
 replace h := zp h hr1
 exact za4 h
 refine zau hc12 ?_
 refine w_r [.v (.ptr 0 0), .v (.u ((t.k : Nat) : Int)), .v (.b (decide (((t.k : Nat) : Int) < 3)))] ?_
 refine zac rfl rfl ?_
 refine zu h (fun hc13 h => ?_) (fun hc13 h => ?_)
 refine zau hc13 ?_
 refine w_r [.v (.ptr 0 7), .v (.L (t.l : List Tr)), .v (.i (List.length t.l : Int)), .v (.b (decide ((List.length t.l : Int) > 0))), .v (.b (decide ((List.length t.l : Int) > 0)))] ?_
 refine w_r [.v (.b (decide ((List.length t.l : Int) > 0)))] ?_
 refine zbu h (fun hc14 h => ?_) (fun hc14 h => ?_)
 refine zw [.v (.b false)] ?_
 replace h := zp h hr1
 exact za4 h
 refine zg (o := or1) () h ?_
 exact zc7 (bl 102 2)
 refine zau hc13 ?_
 refine w_r [.p, .p, .p, .p, .v (.b false)] ?_
 refine w_r [.v (.b false)] ?_
 refine zav rfl ?_
 refine zg (o := or1) () h ?_
 exact zc7 (bl 102 2)
 refine zau hc10 ?_
 refine w_r [.p, .p, .p, .p, .p] ?_
 refine w_r [.p, .p, .p, .v (.b false), .v (.b false)] ?_
 refine w_r [.m _, .v (.ptr 0 0), .v (.u ((t.k : Nat) : Int)), .v (.b (decide (((t.k : Nat) : Int) < 3)))] ?_
 refine zac rfl rfl ?_
 refine zu h (fun hc15 h => ?_) (fun hc15 h => ?_)
 refine zau hc15 ?_
 refine w_r [.v (.ptr 0 7), .v (.L (t.l : List Tr)), .v (.i (List.length t.l : Int)), .v (.b (decide ((List.length t.l : Int) > 0))), .v (.b (decide ((List.length t.l : Int) > 0)))] ?_
 refine w_r [.v (.b (decide ((List.length t.l : Int) > 0)))] ?_
 refine zbu h (fun hc16 h => ?_) (fun hc16 h => ?_)
 refine zw [.v (.b false)] ?_
 replace h := zp h hr1
 exact za4 h
 refine zg (o := or1) () h ?_
 exact zc7 (bl 102 2)
 refine zau hc15 ?_
 refine w_r [.p, .p, .p, .p, .v (.b false)] ?_
 refine w_r [.v (.b false)] ?_
 refine zav rfl ?_
 refine zg (o := or1) () h ?_
 exact zc7 (bl 102 2)
 intro j1 h
 refine zf8 ?_
 refine ze ?_
 refine zw [.v (.ptr 0 0), .v (.u ((t.k : Nat) : Int))] ?_
 refine zr ?_
 refine zw [.v (.b (((t.k : Nat) : Int) == 1)), .m _] ?_
 refine zbu h (fun hc17 h => ?_) (fun hc17 h => ?_)
 refine zw [.v (.b true)] ?_
 exact za4 h
 refine zw [.v (.b (((t.k : Nat) : Int) == 2)), .m _] ?_
 refine zbu h (fun hc18 h => ?_) (fun hc18 h => ?_)
 refine zw [.v (.ptr 0 1), .v (.A (t.s : BS)), .v (.A (0#256 : BS))] ?_
 refine zj6 (.b (decide (t.s ≠ (0#256)))) rfl rfl rfl (zu8 t.s (0#256) rfl rfl rfl) (by dsimp only [zn, List.set]) ?_
 refine zab ?_
 exact za4 h
 refine zw [.v (.b (((t.k : Nat) : Int) == 3)), .m _] ?_
 refine zbu h (fun hc19 h => ?_) (fun hc19 h => ?_)
 refine zw [.v (.ptr 0 7), .v (.L (t.l : List Tr)), .v (.i (List.length t.l : Int)), .v (.b (decide ((List.length t.l : Int) > 1)))] ?_
 refine zu h (fun hc20 h => ?_) (fun hc20 h => ?_)
 refine zau hc20 ?_
 refine zac rfl rfl ?_
 refine w_o (a := .A (t : Tr)) ?_
 refine zac rfl rfl ?_
 obtain ⟨x1, hx1, h⟩ := zaa h
 refine zbs (zyw fuel t 1 x1 hx1) ?_
 refine w_r [.v (.b (!x1)), .v (.b (!x1))] ?_
 refine zu h (fun hc21 h => ?_) (fun hc21 h => ?_)
 refine zau hc21 ?_
 refine zac rfl rfl ?_
 refine w_o (a := .A (t : Tr)) ?_
 refine zac rfl rfl ?_
 obtain ⟨x2, hx2, h⟩ := zaa h
 refine zbs (zyw fuel t 3 x2 hx2) ?_
 refine w_r [.v (.b (!x2)), .v (.b (!x2)), .m _] ?_
 exact za4 h
 refine zau hc21 ?_
 refine w_r [.p, .p, .p, .v (.b false), .m _] ?_
 exact za4 h
 refine zau hc20 ?_
 refine w_r [.p, .p, .p, .v (.b false), .m _] ?_
 refine w_r [.p, .p, .p, .v (.b false), .m _] ?_
 exact za4 h
 refine zw [.v (.b (((t.k : Nat) : Int) == 4)), .m _] ?_
 refine zbu h (fun hc22 h => ?_) (fun hc22 h => ?_)
 refine zw [.v (.ptr 0 7), .v (.L (t.l : List Tr)), .v (.i (List.length t.l : Int)), .v (.b (decide ((List.length t.l : Int) > 1)))] ?_
 refine zu h (fun hc23 h => ?_) (fun hc23 h => ?_)
 refine zau hc23 ?_
 refine zac rfl rfl ?_
 refine w_o (a := .A (t : Tr)) ?_
 refine zac rfl rfl ?_
 obtain ⟨x3, hx3, h⟩ := zaa h
 refine zbs (zyw fuel t 4 x3 hx3) ?_
 refine w_r [.v (.b (!x3)), .v (.b (!x3)), .m _] ?_
 exact za4 h
 refine zau hc23 ?_
 refine w_r [.p, .p, .p, .v (.b false), .m _] ?_
 exact za4 h
 refine zw [.v (.b (((t.k : Nat) : Int) == 5)), .m _] ?_
 refine zbu h (fun hc24 h => ?_) (fun hc24 h => ?_)
 refine zw [.v (.ptr 0 7), .v (.L (t.l : List Tr)), .v (.i (List.length t.l : Int)), .v (.b ((List.length t.l : Int) == 1))] ?_
 refine zu h (fun hc25 h => ?_) (fun hc25 h => ?_)
 refine zau hc25 ?_
 refine w_r [.v (.ptr 0 5), .v (.i t.mn), .v (.ptr 0 6), .v (.i t.mx)] ?_
 refine zac rfl rfl ?_
 obtain ⟨x4, hx4, h⟩ := zaa h
 refine zbs (zhj t.mn t.mx x4 hx4) ?_
 refine w_o (a := .b x4) ?_
 refine zu h (fun hc26 h => ?_) (fun hc26 h => ?_)
 refine zau hc26 ?_
 refine zac rfl rfl ?_
 refine w_o (a := .A (t : Tr)) ?_
 refine zac rfl rfl ?_
 obtain ⟨x5, hx5, h⟩ := zaa h
 refine zbs (zyw fuel t 1 x5 hx5) ?_
 refine w_r [.v (.b (!x5)), .v (.b (!x5)), .m _] ?_
 exact za4 h
 refine zau hc26 ?_
 refine w_r [.p, .p, .p, .v (.b false), .m _] ?_
 exact za4 h
 refine zau hc25 ?_
 refine w_r [.p, .p, .p, .p, .p] ?_
 refine w_r [.v (.b false), .m _, .p, .p, .p] ?_
 refine w_r [.v (.b false), .m _] ?_
 exact za4 h
 refine zw [.v (.ptr 0 0), .v (.u ((t.k : Nat) : Int)), .v (.b (((t.k : Nat) : Int) == 6))] ?_
 refine zu h (fun hc27 h => ?_) (fun hc27 h => ?_)
 refine zau hc27 ?_
 refine w_r [.v (.ptr 0 7), .v (.L (t.l : List Tr)), .v (.i (List.length t.l : Int)), .v (.b ((List.length t.l : Int) == 1)), .v (.b ((List.length t.l : Int) == 1))] ?_
 refine w_r [.m _] ?_
 exact za4 h
 refine zau hc27 ?_
 refine w_r [.p, .p, .p, .p, .v (.b false)] ?_
 refine w_r [.m _] ?_
 exact za4 h
end Go.Ab
