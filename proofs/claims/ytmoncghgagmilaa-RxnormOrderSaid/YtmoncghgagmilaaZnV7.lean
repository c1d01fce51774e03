/-
  rxnorm as plain functions: times, merged, cat, captured, alt, norm; what they leave of a tree's size.
-/
import Derived.Test.YtmoncghgagmilaaZnWa
import Derived.Test.YtmoncghgagmilaaZdQr
import Derived.Test.YtmoncghgagmilaaZnV3
import Derived.Test.YtmoncghgagmilaaZdCq
set_option linter.unusedSimpArgs false
set_option linter.unusedVariables false
set_option maxRecDepth 100000
set_option maxHeartbeats 4000000
namespace Go.Ab
open Go Go.RowKit Go.Fwd Go.Proofs
def zx0 (fuel : Nat) (l : (List Tr)) : Option Tr :=
 (chk ((zai l).length ≤ 2 ^ 40) (zan (zj9 l) (fun x1 => (zdo (τ := Tr) (zch (β := Tr) (fun s1 => (bif (((s1.k : Nat) : Int) == 3) then (zdo (τ := Unit) (chk (0 ≤ (1 : Int) ∧ (1 : Int) ≤ (List.length s1.l : Int) ∧ (List.length s1.l : Int) ≤ (List.length s1.l : Int)) (zch (β := Int) (fun s2 => (bif (decide (s2 < (List.length (sub s1.l (1 : Int) (List.length s1.l : Int)) : Int))) then (chk (0 ≤ s2 ∧ s2 < (List.length s1.l : Int)) (zan (ix s1.l s2) (fun x2 => (chk (-9223372036854775808 ≤ (s2 + 1) ∧ (s2 + 1) < 9223372036854775808) (chk (0 ≤ (s2 + 1) ∧ (s2 + 1) < (List.length s1.l : Int)) (zan (ix s1.l (s2 + 1)) (fun x3 => (za3 (zld x2 x3) (fun x4 => (bif x4.2 then (chk (0 ≤ 0 ∧ 0 ≤ s2 ∧ s2 ≤ (List.length s1.l : Int)) (chk (-9223372036854775808 ≤ (s2 + 2) ∧ (s2 + 2) < 9223372036854775808) (chk (0 ≤ (s2 + 2) ∧ (s2 + 2) ≤ (List.length s1.l : Int) ∧ (List.length s1.l : Int) ≤ (List.length s1.l : Int)) (chk (0 < List.length [x4.1] ∧ (List.length (sub s1.l 0 s2) + List.length [x4.1] + List.length (sub s1.l (s2 + 2) (List.length s1.l : Int))) * 80 ≤ 140737488355328) (zan ((sub s1.l 0 s2) ++ [x4.1] ++ (sub s1.l (s2 + 2) (List.length s1.l : Int))) (fun x5 => (chk ((zai x5).length ≤ 2 ^ 40) (zan (zj9 x5) (fun x6 => (some (Sum.inr (Sum.inr (Sum.inl (x6)))))))))))))) else (chk (-9223372036854775808 ≤ (s2 + 1) ∧ (s2 + 1) < 9223372036854775808) (some (Sum.inl ((s2 + 1))))))))))))))) else (some (Sum.inr (Sum.inl ()))))) fuel (0))) (fun j2 => (some (Sum.inr (Sum.inl (s1)))))) else (some (Sum.inr (Sum.inl (s1)))))) fuel (x1)) (fun j1 => (some j1))))))
theorem ent44 : Ent Try.prog 44 := enters_of Try.func44 (by kernel_rfl) rfl
theorem ncat_sh (fuel : Nat) (l : (List Tr)) (r : Tr) (h : zx0 fuel l = some r) : Pure (ITP Try.prog) Try.prog 44 [.L (l : List Tr)] (.A (r : Tr)) := by
 unfold zx0 at h
 refine zaw 52 mix Try.func44 ent44 ?_
 refine ze (zc ?_)
 refine zbc (a := .ptr 0 0) (σ'' := (.B [(30, [.u 0, .raw (.int .u64 0), .raw (.int .u64 0), .raw (.int .u64 0), .raw (.int .u64 0), .i 0, .i 0, .list 0 [] .full])])) ?_
 refine z3c ?_
 refine zw [.m _] ?_
 obtain ⟨g1, h⟩ := zh h
 obtain ⟨x1, hx1, h⟩ := zj h
 refine zbs (args' := [.L (l : List Tr)]) (r := .A (x1 : Tr)) (by rw [← hx1]; exact (k_seq l g1)) ?_
 refine zbc (a := .ptr 1 0) (σ'' := (.B [(30, [.u 0, .raw (.int .u64 0), .raw (.int .u64 0), .raw (.int .u64 0), .raw (.int .u64 0), .i 0, .i 0, .list 0 [] .full]), (30, [.u 0, .raw (.int .u64 0), .raw (.int .u64 0), .raw (.int .u64 0), .raw (.int .u64 0), .i 0, .i 0, .list 0 [] .full])])) ?_
 refine zbk 8 (.B [(30, [.u 0, .raw (.int .u64 0), .raw (.int .u64 0), .raw (.int .u64 0), .raw (.int .u64 0), .i 0, .i 0, .list 0 [] .full]), (30, (Enc.cells (x1 : Tr)))]) ?_
 refine ze ?_
 refine z3n ?_
 refine za0 h (bz 0 53 9007199254740979) (fun j1 => []) (fun j1 => (.B [(30, [.u 0, .raw (.int .u64 0), .raw (.int .u64 0), .raw (.int .u64 0), .raw (.int .u64 0), .i 0, .i 0, .list 0 [] .full]), (30, (Enc.cells (j1 : Tr)))])) ?_ ?_
 intro or1 h hr1
 refine zr ?_
 refine zcf h (bz 0 53 9007199254740979) (fun s1 => []) (fun s1 => (.B [(30, [.u 0, .raw (.int .u64 0), .raw (.int .u64 0), .raw (.int .u64 0), .raw (.int .u64 0), .i 0, .i 0, .list 0 [] .full]), (30, (Enc.cells (s1 : Tr)))])) ?_ ?_
 exact zc7 (bl 53 12)
 intro s1 p1 h
 refine zf8 ?_
 refine ze ?_
 refine zw [.v (.ptr 1 0), .v (.u ((s1.k : Nat) : Int)), .v (.b (((s1.k : Nat) : Int) == 3))] ?_
 refine zbu h (fun hc1 h => ?_) (fun hc1 h => ?_)
 refine zr ?_
 refine za0 h (bz 0 52 4503599627369712) (fun j2 => []) (fun j2 => (.B [(30, [.u 0, .raw (.int .u64 0), .raw (.int .u64 0), .raw (.int .u64 0), .raw (.int .u64 0), .i 0, .i 0, .list 0 [] .full]), (30, (Enc.cells (s1 : Tr)))])) ?_ ?_
 intro or2 h hr2
 refine zw [.v (.ptr 1 7), .v (.L (s1.l : List Tr))] ?_
 obtain ⟨g2, h⟩ := zh h
 refine zcd (.L ((sub s1.l (1 : Int) (List.length s1.l : Int)) : List Tr)) rfl rfl rfl (zf0 (α := Tr) (l := s1.l) g2 rfl rfl rfl rfl rfl) (zcz _ _ _) (by dsimp only [zn, List.set]) ?_
 refine w_r [.v (.i (List.length (sub s1.l (1 : Int) (List.length s1.l : Int)) : Int)), .v (.i 0)] ?_
 refine zr ?_
 refine zcf h (bz 0 52 4503599627304176) (fun s2 => [(17, .i s2)]) (fun s2 => (.B [(30, [.u 0, .raw (.int .u64 0), .raw (.int .u64 0), .raw (.int .u64 0), .raw (.int .u64 0), .i 0, .i 0, .list 0 [] .full]), (30, (Enc.cells (s1 : Tr)))])) ?_ ?_
 exact zc7 (bl 53 4503599627567887)
 intro s2 p2 h
 refine zf8 ?_
 refine zw [.v (.b (decide (s2 < (List.length (sub s1.l (1 : Int) (List.length s1.l : Int)) : Int))))] ?_
 refine ze ?_
 refine zbu h (fun hc2 h => ?_) (fun hc2 h => ?_)
 refine ze ?_
 refine zr ?_
 refine zw [.m _, .m _] ?_
 refine ze ?_
 obtain ⟨g3, h⟩ := zh h
 obtain ⟨x2, hx2, h⟩ := zj h
 obtain ⟨g4, h⟩ := zh h
 obtain ⟨g5, h⟩ := zh h
 obtain ⟨x3, hx3, h⟩ := zj h
 obtain ⟨x4, hx4, h⟩ := zaa h
 refine w_drawD (k0 := 0) (id := 6) 18 [(⟨15, 5, 30, zeroV Try.prog 30, 16, .A (x4.1 : Tr)⟩ : Pe)] (by kernel_rfl) (by kernel_rfl) (by kernel_rfl) ?_
 refine zjy (a := .ptr 1 7) rfl rfl rfl rfl rfl (by dsimp only [zn, List.set]) ?_
 refine zjy (a := .L (s1.l : List Tr)) rfl rfl rfl rfl rfl (by dsimp only [zn, List.set]) ?_
 refine zjy (a := .i s2) rfl rfl rfl rfl rfl (by dsimp only [zn, List.set]) ?_
 refine zjy (a := .iptr (Enc.cells x2 ++ Enc.cellsL (List.drop (Int.toNat s2 + 1) s1.l))) rfl rfl rfl rfl (by rw [← hx2]; exact (zf7 (α := Tr) (l := s1.l) g3 rfl rfl rfl rfl rfl)) (by dsimp only [zn, List.set]) ?_
 refine zjy (a := .A (x2 : Tr)) rfl rfl rfl rfl rfl (by dsimp only [zn, List.set]) ?_
 refine zjy (a := .ptr 1 7) rfl rfl rfl rfl rfl (by dsimp only [zn, List.set]) ?_
 refine zjy (a := .L (s1.l : List Tr)) rfl rfl rfl rfl rfl (by dsimp only [zn, List.set]) ?_
 refine zjy (a := .i s2) rfl rfl rfl rfl rfl (by dsimp only [zn, List.set]) ?_
 refine zjy (a := .i (s2 + 1)) rfl rfl rfl rfl (zgv rfl rfl rfl rfl g4.1 g4.2) (by dsimp only [zn, List.set]) ?_
 refine zjy (a := .iptr (Enc.cells x3 ++ Enc.cellsL (List.drop (Int.toNat (s2 + 1) + 1) s1.l))) rfl rfl rfl rfl (by rw [← hx3]; exact (zf7 (α := Tr) (l := s1.l) g5 rfl rfl rfl rfl rfl)) (by dsimp only [zn, List.set]) ?_
 refine zjy (a := .A (x3 : Tr)) rfl rfl rfl rfl rfl (by dsimp only [zn, List.set]) ?_
 refine hD_call (args' := [.A (x2 : Tr), .A (x3 : Tr)]) (r := .tup [.A (x4.1 : Tr), .b x4.2]) (z4l x2 x3 x4 hx4) rfl rfl rfl rfl (zf (zaf (zl (Enc.clo _))) (zf (zaf (zl (Enc.clo _))) rfl)) (zb (zm _ _ (zl (Enc.clo _))) (zb (zm _ _ (zl (Enc.clo _))) rfl)) (by dsimp only [zn, List.set]) ?_
 refine zjy (a := .tup [.A (x4.1 : Tr), .b x4.2]) rfl rfl rfl rfl rfl (by dsimp only [zn, List.set]) ?_
 refine zjy (a := .A (x4.1 : Tr)) rfl rfl rfl rfl rfl (by dsimp only [zn, List.set]) ?_
 refine zjy (a := .b x4.2) rfl rfl rfl rfl rfl (by dsimp only [zn, List.set]) ?_
 refine hD_new _ List.mem_cons_self rfl rfl rfl rfl rfl (by kernel_rfl) (by dsimp only [List.set]) ?_
 refine z5q _ _ List.mem_cons_self rfl (Nat.le_of_ble_eq_true rfl) rfl rfl rfl rfl rfl (by kernel_rfl) (by kernel_rfl) (by kernel_rfl) ?_
 refine zjy (a := .b x4.2) rfl rfl rfl rfl rfl (by dsimp only [zn, List.set]) ?_
 refine hD_end ?_
 refine z6j (n := 2) rfl (show _ = ((.B [(30, [.u 0, .raw (.int .u64 0), .raw (.int .u64 0), .raw (.int .u64 0), .raw (.int .u64 0), .i 0, .i 0, .list 0 [] .full]), (30, (Enc.cells (s1 : Tr))), (30, (Enc.cells (x4.1 : Tr)))]) : St) from rfl) (by dsimp only [zjp, List.set, Nat.reduceAdd]) ?_
 refine zw [.m _] ?_
 refine zbu h (fun hc3 h => ?_) (fun hc3 h => ?_)
 refine ze ?_
 refine zcw (k0 := 0) (id := 8) 11 (by kernel_rfl) (by kernel_rfl) ?_
 refine h_o (a := .ptr 1 7) ?_
 refine h_o (a := .L (s1.l : List Tr)) ?_
 refine zgc ?_
 obtain ⟨g6, h⟩ := zh h
 refine h_opS (a := .L ((sub s1.l 0 s2) : List Tr)) rfl rfl rfl (z1e (α := Tr) (l := s1.l) g6 rfl rfl rfl rfl rfl) (zcz _ _ _) (by dsimp only [zn, List.set]) ?_
 refine h_o (a := .A (x4.1 : Tr)) ?_
 refine h_o (a := .F ([x4.1] : List Tr)) (h := zcj (α := Tr) (l := [x4.1]) (cs := Enc.cells (x4.1 : Tr) ++ []) rfl (by rw [Enc.cons, Enc.nil])) ?_
 refine h_o (a := .ptr 1 7) ?_
 refine h_o (a := .L (s1.l : List Tr)) ?_
 refine zgc ?_
 obtain ⟨g7, h⟩ := zh h
 refine h_o (a := .i (s2 + 2)) (h := zgv rfl rfl rfl rfl g7.1 g7.2) ?_
 obtain ⟨g8, h⟩ := zh h
 refine h_opS (a := .L ((sub s1.l (s2 + 2) (List.length s1.l : Int)) : List Tr)) rfl rfl rfl (zf0 (α := Tr) (l := s1.l) g8 rfl rfl rfl rfl rfl) (zcz _ _ _) (by dsimp only [zn, List.set]) ?_
 refine zdr ?_
 refine zcd (.L ([(sub s1.l 0 s2), [x4.1], (sub s1.l (s2 + 2) (List.length s1.l : Int))] : List (List Tr))) (a0 := .list 3 [.L ((sub s1.l 0 s2) : List Tr), .F ([x4.1] : List Tr), .L ((sub s1.l (s2 + 2) (List.length s1.l : Int)) : List Tr)] .full) rfl rfl rfl (by kernel_rfl) (by simp only [zb7, stripL, Enc.stripL]; rfl) (by dsimp only [zn, List.set]) ?_
 obtain ⟨g9, h⟩ := zh h
 obtain ⟨x5, hx5, h⟩ := zj h
 refine zbs (args' := [.L ([(sub s1.l 0 s2), [x4.1], (sub s1.l (s2 + 2) (List.length s1.l : Int))] : List (List Tr))]) (r := .L (x5 : List Tr)) (by rw [← hx5]; exact (zv6 (sub s1.l 0 s2) [x4.1] (sub s1.l (s2 + 2) (List.length s1.l : Int)) g9)) ?_
 refine zab ?_
 refine zw [.m _] ?_
 obtain ⟨g10, h⟩ := zh h
 obtain ⟨x6, hx6, h⟩ := zj h
 refine zbs (args' := [.L (x5 : List Tr)]) (r := .A (x6 : Tr)) (by rw [← hx6]; exact (k_seq x5 g10)) ?_
 refine zbk 8 (.B [(30, [.u 0, .raw (.int .u64 0), .raw (.int .u64 0), .raw (.int .u64 0), .raw (.int .u64 0), .i 0, .i 0, .list 0 [] .full]), (30, (Enc.cells (x6 : Tr))), (30, (Enc.cells (x4.1 : Tr)))]) ?_
 refine zae h (fun h => ?_)
 replace h := zp h hr2
 refine zbb (p := p1) (x6) h ?_
 exact zb3 (bl 53 12) 2 (by kernel_rfl) (Nat.le_of_ble_eq_true rfl) (zba (zv rfl (zv (zo _ _ (Enc.clo _)) rfl))) (by dsimp only [zz, zad, List.foldl, List.set, bz, bzc, Nat.reduceMod, Nat.reduceDiv, Nat.reduceBEq, Nat.reduceAdd]; exact (zb rfl (zb rfl (zb (by decide) (zb (by decide) (by kernel_rfl)))))) (by kernel_rfl)
 refine zc (k0 := 0) (id := 10) ?_
 obtain ⟨g11, h⟩ := zh h
 refine zwt g11 ?_
 refine zab ?_
 refine zbb (p := p2) ((s2 + 1)) h ?_
 exact zb3 (bl 53 4503599627567887) 2 (by kernel_rfl) (Nat.le_of_ble_eq_true rfl) (zba (zv rfl (zv (zo _ _ (Enc.clo _)) rfl))) (by dsimp only [zz, zad, List.foldl, List.set, bz, bzc, Nat.reduceMod, Nat.reduceDiv, Nat.reduceBEq, Nat.reduceAdd]; exact (zb rfl (zb rfl (zb (by decide) (zb (by decide) (by kernel_rfl)))))) (by kernel_rfl)
 refine zae h (fun h => ?_)
 refine zg (o := or2) () h ?_
 exact zc7 (bl 53 4503599627371279)
 intro j2 h
 refine zf8 ?_
 refine zae h (fun h => ?_)
 refine zg (o := or1) (s1) h ?_
 exact zc7 (bl 53 12)
 refine zae h (fun h => ?_)
 refine zg (o := or1) (s1) h ?_
 exact zc7 (bl 53 12)
 intro j1 h
 refine zf8 ?_
 refine zw [.v (.A (j1 : Tr))] ?_
 refine zbk 8 (.B [(30, (Enc.cells (j1 : Tr))), (30, (Enc.cells (j1 : Tr)))]) ?_
 exact zal (fun (r : Tr) => .A (r : Tr)) h (.A (j1 : Tr))
end Go.Ab
set_option linter.unusedSimpArgs false
set_option linter.unusedVariables false
namespace Go.Ab
open Go Go.RowKit Go.Fwd Go.Proofs
theorem CS.clean {n : Nat} {t : Tr} (h : CS n t) (hn : n ≤ 10000) : zbj t = true := zfk h.1 (by have := h.2; omega)
theorem CS.light {n : Nat} {t : Tr} (h : CS n t) (hn : n ≤ 10000) : zcl t = true := zpm (by have := h.2; omega)
theorem zg8 (t : Tr) : 0 < (pre t).length := by rw [zc8]; simp
def zp6 : Bd := Bd.mk 0 1
def zih : Bd := Bd.mk 0 (-1)
def zhr : Bd := Bd.mk 1 (-1)
def ofB (t : Tr) : Bd := Bd.mk t.mn t.mx
def hdT (l : List Tr) : Tr := l.getD 0 noneT
def zcx (x : Tr) (b : Bd) : Tr :=
 if (zb1 x b.lo b.mo).k ≠ 5 ∨ plainT x = false then zb1 x b.lo b.mo
 else if b = zp6 ∧ zbx x = true then x
 else if x.k = 5 ∧ zcr b = true ∧ zcr (ofB x) = true then (if b ≠ ofB x ∨ b = zih then zb1 (hdT x.l) 0 (-1) else zb1 (hdT x.l) b.lo b.mo)
 else if b = zhr ∧ zbx x = true then zb1 x 0 (-1)
 else zb1 x b.lo b.mo
theorem zi7 {x : Tr} {lo hi : Int} (h : CS 9999 x) (hb : zb4 lo hi = true) : zb1 x lo hi = if x.k = 1 then emptyT else .mk 5 0#256 lo hi [x] := by
 have hk := h.1.k0
 have hg : zjz x = true := by rw [zjz, h.clean (by omega), Bool.or_true]
 obtain ⟨⟨h1, h2, h3⟩, h4⟩ := (zz7 lo hi).1 hb
 have e0 : (lo == 0 && hi == 0) = false := by rw [← Bool.not_eq_true]; simp; omega
 have e1 : (lo == 1 && hi == 1) = false := by rw [← Bool.not_eq_true]; simp; omega
 have ek : ((x.k : Int) == 0) = false := by simp; omega
 unfold zb1
 rw [hg, e0, e1, hb, ek]
 by_cases h5 : x.k = 1
 ·rw [if_pos h5, h5]; rfl
 ·have ek1 : ((x.k : Int) == 1) = false := by simp; omega
  rw [if_neg h5, ek1]
  show zd8 _ = _
  refine zga (zfk ((zbm _).2 ⟨zkw h5 hb, by rw [Tr.l, zap]; exact ⟨h.1, zcg⟩⟩) ?_)
  rw [zh3]; have := h.2; omega
theorem zqk : zb4 0 1 = true := by decide
theorem zdy : zb4 0 (-1) = true := by decide
theorem zhx : zb4 1 (-1) = true := by decide
theorem zx9 {n : Nat} (h : 1 ≤ n) : CS n emptyT := ⟨(zbm _).2 ⟨zgo, zcg⟩, by simp [emptyT, pre, zai]; omega⟩
theorem cs_rep {n : Nat} {x : Tr} {lo hi : Int} (h : CS n x) (hk : x.k ≠ 1) (hb : zb4 lo hi = true) : CS (n + 1) (.mk 5 0#256 lo hi [x]) :=
 ⟨(zbm _).2 ⟨zkw hk hb, by rw [Tr.l, zap]; exact ⟨h.1, zcg⟩⟩, by rw [zh3]; have := h.2; omega⟩
theorem zh9 {x : Tr} (h : CR x) (hk : x.k = 5) : ∃ y, x = .mk 5 0#256 x.mn x.mx [y] ∧ zb4 x.mn x.mx = true ∧ y.k ≠ 1 ∧ CR y ∧ hdT x.l = y ∧ (pre x).length = (pre y).length + 1 := by
 have h1 := (zbm x).1 h
 have h2 := h1.1
 have hl := zxg (t := x) h hk
 obtain ⟨k, s, mn, mx, l⟩ := x
 simp only [Tr.k] at hk
 subst hk
 simp only [Tr.l] at hl h1
 match l, hl with
 | [y], _ =>
  have hs := (zv5 h2).1 (by decide)
  have hb : zb4 mn mx = true ∧ zpy (.mk 5 s mn mx [y]) 1 = false := by
   rw [zct] at h2
   simp only [Bool.and_eq_true] at h2
   have h3 := h2.2
   simp only [show ((((5 : Nat) : Int)) == 1) = false from rfl, show ((((5 : Nat) : Int)) == 2) = false from rfl, show ((((5 : Nat) : Int)) == 3) = false from rfl, show ((((5 : Nat) : Int)) == 4) = false from rfl, show ((((5 : Nat) : Int)) == 5) = true from rfl, cond_false, cond_true, Bool.and_eq_true, Bool.not_eq_true'] at h3
   exact ⟨h3.1.2, h3.2⟩
  refine ⟨y, by rw [hs]; rfl, hb.1, zew.1 hb.2 y (by simp [Tr.l]), ((zap _ _).1 h1.2).1, rfl, by rw [zh3]; omega⟩
theorem zk1 (x : Tr) (b : Bd) (h : CS 9999 x) : zf2 x b = some (zcx x b) := by
 have hl := h.2
 have hcr : crT x = true := h.1
 unfold zf2 zcx
 rw [zaz (by omega), zan]
 by_cases h5 : (zb1 x b.lo b.mo).k ≠ 5
 ·rw [if_pos (.inl h5)]
  exact zby (by simp; omega) rfl
 rw [show ((((zb1 x b.lo b.mo).k : Nat) : Int) != 5) = false by simp; omega, cond_false, zaz (by omega), zan]
 cases hp : plainT x with
 | false => rw [if_pos (.inr rfl)]; rfl
 | true =>
  rw [if_neg (by simp [h5])]
  show zdo _ _ = _
  have hc60 : (pre x).length < 2 ^ 60 ∧ crT x = true := ⟨by omega, hcr⟩
  have h40 : (pre x).length < 2 ^ 40 := by omega
  simp only [zaz hc60, zan, zaz h40]
  -- the plus
  have hplus : ∀ z : Bool, z = zbx x → zdo (τ := Unit) (bif decide (b = Bd.mk 1 (-1)) then (bif z then some (Sum.inr (zb1 x 0 (-1))) else some (Sum.inl ())) else some (Sum.inl ())) (fun _ => some (zb1 x b.lo b.mo)) = some (if b = zhr ∧ zbx x = true then zb1 x 0 (-1) else zb1 x b.lo b.mo) := by
   rintro z rfl
   by_cases hb : b = Bd.mk 1 (-1)
   ·cases hn : zbx x <;> simp [hb, zhr]
   ·simp [hb, zhr]
  by_cases hk : x.k = 5
  ·obtain ⟨y, e1, e2, e3, e4, e5, e6⟩ := zh9 h.1 hk
   have hl1 : (0 : Int) ≤ (0 : Int) ∧ (0 : Int) < (x.l.length : Int) := by rw [e1]; exact ⟨by decide, by simp [Tr.l]⟩
   have hix : ix x.l 0 = hdT x.l := rfl
   have hy40 : (pre (hdT x.l)).length < 2 ^ 40 := by rw [e5]; omega
   have hrep : ∀ (q : Tr ⊕ Tr), zdo (τ := Unit) (zdo (τ := Bd) (bif decide (b ≠ Bd.mk x.mn x.mx) then some (Sum.inl (Bd.mk 0 (-1))) else bif decide (b = Bd.mk 0 (-1)) then some (Sum.inl (Bd.mk 0 (-1))) else some (Sum.inl b)) (fun j => chk (0 ≤ (0 : Int) ∧ (0 : Int) < (List.length x.l : Int)) (chk ((pre (ix x.l (0 : Int))).length < 2 ^ 40) (some (Sum.inr (zb1 (ix x.l 0) j.lo j.mo)))))) (fun _ => some (zb1 x b.lo b.mo)) = some (if b ≠ ofB x ∨ b = zih then zb1 (hdT x.l) 0 (-1) else zb1 (hdT x.l) b.lo b.mo) := by
    intro _
    rw [hix]
    by_cases hb : b = Bd.mk x.mn x.mx
    ·by_cases hb2 : b = Bd.mk 0 (-1)
     ·rw [show decide (b ≠ Bd.mk x.mn x.mx) = false by simp [hb], show decide (b = Bd.mk 0 (-1)) = true by simp [hb2]]
      simp only [cond_false, cond_true, cutE_inl, zaz hl1, zaz hy40]
      rw [if_pos (.inr hb2)]; rfl
     ·rw [show decide (b ≠ Bd.mk x.mn x.mx) = false by simp [hb], show decide (b = Bd.mk 0 (-1)) = false by simp [hb2]]
      simp only [cond_false, cutE_inl, zaz hl1, zaz hy40]
      rw [if_neg (by rintro (h | h); exact h hb; exact hb2 h)]; rfl
    ·rw [show decide (b ≠ Bd.mk x.mn x.mx) = true by simp [hb]]
     simp only [cond_true, cutE_inl, zaz hl1, zaz hy40]
     rw [if_pos (.inl hb)]; rfl
   rw [show (((x.k : Nat) : Int) == 5) = true by simp [hk]]
   simp only [cond_true, Bool.cond_true_left]
   by_cases hs1 : zcr b = true
   ·by_cases hs2 : zcr (ofB x) = true
    ·have hs2' : zcr (Bd.mk x.mn x.mx) = true := hs2
     simp only [hs1, hs2', cond_true, hk, hs2, true_and, and_self, if_true]
     by_cases hb : b = Bd.mk 0 1
     ·cases hn : zbx x with
      | true => simp [hb, zp6]
      | false =>
       rw [show decide (b = Bd.mk 0 1) = true by simp [hb]]
       simp only [cond_true, cond_false, Bool.false_eq_true, and_false, if_false]
       exact hrep (.inl x)
     ·rw [show decide (b = Bd.mk 0 1) = false by simp [hb]]
      rw [if_neg (show ¬ (b = zp6 ∧ zbx x = true) from fun h => hb h.1)]
      exact hrep (.inl x)
    ·have hs2' : zcr (Bd.mk x.mn x.mx) = false := by simpa [ofB] using hs2
     simp only [hs1, hs2', cond_true, cond_false, true_and]
     rw [if_neg (show ¬ (x.k = 5 ∧ zcr (ofB x) = true) from fun h => hs2 h.2)]
     by_cases hb : b = Bd.mk 0 1
     ·cases hn : zbx x with
      | true => simp [hb, zp6]
      | false =>
       rw [show decide (b = Bd.mk 0 1) = true by simp [hb]]
       simp only [cond_true, cond_false, Bool.false_eq_true, and_false, if_false]
       simp [hb]
     ·rw [show decide (b = Bd.mk 0 1) = false by simp [hb]]
      rw [if_neg (show ¬ (b = zp6 ∧ zbx x = true) from fun h => hb h.1)]
      exact hplus _ rfl
   ·have hs1' : zcr b = false := by simpa using hs1
    simp only [hs1', cond_false, Bool.false_eq_true, false_and, and_false, if_false]
    have hb : b ≠ Bd.mk 0 1 := fun e => by rw [e] at hs1'; revert hs1'; decide
    rw [show decide (b = Bd.mk 0 1) = false by simp [hb]]
    rw [if_neg (show ¬ (b = zp6 ∧ zbx x = true) from fun h => hb h.1)]
    exact hplus _ rfl
  ·rw [show (((x.k : Nat) : Int) == 5) = false by simp; omega]
   simp only [cond_false]
   rw [if_neg (show ¬ (x.k = 5 ∧ zcr b = true ∧ zcr (ofB x) = true) from fun h => hk h.1)]
   by_cases hb : b = Bd.mk 0 1
   ·cases hn : zbx x with
    | true => simp [hb, zp6]
    | false =>
     rw [show decide (b = Bd.mk 0 1) = true by simp [hb]]
     simp only [cond_true, cond_false, Bool.false_eq_true, and_false, if_false]
     simp [hb]
   ·rw [show decide (b = Bd.mk 0 1) = false by simp [hb]]
    rw [if_neg (show ¬ (b = zp6 ∧ zbx x = true) from fun h => hb h.1)]
    exact hplus _ rfl
end Go.Ab
