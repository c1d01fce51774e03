/-
  law: trees compared by the reference.
-/
import Derived.Test.YtfkkellnlmjenaaGreatZeEe
set_option linter.unusedSimpArgs false
set_option linter.unusedVariables false
namespace Go.Ab
open Go Go.RowKit Go.Fwd Go.Proofs
theorem W64_get (s : BS) (q r : Nat) (hr : r < 64) : (W64 s q).getLsbD r = s.getLsbD (64 * q + r) := by simp [W64, hr]
def arP (s : BS) (i : Nat) : Ar := ⟨fun k => if k < i ∧ s.getLsbD k = true then 1 else 0⟩
theorem arP_0 (s : BS) : arP s 0 = zeroA := by simp [arP, zeroA]
theorem qgx {s : BS} {k : Nat} (h : s.getLsbD k = true) : k < 256 := by
 rcases Nat.lt_or_ge k 256 with h1 | h1
 ·exact h1
 ·rw [BitVec.getLsbD_of_ge s k h1] at h; cases h
theorem arP_256 (s : BS) : arP s 256 = zgd s := by
 unfold arP zgd
 refine congrArg Ar.mk (funext fun k => ?_)
 by_cases h : s.getLsbD k = true
 ·simp [h, qgx h]
 ·simp [h]
theorem arP_hit (s : BS) (i : Nat) (h : s.getLsbD i = true) : wrA (arP s i) (i : Int) 1 = arP s (i + 1) := by
 unfold arP wrA
 refine congrArg Ar.mk (funext fun k => ?_)
 rw [Int.toNat_natCast]
 by_cases e : k = i
 ·subst e; simp [h]
 ·simp only [e, if_false]
  by_cases e2 : k < i
  ·simp [e2, show k < i + 1 by omega]
  ·simp [e2, show ¬ k < i + 1 by omega]
theorem qjd (s : BS) (i : Nat) (h : s.getLsbD i = false) : arP s i = arP s (i + 1) := by
 unfold arP
 refine congrArg Ar.mk (funext fun k => ?_)
 by_cases e : k = i
 ·subst e; simp [h]
 ·by_cases e2 : k < i
  ·simp [e2, show k < i + 1 by omega]
  ·simp [e2, show ¬ k < i + 1 by omega]
theorem qgh (s : BS) (i : Nat) (h : s.getLsbD i = false) : wrA (arP s i) (i : Int) 0 = arP s (i + 1) := by
 rw [← qjd s i h]
 unfold arP wrA
 refine congrArg Ar.mk (funext fun k => ?_)
 rw [Int.toNat_natCast]
 by_cases e : k = i
 ·subst e; simp
 ·simp [e]
theorem qgq (s t : BS) : eqA (zgd s) (zgd t) = decide (s = t) := by
 unfold eqA
 by_cases h : s = t
 ·subst h; simp
 ·have : ¬ arL (zgd s) = arL (zgd t) := fun e => h (BitVec.eq_of_getLsbD_eq fun i hi => by
   have h1 := congrArg (fun l : List Int => l[i]?) e
   simp only [arL_get _ _ hi, Option.some.injEq] at h1
   simp only [zgd] at h1
   cases hs : s.getLsbD i <;> cases ht : t.getLsbD i <;> simp [hs, ht] at h1 ⊢)
  simp [h, this]
theorem qks {x : Int} (h : -9223372036854775808 ≤ x ∧ x < 9223372036854775808) : IntKind.i64.wrap x = x := zos h.1 h.2
theorem qjj {n : Nat} (h : n < 2 ^ 64) : IntKind.u64.wrap (n : Int) = (n : Int) := by
 simp only [IntKind.wrap, IntKind.bits, IntKind.signed]
 simp; omega
theorem qme (fuel : Nat) (hf : 256 < fuel) (s : BS) : zyc fuel s = some (zgd s) := by
 unfold zyc
 refine zbn (zgd s) (zdm 256 (fun i => ((i : Int), arP s i)) (by simp [arP_0]) (fun i hi => ?_) ?_ hf) rfl
 ·refine zbk (by simp; omega) ?_
  have e1 : IntKind.i64.wrap (Int.tdiv (i : Int) 64) = ((i / 64 : Nat) : Int) := by
   rw [show Int.tdiv (i : Int) 64 = ((i / 64 : Nat) : Int) from rfl]; exact qks (by omega)
  have e2 : Int.tmod (i : Int) 64 = ((i % 64 : Nat) : Int) := rfl
  simp only [e1, e2, Int.toNat_natCast]
  obtain ⟨w, hw⟩ : ∃ w, w = W64 s (i / 64) := ⟨_, rfl⟩
  have hw1 : wd s (i / 64) = ((w.toNat : Nat) : Int) := by rw [hw]; rfl
  have hwl := w.isLt
  refine zbn (arP s (i + 1)) (zm (by omega) ?_) (zm (by omega) rfl)
  refine zbn (((w.toNat / 2 ^ (i % 64) : Nat) : Nat) : Int) (zdm (i % 64) (fun j => (((w.toNat / 2 ^ j : Nat) : Int), (j : Int))) (by simp [hw1]) (fun j hj => ?_) ?_ (by omega)) ?_
  ·refine zbk (by simp; omega) (zm (by simp only; omega) ?_)
   have e3 : IntKind.u64.wrap (Int.tdiv ((w.toNat / 2 ^ j : Nat) : Int) 2) = ((w.toNat / 2 ^ (j + 1) : Nat) : Int) := by
    rw [show Int.tdiv ((w.toNat / 2 ^ j : Nat) : Int) 2 = ((w.toNat / 2 ^ j / 2 : Nat) : Int) from rfl, Nat.div_div_eq_div_mul, ← Nat.pow_succ]
    exact qjj (Nat.lt_of_le_of_lt (Nat.div_le_self _ _) hwl)
   simp only [e3, Int.natCast_add, Int.cast_ofNat_Int]
  ·refine zas (by simp) rfl
  ·have e4 : Int.tmod ((w.toNat / 2 ^ (i % 64) : Nat) : Int) 2 = ((w.toNat / 2 ^ (i % 64) % 2 : Nat) : Int) := rfl
   have hb : s.getLsbD i = decide (w.toNat / 2 ^ (i % 64) % 2 = 1) := by
    have h := W64_get s (i / 64) (i % 64) (Nat.mod_lt _ (by decide))
    rw [show 64 * (i / 64) + i % 64 = i by omega, ← hw] at h
    rw [← h, BitVec.getLsbD, Nat.testBit_eq_decide_div_mod_eq]
   simp only [e4]
   generalize hm : w.toNat / 2 ^ (i % 64) % 2 = m at *
   have hm2 : m < 2 := by rw [← hm]; exact Nat.mod_lt _ (by decide)
   refine zm (by omega) (zm (by omega) ?_)
   rcases (by omega : m = 0 ∨ m = 1) with rfl | rfl
   ·rw [Int.natCast_zero, qgh s i (by simpa using hb)]
   ·rw [show ((1 : Nat) : Int) = 1 from rfl, arP_hit s i (by simpa using hb)]
 ·refine zas (by simp) ?_
  simp only [arP_256]
theorem k_words (s : BS) : Pure (ITP Tryz.prog) Tryz.prog 113 [.agg (Enc.cells s)] (.agg (Enc.cells (zgd s))) := qmg 257 s _ (qme 257 (by decide) s)
def KO (t : Tr) : Prop := (∀ x ∈ pre t, x.k < 256) ∧ (pre t).length < 2 ^ 35
instance (t : Tr) : Decidable (KO t) := inferInstanceAs (Decidable (_ ∧ _))
section
variable {P : Program} {ρ : Operand → AV} {σ : St} {o : Oper}
end
end Go.Ab
set_option maxRecDepth 100000
set_option maxHeartbeats 4000000
namespace Go.Ab
open Go Go.RowKit Go.Fwd Go.Proofs
end Go.Ab
namespace Go.Ab
open Go Go.RowKit Go.Fwd Go.Proofs
theorem KO.sub {t x : Tr} (h : KO t) (hx : x ∈ t.l) : KO x := by
 have h1 := zcc hx
 have hp : (pre t).length = 1 + (zan t.l).length := by rw [zdi, List.length_cons]; omega
 refine ⟨fun y hy => h.1 y ?_, by have := h.2; omega⟩
 rw [zdi]
 refine List.mem_cons_of_mem _ ?_
 have : ∀ l : List Tr, x ∈ l → y ∈ zan l := fun l => by
  induction l with
  | nil => intro h; cases h
  | cons z l ih =>
   intro h
   rw [zan, List.mem_append]
   rcases List.mem_cons.1 h with rfl | h
   ·exact .inl hy
   ·exact .inr (ih h)
 exact this _ hx
def rtL (r : RT) : List RT := r.t.l.map RT.mk
theorem z5n (r : RT) : (rtL r).length = r.t.l.length := by simp [rtL]
theorem qfo (r : RT) : Enc.cellsL (rtL r) = qhq r.t.l := by
 show qhq ((r.t.l.map RT.mk).map RT.t) = _
 rw [List.map_map]; congr 1; exact List.map_id _
section
variable {ρ : Operand → AV} {σ : St} {o : Oper} {x : Operand} {b : Nat} {tt : TypeId}
theorem z9o (r : RT) (ho : o.op = .load 3 x) (hx : ρ x = .ptr b 0) (hb : σ.boxes[b]? = some (tt, Enc.cells r)) : qop Tryz.prog ρ σ o = some (.raw (.int .i64 ((r.t.k : Nat) : Int))) := qem r.t ho hx (zon r ▸ hb)
theorem z8j (r : RT) (ho : o.op = .load 103 x) (hx : ρ x = .ptr b 1) (hb : σ.boxes[b]? = some (tt, Enc.cells r)) : qop Tryz.prog ρ σ o = some (.agg (Enc.cells (zgd r.t.s))) := qcg r.t ho hx (zon r ▸ hb)
theorem z8n (r : RT) (ho : o.op = .load 3 x) (hx : ρ x = .ptr b 257) (hb : σ.boxes[b]? = some (tt, Enc.cells r)) : qop Tryz.prog ρ σ o = some (.raw (.int .i64 r.t.mn)) := qea r.t ho hx (zon r ▸ hb)
theorem z7e (r : RT) (ho : o.op = .load 3 x) (hx : ρ x = .ptr b 258) (hb : σ.boxes[b]? = some (tt, Enc.cells r)) : qop Tryz.prog ρ σ o = some (.raw (.int .i64 r.t.mx)) := qhk r.t ho hx (zon r ▸ hb)
theorem zny (r : RT) (ho : o.op = .load 104 x) (hx : ρ x = .ptr b 259) (hb : σ.boxes[b]? = some (tt, Enc.cells r)) : qop Tryz.prog ρ σ o = some (.list (List.length (rtL r)) (Enc.cellsL (rtL r)) .none) := by
 rw [z5n, qfo]; exact qdf r.t ho hx (zon r ▸ hb)
end
theorem rs_neA {ρ : Operand → AV} {o : Oper} {x y : Operand} {c} (s t : Ar) (ho : o.op = .binOp .neq 103 x y c) (hx : ρ x = .agg (Enc.cells s)) (hy : ρ y = .agg (Enc.cells t)) : zoj Tryz.prog ρ o (.raw (.bool (!(eqA s t)))) := by
 replace hx : ρ x = .agg ((arL s).map qnx) := hx
 replace hy : ρ y = .agg ((arL t).map qnx) := hy
 refine ⟨?_, by rw [ho]; intros; simp, by rw [ho]; intros; simp, .bool (!(eqA s t)), fun w => ?_, rfl, rfl⟩
 ·rw [ho]; simp [Op.operands, hx, hy, zpx]
 ·have h1 : zdb ρ x = .agg ((arL s).map (Value.int .i64)).toArray := by simp only [zdb, hx, zpx, Option.getD_some]
  have h2 : zdb ρ y = .agg ((arL t).map (Value.int .i64)).toArray := by simp only [zdb, hy, zpx, Option.getD_some]
  have h3 := eqIn103 9998 (arL s) (arL t) (qgc s) (qgc t) w
  simp [execOp, ho, h1, h2, eqGuard, binOp, Op.equal, Op.maxDepth, program, Sem.run, qlz, h3, eqA]
end Go.Ab
set_option maxRecDepth 100000
set_option maxHeartbeats 4000000
namespace Go.Ab
open Go Go.RowKit Go.Fwd Go.Proofs
def z4p (a b : RT) : Bool := zfa a.t b.t
def zrl (fuel : Nat) (n : Nat) (a : RT) (b : RT) : Option Bool :=
 (bif (((a.t.k : Nat) : Int) != ((b.t.k : Nat) : Int)) then (some false) else (bif (!(eqA (zgd a.t.s) (zgd b.t.s))) then (some false) else (bif (a.t.mn != b.t.mn) then (some false) else (bif (a.t.mx != b.t.mx) then (some false) else (bif ((List.length (rtL a) : Int) != (List.length (rtL b) : Int)) then (some false) else (zdr (τ := Unit) (zbx (β := Int) (fun s1 => (bif (decide (s1 < (List.length (rtL a) : Int))) then (chk (0 ≤ s1 ∧ s1 < (List.length (rtL a) : Int)) (zbb (ix (rtL a) s1) (fun x1 => (chk (0 ≤ s1 ∧ s1 < (List.length (rtL b) : Int)) (zbb (ix (rtL b) s1) (fun x2 => (chk (((pre x1.t).length < n)) (zbb (z4p x1 x2) (fun x3 => (bif (!x3) then (some (Sum.inr (Sum.inr false))) else (chk (-9223372036854775808 ≤ (s1 + 1) ∧ (s1 + 1) < 9223372036854775808) (some (Sum.inl ((s1 + 1))))))))))))))) else (some (Sum.inr (Sum.inl ()))))) fuel (0)) (fun j1 => (some true))))))))
theorem ent80 : Ent Tryz.prog 80 := enters_of Tryz.func80 (by kernel_rfl) rfl
theorem qdb (fuel : Nat) (n : Nat) (a : RT) (b : RT) (r : Bool) (ih : ∀ (x y : RT), ((pre x.t).length < n) → Pure (ITP Tryz.prog) Tryz.prog 80 [.A x, .A y] (.raw (.bool (z4p x y)))) (h : zrl fuel n a b = some r) : Pure (ITP Tryz.prog) Tryz.prog 80 [.A (a : RT), .A (b : RT)] (.raw (.bool r)) := by
 unfold zrl at h
 refine zaw 58 mix Tryz.func80 ent80 ?_
 refine zf (zb ?_)
 refine zbp (a := .ptr 0 0) (σ'' := (.B [(106, (Enc.cells (a : RT)))])) ?_
 refine zbp (a := .ptr 1 0) (σ'' := (.B [(106, (Enc.cells (a : RT))), (106, (Enc.cells (b : RT)))])) ?_
 refine w_o (a := .b false) ?_
 refine zf ?_
 refine zo [.v (.ptr 0 0)] ?_
 refine w_o (a := .i ((a.t.k : Nat) : Int)) (h := zbo (z9o a rfl rfl rfl)) ?_
 refine w_o (a := .ptr 1 0) ?_
 refine w_o (a := .i ((b.t.k : Nat) : Int)) (h := zbo (z9o b rfl rfl rfl)) ?_
 refine w_o (a := .b (((a.t.k : Nat) : Int) != ((b.t.k : Nat) : Int))) ?_
 refine zac h (fun hc1 h => ?_) (fun hc1 h => ?_)
 refine zaz hc1 ?_
 refine w_r [.p, .p, .p, .p, .p] ?_
 refine w_r [.v (.b true), .m _, .p, .p, .p] ?_
 refine w_r [.p, .p, .v (.b true), .m _, .p] ?_
 refine w_r [.p, .p, .p, .p, .v (.b true)] ?_
 refine w_r [.m _, .p, .p, .p, .p] ?_
 refine w_r [.p, .p, .p, .v (.b true)] ?_
 refine zby rfl ?_
 refine zo [.v (.b false)] ?_
 exact zba h
 refine zaz hc1 ?_
 refine zak rfl rfl ?_
 refine w_o (a := .ptr 0 1) ?_
 refine zak rfl rfl ?_
 refine w_o (a := .A ((zgd a.t.s) : Ar)) (h := zbo (z8j a rfl rfl rfl)) ?_
 refine zak rfl rfl ?_
 refine w_o (a := .ptr 1 1) ?_
 refine zak rfl rfl ?_
 refine w_o (a := .A ((zgd b.t.s) : Ar)) (h := zbo (z8j b rfl rfl rfl)) ?_
 refine zak rfl rfl ?_
 refine z4w (.b (!(eqA (zgd a.t.s) (zgd b.t.s)))) rfl rfl rfl (rs_neA (zgd a.t.s) (zgd b.t.s) rfl rfl rfl) (by dsimp only [zab, List.set]) ?_
 refine w_o (a := .b (!(eqA (zgd a.t.s) (zgd b.t.s)))) ?_
 refine zac h (fun hc2 h => ?_) (fun hc2 h => ?_)
 refine zaz hc2 ?_
 refine w_r [.p, .p, .p, .p, .p] ?_
 refine w_r [.v (.b true), .m _, .p, .p, .p] ?_
 refine w_r [.p, .p, .v (.b true), .m _, .p] ?_
 refine w_r [.p, .p, .p, .p, .p] ?_
 refine w_r [.p, .v (.b true)] ?_
 refine zby rfl ?_
 refine zo [.v (.b false)] ?_
 exact zba h
 refine zaz hc2 ?_
 refine zak rfl rfl ?_
 refine w_o (a := .ptr 0 257) ?_
 refine zak rfl rfl ?_
 refine w_o (a := .i a.t.mn) (h := zbo (z8n a rfl rfl rfl)) ?_
 refine zak rfl rfl ?_
 refine w_o (a := .ptr 1 257) ?_
 refine zak rfl rfl ?_
 refine w_o (a := .i b.t.mn) (h := zbo (z8n b rfl rfl rfl)) ?_
 refine w_r [.v (.b (a.t.mn != b.t.mn)), .v (.b (a.t.mn != b.t.mn))] ?_
 refine zac h (fun hc3 h => ?_) (fun hc3 h => ?_)
 refine zaz hc3 ?_
 refine w_r [.p, .p, .p, .p, .p] ?_
 refine w_r [.v (.b true), .m _, .p, .p, .p] ?_
 refine w_r [.p, .p, .p, .p, .v (.b true)] ?_
 refine zby rfl ?_
 refine zo [.v (.b false)] ?_
 exact zba h
 refine zaz hc3 ?_
 refine zak rfl rfl ?_
 refine w_o (a := .ptr 0 258) ?_
 refine zak rfl rfl ?_
 refine w_o (a := .i a.t.mx) (h := zbo (z7e a rfl rfl rfl)) ?_
 refine zak rfl rfl ?_
 refine w_o (a := .ptr 1 258) ?_
 refine zak rfl rfl ?_
 refine w_o (a := .i b.t.mx) (h := zbo (z7e b rfl rfl rfl)) ?_
 refine w_r [.v (.b (a.t.mx != b.t.mx)), .v (.b (a.t.mx != b.t.mx))] ?_
 refine zac h (fun hc4 h => ?_) (fun hc4 h => ?_)
 refine zaz hc4 ?_
 refine w_r [.p, .p, .p, .p, .p] ?_
 refine w_r [.p, .p, .v (.b true)] ?_
 refine zby rfl ?_
 refine zo [.v (.b false)] ?_
 exact zba h
 refine zaz hc4 ?_
 refine zak rfl rfl ?_
 refine w_o (a := .ptr 0 259) ?_
 refine zak rfl rfl ?_
 refine w_o (a := .L ((rtL a) : List RT)) (h := zbo (zny a rfl rfl rfl)) ?_
 refine w_r [.v (.i (List.length (rtL a) : Int)), .v (.ptr 1 259)] ?_
 refine zak rfl rfl ?_
 refine w_o (a := .L ((rtL b) : List RT)) (h := zbo (zny b rfl rfl rfl)) ?_
 refine w_r [.v (.i (List.length (rtL b) : Int)), .v (.b ((List.length (rtL a) : Int) != (List.length (rtL b) : Int))), .v (.b ((List.length (rtL a) : Int) != (List.length (rtL b) : Int)))] ?_
 refine zbu h (fun hc5 h => ?_) (fun hc5 h => ?_)
 refine zo [.v (.b false)] ?_
 exact zba h
 refine zar h (bz 0 60 1152921504606846975) (fun j1 => []) (fun j1 => (.B [(106, (Enc.cells (a : RT))), (106, (Enc.cells (b : RT)))])) ?_ ?_
 intro or1 h hr1
 refine zo [.v (.i 0)] ?_
 refine zn ?_
 refine zbr h (bz 0 60 1152921504606846963) (fun s1 => [(5, .i s1)]) (fun s1 => (.B [(106, (Enc.cells (a : RT))), (106, (Enc.cells (b : RT)))])) ?_ ?_
 exact zde (bl 60 44)
 intro s1 p1 h
 refine zff ?_
 refine zf ?_
 refine zo [.m _, .v (.ptr 0 259)] ?_
 refine w_o (a := .L ((rtL a) : List RT)) (h := zbo (zny a rfl rfl rfl)) ?_
 refine w_r [.v (.i (List.length (rtL a) : Int)), .v (.b (decide (s1 < (List.length (rtL a) : Int))))] ?_
 refine zbu h (fun hc6 h => ?_) (fun hc6 h => ?_)
 refine zf ?_
 refine zn ?_
 refine zf ?_
 refine zhb (k0 := 0) (id := 6) 10 (by kernel_rfl) (by kernel_rfl) ?_
 refine h_o (a := .ptr 0 259) ?_
 refine h_o (a := .L ((rtL a) : List RT)) (h := zny a rfl rfl rfl) ?_
 refine zho ?_
 obtain ⟨g1, h⟩ := zh h
 obtain ⟨x1, hx1, h⟩ := zl h
 refine h_ix hx1 g1 ?_
 refine h_o (a := .A (x1 : RT)) (h := z1u x1 rfl rfl) ?_
 refine h_o (a := .ptr 1 259) ?_
 refine h_o (a := .L ((rtL b) : List RT)) (h := zny b rfl rfl rfl) ?_
 refine zho ?_
 obtain ⟨g2, h⟩ := zh h
 obtain ⟨x2, hx2, h⟩ := zl h
 refine h_ix hx2 g2 ?_
 refine h_o (a := .A (x2 : RT)) (h := z1u x2 rfl rfl) ?_
 refine zlc ?_
 obtain ⟨g3, h⟩ := zh h
 obtain ⟨x3, hx3, h⟩ := zl h
 refine zcf (args' := [.A (x1 : RT), .A (x2 : RT)]) (r := .b x3) (by rw [← hx3]; exact (ih x1 x2 g3)) ?_
 refine w_o (a := .b (!x3)) ?_
 refine zbu h (fun hc7 h => ?_) (fun hc7 h => ?_)
 refine zo [.v (.b false)] ?_
 refine zt h (fun h => ?_)
 replace h := zu h hr1
 exact zba h
 refine zb (k0 := 0) (id := 5) ?_
 refine zaj ?_
 obtain ⟨g4, h⟩ := zh h
 refine zov g4 ?_
 refine zaj ?_
 refine zaq (p := p1) ((s1 + 1)) h ?_
 exact zde (bl 60 44)
 refine zt h (fun h => ?_)
 refine zg (o := or1) () h ?_
 exact zde (bl 60 0)
 intro j1 h
 refine zff ?_
 refine zo [.v (.b true)] ?_
 exact zba h
end Go.Ab
