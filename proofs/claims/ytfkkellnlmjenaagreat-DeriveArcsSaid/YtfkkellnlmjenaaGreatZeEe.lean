/-
  law: sizes of trees; words of sets.
-/
import Derived.Test.YtfkkellnlmjenaaGreatZeEc
set_option linter.unusedSimpArgs false
set_option linter.unusedVariables false
namespace Go.Ab
open Go Go.RowKit Go.Fwd Go.Proofs
structure Ar where
 f : Nat → Int
def qnx (x : Int) : AV := .raw (.int .i64 x)
def arL (a : Ar) : List Int := (List.range 256).map a.f
def zfw (a : Ar) : List AV := (arL a).map qnx
theorem qgc (a : Ar) : (arL a).length = 256 := by simp [arL]
theorem arL_get (a : Ar) (i : Nat) (h : i < 256) : (arL a)[i]? = some (a.f i) := by simp [arL, h]
theorem z8h (l : List Int) : cloL (l.map qnx) = true := by
 induction l with
 | nil => rfl
 | cons x l ih => rw [List.map_cons, cloL, ih]; rfl
instance : Enc Ar where
 inh := ⟨fun _ => 0⟩
 cells := zfw
 cellsL l := l.flatMap zfw
 sz := 256
 pos := by decide
 nil := rfl
 cons _ _ := rfl
 len a := by simp [zfw, arL]
 clo a := z8h _
def zeroA : Ar := ⟨fun _ => 0⟩
def wrA (a : Ar) (i v : Int) : Ar := ⟨fun k => if k = i.toNat then v else a.f k⟩
def eqA (a b : Ar) : Bool := decide (arL a = arL b)
theorem zvm (a : Ar) (i : Nat) (h : i < 256) : (zfw a)[i]? = some (qnx (a.f i)) := by simp [zfw, arL, h]
theorem qhh (a : Ar) (i v : Int) (h : 0 ≤ i ∧ i < 256) : zfw (wrA a i v) = (zfw a).set i.toNat (qnx v) := by
 apply List.ext_getElem?
 intro k
 rcases Nat.lt_or_ge k 256 with hk | hk
 ·rw [zvm _ _ hk]
  by_cases e : i.toNat = k
  ·subst e
   rw [List.getElem?_set_self (by simp [zfw, arL]; omega)]; simp [wrA]
  ·rw [List.getElem?_set_ne e, zvm _ _ hk]; simp [wrA, Ne.symm e]
 ·rw [List.getElem?_eq_none (by simp [zfw, arL]; omega), List.getElem?_eq_none (by simp [zfw, arL]; omega)]
section
variable {ρ : Operand → AV} {σ : St} {o : Oper}
theorem qii : zdj Tryz.prog 103 = some 256 := by kernel_rfl
theorem size102 : zdj Tryz.prog 102 = some 256 := by kernel_rfl
theorem qlg : zdj Tryz.prog 3 = some 1 := by kernel_rfl
theorem und3 : Tryz.prog.underlying 3 = some (.int .i64) := by kernel_rfl
theorem qfk : Tryz.prog.underlying 103 = some (.array 256 3) := by kernel_rfl
theorem und102 : Tryz.prog.underlying 102 = some (.array 256 3) := by kernel_rfl
theorem qnq {P : Program} {t : TypeId} {cs : List AV} {n k : Nat} {e : TypeId} (hu : P.underlying t = some (.array k e)) (hs : zdj P t = some n) (hl : cs.length = n) : rd P t cs = some (.agg cs) := by
 unfold zdj at hs
 cases hi : P.info? t with
 | none => simp [hi] at hs
 | some i =>
  simp only [hi, Option.map_some, Option.some.injEq] at hs
  subst hs
  simp only [rd, hu, hi, hl, Nat.le_refl, if_true, List.take_of_length_le]
theorem qgy {P : Program} {t : TypeId} {k : IntKind} {cs : List AV} {n : Nat} (hu : P.underlying t = some (.int k)) (hs : zdj P t = some n) : rd P t cs = cs.head? := by
 unfold zdj at hs
 cases hi : P.info? t with
 | none => simp [hi] at hs
 | some i => simp [rd, hu, hi]
theorem qcq {t : TypeId} {x : Operand} {b : Nat} {tt : TypeId} (a : Ar) (ht : t = 103 ∨ t = 102) (ho : o.op = .load t x) (hx : ρ x = .ptr b 0) (hb : σ.boxes[b]? = some (tt, Enc.cells a)) : qop Tryz.prog ρ σ o = some (.agg (Enc.cells a)) := by
 have key : rd Tryz.prog t ((Enc.cells a).drop 0) = some (.agg (Enc.cells a)) := by
  rw [List.drop_zero]
  rcases ht with rfl | rfl
  ·exact qnq qfk qii (Enc.len a)
  ·exact qnq und102 size102 (Enc.len a)
 simp only [qop, ho, zpd, hx, hb, key]
theorem qel {x y : Operand} {b : Nat} {tt : TypeId} {i v : Int} (a : Ar) (h : 0 ≤ i ∧ i < 256) (ho : o.op = .store 3 x y) (hx : ρ x = .ptr b (0 + i.toNat * 1)) (hy : ρ y = .raw (.int .i64 v)) (hb : σ.boxes[b]? = some (tt, Enc.cells a)) :
 aop Tryz.prog ρ σ o = some (.raw undef, { σ with boxes := σ.boxes.set b (tt, Enc.cells (wrA a i v)) }) := by
 have hl : (Enc.cells a).length = 256 := Enc.len a
 rw [zlw (n := 1) ho hx hy hb qlg ⟨rfl, rfl, by simp only [hl]; omega, by decide⟩]
 have e : (Enc.cells a).take (0 + i.toNat * 1) ++ cellsOf (.raw (.int .i64 v)) ++ (Enc.cells a).drop (0 + i.toNat * 1 + 1) = Enc.cells (wrA a i v) := by
  show _ = zfw (wrA a i v)
  rw [qhh _ _ _ h, List.set_eq_take_append_cons_drop, if_pos (by rw [show (zfw a).length = 256 from Enc.len a]; omega)]
  simp only [Nat.zero_add, Nat.mul_one, List.append_assoc, cellsOf, List.singleton_append]
  rfl
 simp only [e]
def zv57 : Value := .agg ((List.range 256).map fun _ => Value.int .i64 0).toArray
theorem zero103 : zjk Tryz.prog 103 = some zv57 := by kernel_rfl
theorem zero102 : zjk Tryz.prog 102 = some zv57 := by kernel_rfl
theorem zvl : cellsOf (zje zv57) = Enc.cells zeroA := by kernel_rfl
theorem z1k {P : Program} {t : TypeId} {z : Value} (hz : zjk P t = some z) : ztl P σ t = some (.ptr σ.boxes.length 0, { σ with boxes := σ.boxes ++ [(t, cellsOf (zje z))] }) := by
 unfold zjk at hz
 unfold ztl
 cases hi : P.info? t with
 | none => simp [hi] at hz
 | some i =>
  simp only [hi] at hz ⊢
  cases hzz : i.zero with
  | none => simp [hzz] at hz
  | some z' =>
   simp only [hzz] at hz ⊢
   split at hz
   ·rename_i hk
    cases hz
    rw [if_pos hk.1, aBox, if_pos hk.2]
   ·cases hz
theorem zzz {t : TypeId} (ht : t = 103 ∨ t = 102) (ho : o.op = .alloc t) : aop Tryz.prog ρ σ o = some (.ptr σ.boxes.length 0, { σ with boxes := σ.boxes ++ [(t, Enc.cells zeroA)] }) := by
 have h : ztl Tryz.prog σ t = some (.ptr σ.boxes.length 0, { σ with boxes := σ.boxes ++ [(t, Enc.cells zeroA)] }) := by
  rcases ht with rfl | rfl
  ·rw [z1k zero103, zvl]
  ·rw [z1k zero102, zvl]
 simp only [aop, qop, ho, h]
end
theorem zxb (w : World) (d : Nat) (a b : Int) : (Op.equalIn (d + 1) 3 (.int .i64 a) (.int .i64 b)).run Tryz.prog w = .ok (a == b) w := run_equalIn_int w d 3 .i64 .i64 a b und3
theorem zpx (l : List Int) : zfx (.agg (l.map qnx)) = some (.agg (l.map (Value.int .i64)).toArray) := by
 have : zeh (l.map qnx) = some (l.map (Value.int .i64)) := by
  induction l with
  | nil => rfl
  | cons x l ih => rw [List.map_cons, zeh, ih]; rfl
 simp [zfx, this]
theorem qbv (w : World) : (isAgg 3).run Tryz.prog w = .ok false w := by kernel_rfl
theorem qfg (w : World) : (sizeOf 3).run Tryz.prog w = .ok 1 w := by kernel_rfl
theorem eqIn103 (d : Nat) (xs ys : List Int) (hx : xs.length = 256) (hy : ys.length = 256) (w : World) :
 (Op.equalIn (d + 1 + 1) 103 (.agg (xs.map (Value.int .i64)).toArray) (.agg (ys.map (Value.int .i64)).toArray)).run Tryz.prog w = .ok (decide (xs = ys)) w := by
 rw [Op.equalIn]
 simp only [Sem.run_bind, run_underlying qfk, Result.andThen_ok, qfg]
 simp only [Std.Legacy.Range.forIn_eq_forIn_range', Std.Legacy.Range.size, Nat.sub_zero, Nat.add_sub_cancel, Nat.div_one]
 have key : ∀ n s, s + n = 256 → (Sem.run Tryz.prog
  (forIn (List.range' s n) (none, ()) fun i (__s : Option Bool × Unit) => do
   let __do_lift ← part 3 (List.map (Value.int IntKind.i64) xs).toArray (i * 1)
   let __do_lift_1 ← part 3 (List.map (Value.int IntKind.i64) ys).toArray (i * 1)
   let __do_lift ← Op.equalIn (d + 1) 3 __do_lift __do_lift_1
   if (!__do_lift) = true then pure (ForInStep.done (some false, ())) else pure (ForInStep.yield (none, ()))) w) = .ok (if xs.drop s = ys.drop s then (none, ()) else (some false, ())) w := by
  intro n
  induction n with
  | zero =>
   intro s hs
   rw [if_pos (by rw [List.drop_of_length_le (by omega), List.drop_of_length_le (by omega)])]
   simp [Sem.run_pure]
  | succ n ih =>
   intro s hs
   have h1 : s < xs.length := by omega
   have h2 : s < ys.length := by omega
   have ih := ih (s + 1) (by omega)
   rw [List.range'_succ, List.forIn_cons]
   rw [List.drop_eq_getElem_cons h1, List.drop_eq_getElem_cons h2]
   have hp : ∀ (zs : List Int) (hz : s < zs.length) (w : World), (part 3 (List.map (Value.int IntKind.i64) zs).toArray (s * 1)).run Tryz.prog w = .ok (.int .i64 zs[s]) w := fun zs hz w => by
    simp only [part, Sem.run_bind, qbv, Result.andThen_ok, Nat.mul_one, List.getElem?_toArray, List.getElem?_map, List.getElem?_eq_getElem hz, Option.map_some, if_false, Bool.false_eq_true, Sem.run_pure]
   simp only [Sem.run_bind, hp xs h1, hp ys h2, Result.andThen_ok, Bool.false_eq_true, Sem.run_pure, zxb]
   by_cases e : xs[s] = ys[s]
   ·simp only [e, beq_self_eq_true, Bool.not_true, Bool.false_eq_true, if_false, Sem.run_pure, Result.andThen_ok, List.cons.injEq, true_and]
    exact ih
   ·have : (xs[s] == ys[s]) = false := by simp [e]
    simp only [this, Bool.not_false, if_true, Sem.run_pure, Result.andThen_ok, List.cons.injEq, e, false_and, if_false]
 have h := key 256 0 rfl
 simp only [List.drop_zero] at h
 rw [h]
 by_cases e : xs = ys
 ·simp [e, Result.andThen, Sem.run_pure]
 ·simp [e, Result.andThen, Sem.run_pure]
theorem qlz : Tryz.prog.eqGuardType Tryz.prog.depth 103 = false := by kernel_rfl
structure RT where
 t : Tr
def zgd (s : BS) : Ar := ⟨fun i => if s.getLsbD i = true then 1 else 0⟩
def zgk (t : Tr) : List AV := .raw (.int .i64 t.k) :: (zfw (zgd t.s) ++ [.raw (.int .i64 t.mn), .raw (.int .i64 t.mx)])
mutual
def rtc : Tr → List AV
 | .mk k s mn mx l => zgk (.mk k s mn mx []) ++ [.list l.length (qhq l) .none]
def qhq : List Tr → List AV
 | [] => []
 | x :: l => rtc x ++ qhq l
end
theorem qbx (t : Tr) : (zgk t).length = 259 := by simp [zgk, zfw, arL]
theorem qod (t : Tr) : rtc t = zgk t ++ [.list t.l.length (qhq t.l) .none] := by obtain ⟨k, s, mn, mx, l⟩ := t; rw [rtc]; rfl
theorem rtc_len (t : Tr) : (rtc t).length = 260 := by rw [qod, List.length_append, qbx]; rfl
theorem qah (t : Tr) : cloL (zgk t) = true := by
 unfold zgk
 rw [cloL, zey]
 rw [show cloL (zfw (zgd t.s)) = true from z8h _]; rfl
mutual
theorem qcv : ∀ t : Tr, cloL (rtc t) = true
 | .mk k s mn mx l => by
  rw [rtc, zey, qah, cloL, clo, z9b l]; rfl
theorem z9b : ∀ l : List Tr, cloL (qhq l) = true
 | [] => by rw [qhq]; rfl
 | x :: l => by rw [qhq, zey, qcv x, z9b l]; rfl
end
instance : Enc RT := ⟨⟨noneT⟩, fun r => rtc r.t, fun l => qhq (l.map RT.t), 260, by decide, rfl, fun _ _ => by rw [List.map_cons, qhq], fun r => rtc_len r.t, fun r => qcv r.t⟩
def rtX (t : Tr) (a : AV) : List AV := zgk t ++ [a]
theorem zon (r : RT) : Enc.cells r = rtX r.t (.list r.t.l.length (qhq r.t.l) .none) := qod r.t
theorem isStr {d : Option TypeDesc} (h : (match d with | some (.struct _) => true | _ => false) = true) : ∃ fs, d = some (.struct fs) := by
 match d, h with
 | some (.struct fs), _ => exact ⟨fs, rfl⟩
theorem und106 : ∃ fs, Tryz.prog.underlying 106 = some (.struct fs) := isStr (by kernel_rfl)
theorem size106 : zdj Tryz.prog 106 = some 260 := by kernel_rfl
theorem und104 : Tryz.prog.underlying 104 = some (.slice 106) := by kernel_rfl
section
variable {ρ : Operand → AV} {σ : St} {o : Oper}
theorem qgd {P : Program} {t : TypeId} {cs : List AV} {n : Nat} {fs} (hu : P.underlying t = some (.struct fs)) (hs : zdj P t = some n) (hl : n ≤ cs.length) : rd P t cs = some (.agg (cs.take n)) := by
 unfold zdj at hs
 cases hi : P.info? t with
 | none => simp [hi] at hs
 | some i =>
  simp only [hi, Option.map_some, Option.some.injEq] at hs
  subst hs
  simp only [rd, hu, hi, hl, if_true]
theorem rd_rt (cs rest : List AV) (hl : cs.length = 260) : rd Tryz.prog 106 (cs ++ rest) = some (.agg cs) := by
 obtain ⟨fs, hu⟩ := und106
 rw [qgd hu size106 (by rw [List.length_append]; omega), List.take_append_of_le_length (by omega), List.take_of_length_le (by omega)]
theorem qlq {P : Program} {t : TypeId} {cs : List AV} {n : Nat} (hs : zdj P t = some n) (h1 : ∃ d, P.underlying t = some d ∧ (∀ fs, d ≠ .struct fs) ∧ ∀ k e, d ≠ .array k e) : rd P t cs = cs.head? := by
 obtain ⟨d, hd, h2, h3⟩ := h1
 unfold zdj at hs
 cases hi : P.info? t with
 | none => simp [hi] at hs
 | some i =>
  cases d with
  | struct fs => exact absurd rfl (h2 fs)
  | array k e => exact absurd rfl (h3 k e)
  | _ => simp only [rd, hd, hi]
theorem z1u {x : Operand} {rest : List AV} (r : RT) (ho : o.op = .load 106 x) (hx : ρ x = .iptr (Enc.cells r ++ rest)) : qop Tryz.prog ρ σ o = some (.agg (Enc.cells r)) := by
 simp only [qop, ho, zpd, hx, rd_rt _ rest (Enc.len r)]
theorem qem {x : Operand} {b : Nat} {tt : TypeId} (t : Tr) {a : AV} (ho : o.op = .load 3 x) (hx : ρ x = .ptr b 0) (hb : σ.boxes[b]? = some (tt, rtX t a)) : qop Tryz.prog ρ σ o = some (.raw (.int .i64 t.k)) := by
 simp only [qop, ho, zpd, hx, hb, List.drop_zero, qgy und3 qlg]; rfl
theorem qkr (t : Tr) (a : AV) : (rtX t a).drop 257 = [.raw (.int .i64 t.mn), .raw (.int .i64 t.mx), a] := by
 have h : (zfw (zgd t.s)).length = 256 := by simp [zfw, arL]
 rw [rtX, zgk, List.cons_append, List.append_assoc, List.drop_succ_cons, List.drop_append, List.drop_of_length_le (by omega), h]; rfl
theorem zrz (t : Tr) (a : AV) (j : Nat) : (rtX t a).drop (257 + j) = [AV.raw (.int .i64 t.mn), .raw (.int .i64 t.mx), a].drop j := by rw [← qkr t a, List.drop_drop]
theorem qea {x : Operand} {b : Nat} {tt : TypeId} (t : Tr) {a : AV} (ho : o.op = .load 3 x) (hx : ρ x = .ptr b 257) (hb : σ.boxes[b]? = some (tt, rtX t a)) : qop Tryz.prog ρ σ o = some (.raw (.int .i64 t.mn)) := by
 simp only [qop, ho, zpd, hx, hb, qgy und3 qlg, zrz t a 0]; rfl
theorem qhk {x : Operand} {b : Nat} {tt : TypeId} (t : Tr) {a : AV} (ho : o.op = .load 3 x) (hx : ρ x = .ptr b 258) (hb : σ.boxes[b]? = some (tt, rtX t a)) : qop Tryz.prog ρ σ o = some (.raw (.int .i64 t.mx)) := by
 simp only [qop, ho, zpd, hx, hb, qgy und3 qlg, zrz t a 1]; rfl
theorem qdf {x : Operand} {b : Nat} {tt : TypeId} (t : Tr) {a : AV} (ho : o.op = .load 104 x) (hx : ρ x = .ptr b 259) (hb : σ.boxes[b]? = some (tt, rtX t a)) : qop Tryz.prog ρ σ o = some a := by
 have h1 : zdj Tryz.prog 104 = some 1 := by kernel_rfl
 simp only [qop, ho, zpd, hx, hb, qlq h1 ⟨_, und104, by simp, by simp⟩, zrz t a 2]; rfl
theorem qcg {x : Operand} {b : Nat} {tt : TypeId} (t : Tr) {a : AV} (ho : o.op = .load 103 x) (hx : ρ x = .ptr b 1) (hb : σ.boxes[b]? = some (tt, rtX t a)) : qop Tryz.prog ρ σ o = some (.agg (Enc.cells (zgd t.s))) := by
 have h : (zfw (zgd t.s)).length = 256 := by simp [zfw, arL]
 have e : (rtX t a).drop 1 = zfw (zgd t.s) ++ [.raw (.int .i64 t.mn), .raw (.int .i64 t.mx), a] := by rw [rtX, zgk]; simp
 have key : rd Tryz.prog 103 ((rtX t a).drop 1) = some (.agg (Enc.cells (zgd t.s))) := by
  rw [e]
  have hs := qii
  unfold zdj at hs
  cases hi : Tryz.prog.info? 103 with
  | none => simp [hi] at hs
  | some i =>
   simp only [hi, Option.map_some, Option.some.injEq] at hs
   simp only [rd, qfk, hi]
   rw [if_pos (by rw [List.length_append]; omega), hs, List.take_append_of_le_length (by omega), List.take_of_length_le (by omega)]; rfl
 simp only [qop, ho, zpd, hx, hb, key]
end
end Go.Ab
set_option maxRecDepth 100000
set_option maxHeartbeats 4000000
namespace Go.Ab
open Go Go.RowKit Go.Fwd Go.Proofs
def zyc (fuel : Nat) (s : BS) : Option Ar :=
 (zdr (τ := Ar) (zbx (β := Int × Ar) (fun s1 => (bif (decide (s1.1 < 256)) then (zdr (τ := Ar) (chk (0 ≤ (IntKind.i64.wrap (Int.tdiv s1.1 64)) ∧ (IntKind.i64.wrap (Int.tdiv s1.1 64)) < 4) (zdr (τ := Int) (zbx (β := Int × Int) (fun s2 => (bif (decide (s2.2 < (Int.tmod s1.1 64))) then (chk (-9223372036854775808 ≤ (s2.2 + 1) ∧ (s2.2 + 1) < 9223372036854775808) (some (Sum.inl ((IntKind.u64.wrap (Int.tdiv s2.1 2)), (s2.2 + 1))))) else (some (Sum.inr (Sum.inl (s2.1)))))) fuel ((wd s (Int.toNat (IntKind.i64.wrap (Int.tdiv s1.1 64)))), 0)) (fun j3 => (chk (-9223372036854775808 ≤ (Int.tmod j3 2) ∧ (Int.tmod j3 2) < 9223372036854775808) (chk (0 ≤ s1.1 ∧ s1.1 < 256) (some (Sum.inl ((wrA s1.2 s1.1 (Int.tmod j3 2)))))))))) (fun j2 => (chk (-9223372036854775808 ≤ (s1.1 + 1) ∧ (s1.1 + 1) < 9223372036854775808) (some (Sum.inl ((s1.1 + 1), j2)))))) else (some (Sum.inr (Sum.inl (s1.2)))))) fuel (0, zeroA)) (fun j1 => (some j1)))
theorem ent113 : Ent Tryz.prog 113 := enters_of Tryz.func113 (by kernel_rfl) rfl
theorem qmg (fuel : Nat) (s : BS) (r : Ar) (h : zyc fuel s = some r) : Pure (ITP Tryz.prog) Tryz.prog 113 [.A (s : BS)] (.A (r : Ar)) := by
 unfold zyc at h
 refine zaw 28 mix Tryz.func113 ent113 ?_
 refine zf (zb ?_)
 refine zbp (a := .ptr 0 0) (σ'' := (.B [(25, (Enc.cells (s : BS)))])) ?_
 refine znj (a := .ptr 1 0) (σ'' := (.B [(25, (Enc.cells (s : BS))), (103, (Enc.cells (zeroA : Ar)))])) rfl rfl rfl (zzz (by decide) rfl) (by dsimp only [zab, List.set]) rfl ?_
 refine zf (zb ?_)
 refine znj (a := .ptr 2 0) (σ'' := (.B [(25, (Enc.cells (s : BS))), (103, (Enc.cells (zeroA : Ar))), (103, (Enc.cells (zeroA : Ar)))])) rfl rfl rfl (zzz (by decide) rfl) (by dsimp only [zab, List.set]) rfl ?_
 refine zar h (bz 0 29 536870899) (fun j1 => []) (fun j1 => (.B [(25, (Enc.cells (s : BS))), (103, (Enc.cells (zeroA : Ar))), (103, (Enc.cells (j1 : Ar)))])) ?_ ?_
 intro or1 h hr1
 refine zo [.v (.i 0)] ?_
 refine zn ?_
 refine zbr h (bz 0 29 536870897) (fun s1 => [(4, .i s1.1)]) (fun s1 => (.B [(25, (Enc.cells (s : BS))), (103, (Enc.cells (zeroA : Ar))), (103, (Enc.cells (s1.2 : Ar)))])) ?_ ?_
 exact zde (bl 29 30)
 intro s1 p1 h
 refine zff ?_
 refine zf ?_
 refine zo [.m _, .v (.b (decide (s1.1 < 256)))] ?_
 refine zbu h (fun hc1 h => ?_) (fun hc1 h => ?_)
 refine zar h (bz 0 28 268433888) (fun j2 => []) (fun j2 => (.B [(25, (Enc.cells (s : BS))), (103, (Enc.cells (zeroA : Ar))), (103, (Enc.cells (j2 : Ar)))])) ?_ ?_
 intro or2 h hr2
 refine zn ?_
 refine zo [.m _, .v (.i (IntKind.i64.wrap (Int.tdiv s1.1 64)))] ?_
 obtain ⟨g1, h⟩ := zh h
 refine w_o (a := .ptr 0 (0 + Int.toNat (IntKind.i64.wrap (Int.tdiv s1.1 64)) * 1)) (h := zbo (qgk g1 rfl rfl rfl rfl rfl)) ?_
 refine w_o (a := .raw (.int .u64 (wd s (Int.toNat (IntKind.i64.wrap (Int.tdiv s1.1 64)))))) (h := zbo (qgs s (by omega) rfl rfl rfl)) ?_
 refine zaj ?_
 refine zar h (bz 0 23 8387040) (fun j3 => [(5, .raw (.int .u64 j3))]) (fun j3 => (.B [(25, (Enc.cells (s : BS))), (103, (Enc.cells (zeroA : Ar))), (103, (Enc.cells (s1.2 : Ar)))])) ?_ ?_
 intro or3 h hr3
 refine zo [.v (.i 0)] ?_
 refine zn ?_
 refine zbr h (bz 0 23 8387040) (fun s2 => [(5, .raw (.int .u64 s2.1)), (6, .i s2.2)]) (fun s2 => (.B [(25, (Enc.cells (s : BS))), (103, (Enc.cells (zeroA : Ar))), (103, (Enc.cells (s1.2 : Ar)))])) ?_ ?_
 exact zde (bl 29 528483967)
 intro s2 p2 h
 refine zff ?_
 refine zf ?_
 refine zo [.m _, .m _, .v (.i (Int.tmod s1.1 64)), .v (.b (decide (s2.2 < (Int.tmod s1.1 64))))] ?_
 refine zbu h (fun hc2 h => ?_) (fun hc2 h => ?_)
 refine zf ?_
 refine zn ?_
 refine zb (k0 := 0) (id := 9) ?_
 refine w_r [.m _, .v (.raw (.int .u64 (IntKind.u64.wrap (Int.tdiv s2.1 2)))), .m _] ?_
 refine zb (k0 := 0) (id := 8) ?_
 refine zaj ?_
 obtain ⟨g2, h⟩ := zh h
 refine zov g2 ?_
 refine zaj ?_
 refine zaq (p := p2) ((IntKind.u64.wrap (Int.tdiv s2.1 2)), (s2.2 + 1)) h ?_
 exact zde (bl 29 528483967)
 refine zt h (fun h => ?_)
 refine zg (o := or3) (s2.1) h ?_
 exact zde (bl 29 528483903)
 intro j3 h
 refine zff ?_
 refine zb (k0 := 0) (id := 10) ?_
 refine w_r [.m _, .m _, .v (.raw (.int .u64 (Int.tmod j3 2)))] ?_
 obtain ⟨g3, h⟩ := zh h
 refine w_o (a := .i (Int.tmod j3 2)) (h := zbo (zom g3 rfl rfl rfl)) ?_
 obtain ⟨g4, h⟩ := zh h
 refine w_o (a := .ptr 2 (0 + Int.toNat s1.1 * 1)) (h := zbo (qgk g4 rfl rfl rfl rfl rfl)) ?_
 refine zbp (σ'' := (.B [(25, (Enc.cells (s : BS))), (103, (Enc.cells (zeroA : Ar))), (103, (Enc.cells ((wrA s1.2 s1.1 (Int.tmod j3 2)) : Ar)))])) (h := qel s1.2 g4 rfl rfl rfl rfl) ?_
 refine zg (o := or2) ((wrA s1.2 s1.1 (Int.tmod j3 2))) h ?_
 exact zde (bl 29 268437023)
 intro j2 h
 refine zff ?_
 refine zb (k0 := 0) (id := 4) ?_
 refine zaj ?_
 obtain ⟨g5, h⟩ := zh h
 refine zov g5 ?_
 refine zaj ?_
 refine zaq (p := p1) ((s1.1 + 1), j2) h ?_
 exact zde (bl 29 30)
 refine zt h (fun h => ?_)
 refine zg (o := or1) (s1.2) h ?_
 exact zde (bl 29 12)
 intro j1 h
 refine zff ?_
 refine zf (zb ?_)
 refine w_o (a := .A (j1 : Ar)) (h := zbo (qcq j1 (by decide) rfl rfl rfl)) ?_
 refine zbp (σ'' := (.B [(25, (Enc.cells (s : BS))), (103, (Enc.cells (j1 : Ar))), (103, (Enc.cells (j1 : Ar)))])) (h := zbv (n := 256) rfl rfl rfl rfl rfl (Enc.len _) rfl (Enc.len _) (by decide)) ?_
 exact zax (fun (r : Ar) => .A (r : Ar)) h (.A (j1 : Ar))
mutual
def fewT : Tr → Int → Int
 | .mk _ _ _ _ l, m => fewG l m 1
def fewG : List Tr → Int → Int → Int
 | [], _, s => s
 | x :: l, m, s => if s > m then s else fewG l m (s + fewT x (m - s))
end
end Go.Ab
