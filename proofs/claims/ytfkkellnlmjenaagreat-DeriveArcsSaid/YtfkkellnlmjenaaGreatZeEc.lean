/-
  derive: exported functions.
-/
import Derived.Test.YtfkkellnlmjenaaGreatZeEb
set_option linter.unusedSimpArgs false
set_option linter.unusedVariables false
namespace Go.Ab
open Go Go.RowKit Go.Fwd
section
variable {P : Program} {ρ : Operand → AV} {σ : St} {o : Oper}
theorem qnu {x : Operand} {t : TypeId} {l : List UInt8} (ho : o.op = .call ⟨.builtin .len, #[x], #[t]⟩) (hx : ρ x = .raw (.string (bs l))) (hu : P.underlying t = some .string) : qop P ρ σ o = some (.raw (.int .i64 (l.length : Int))) := by
 have h2 : qir P t (.raw (.string (bs l))) = none := rfl
 have h1 : o.op.operands.toList.all (fun x => (zfx (ρ x)).isSome) = true := by rw [ho]; simp [Op.operands, Call.operands, hx, zfx]
 have h3 : val? P (execOp (zdb ρ) o) = some (.value (.int .i64 (l.length : Int))) := by
  have hsz : (bs l).size = l.length := rfl
  simp [execOp, ho, resolve, invoke, zdb, hx, zfx, builtin, Builtin.len_, underlying, goInt, hsz]
  simp only [program, Bind.bind, Pure.pure, Functor.map, Sem.bind, val?, hu, hsz]
  rfl
 have h4 : zhq P ρ o = some (.raw (.int .i64 (l.length : Int))) := by
  unfold zhq; rw [if_pos h1, ho, h3]; rfl
 simp only [qop, ho, hx, h2, h4]
end
end Go.Ab
set_option maxRecDepth 100000
set_option maxHeartbeats 4000000
namespace Go.Ab
open Go Go.RowKit Go.Fwd Go.Proofs
def zmw (l : List Tr) (c : Nat) : List Tr := qdy (l.flatMap (byT c))
theorem z8x (l : List Tr) (c : Int) (h : 0 ≤ c ∧ ((Int.toNat c < 256 ∧ ∀ x ∈ l, BO x) ∧ (List.flatMap (byT (Int.toNat c)) l).length < 2 ^ 40 ∧ List.length l < 2 ^ 40)) : Pure (ITP Tryz.prog) Tryz.prog 54 [.list (List.length l) (Enc.cellsL l) .none, .raw (.int .u8 c)] (.list (zmw l (Int.toNat c)).length (Enc.cellsL (zmw l (Int.toNat c))) .none) := by
 have := qkn l (Int.toNat c) h.2
 rw [Int.toNat_of_nonneg h.1] at this; exact this
structure Arc where
 s : BS
 l : List Tr
def zlr (a : Arc) : List AV := [.raw (.int .u64 (wd a.s 0)), .raw (.int .u64 (wd a.s 1)), .raw (.int .u64 (wd a.s 2)), .raw (.int .u64 (wd a.s 3)), .list a.l.length (Enc.cellsL a.l) .none]
def z2r : List Arc → List AV
 | [] => []
 | a :: l => zlr a ++ z2r l
instance : Enc Arc := ⟨⟨0#256, []⟩, zlr, z2r, 5, by decide, rfl, fun _ _ => rfl, fun _ => rfl, fun a => by show cloL (zlr a) = true; simp [zlr, cloL, clo, Enc.cloL]⟩
def arcR (a : Arc) (st : Room) : AV := .agg [.raw (.int .u64 (wd a.s 0)), .raw (.int .u64 (wd a.s 1)), .raw (.int .u64 (wd a.s 2)), .raw (.int .u64 (wd a.s 3)), .list a.l.length (Enc.cellsL a.l) st]
theorem qak (a : Arc) (st : Room) : zcs (arcR a st) = .agg (Enc.cells a) := by
 show AV.agg (stripL _) = .agg (zlr a)
 simp only [stripL, zcs, zlr, zcv _ (Enc.cloL a.l)]
def nulQ (t : Tr) : Option Bool := if (pre t).length < 2 ^ 60 ∧ crT t = true then some (zes t) else none
theorem nulQ_ok {x : Tr} {y : Bool} (h : nulQ x = some y) : Pure (ITP Tryz.prog) Tryz.prog 60 [.agg (Enc.cells x)] (.raw (.bool y)) := by
 unfold nulQ at h
 split at h
 ·rename_i h1; cases h; exact qge x h1
 ·cases h
def zif (t : Tr) : Option Int :=
 (chk ((pre t).length < 2 ^ 61) (zbb (zbq t) (fun x1 => (bif (!x1) then (some 10001) else (chk ((pre t).length ≤ 10000) (zbb (zkg t) (fun x2 => (some x2))))))))
theorem ent27 : Ent Tryz.prog 27 := enters_of Tryz.func27 (by kernel_rfl) rfl
theorem z2f (t : Tr) (r : Int) (h : zif t = some r) : Pure (ITP Tryz.prog) Tryz.prog 27 [.A (t : Tr)] (.raw (.int .i64 r)) := by
 unfold zif at h
 refine zaw 7 mix Tryz.func27 ent27 ?_
 refine zf (zb ?_)
 refine zbp (a := .ptr 0 0) (σ'' := (.B [(29, (Enc.cells (t : Tr)))])) ?_
 refine w_o (a := .i 0) ?_
 refine zf ?_
 refine zo [.v (.A (t : Tr))] ?_
 obtain ⟨g1, h⟩ := zh h
 obtain ⟨x1, hx1, h⟩ := zl h
 refine zcf (args' := [.A (t : Tr)]) (r := .b x1) (by rw [← hx1]; exact (zkj t g1)) ?_
 refine w_o (a := .b (!x1)) ?_
 refine zbu h (fun hc1 h => ?_) (fun hc1 h => ?_)
 refine zo [.v (.i 10001)] ?_
 exact zdu h
 refine zo [.v (.A (t : Tr))] ?_
 obtain ⟨g2, h⟩ := zh h
 obtain ⟨x2, hx2, h⟩ := zl h
 refine zcf (args' := [.A (t : Tr)]) (r := .i x2) (by rw [← hx2]; exact (k_posn t g2)) ?_
 refine zaj ?_
 exact zdu h
def z0p (t : Tr) : Option Bool :=
 (chk ((pre t).length < 2 ^ 61) (zbb (isNone t) (fun x1 => (bif x1 then (some true) else (chk ((pre t).length < 2 ^ 61) (zbb (zcj t) (fun x2 => (bif x2 then (chk ((pre t).length < 2 ^ 61) (zbb (z7y t) (fun x3 => (bif (decide (x3 ≤ 120)) then (zay (zif t) (fun x4 => (some (decide (x4 ≤ 400))))) else (some false))))) else (some false)))))))))
theorem ent25 : Ent Tryz.prog 25 := enters_of Tryz.func25 (by kernel_rfl) rfl
theorem z3u (t : Tr) (r : Bool) (h : z0p t = some r) : Pure (ITP Tryz.prog) Tryz.prog 25 [.A (t : Tr)] (.raw (.bool r)) := by
 unfold z0p at h
 refine zaw 18 mix Tryz.func25 ent25 ?_
 refine zf (zb ?_)
 refine zbp (a := .ptr 0 0) (σ'' := (.B [(29, (Enc.cells (t : Tr)))])) ?_
 refine w_o (a := .b false) ?_
 refine zo [.v (.A (t : Tr))] ?_
 obtain ⟨g1, h⟩ := zh h
 obtain ⟨x1, hx1, h⟩ := zl h
 refine zcf (args' := [.A (t : Tr)]) (r := .b x1) (by rw [← hx1]; exact (qnf t g1)) ?_
 refine zac h (fun hc1 h => ?_) (fun hc1 h => ?_)
 refine zaz hc1 ?_
 refine w_r [.p, .p, .p, .p, .p] ?_
 refine w_r [.p, .p, .p, .p, .p] ?_
 refine w_r [.p, .p, .v (.b true), .m _] ?_
 exact zba h
 refine zaz hc1 ?_
 refine zak rfl rfl ?_
 refine w_o (a := .A (t : Tr)) ?_
 refine zak rfl rfl ?_
 obtain ⟨g2, h⟩ := zh h
 obtain ⟨x2, hx2, h⟩ := zl h
 refine zcf (args' := [.A (t : Tr)]) (r := .b x2) (by rw [← hx2]; exact (zxf t g2)) ?_
 refine zak rfl rfl ?_
 refine zac h (fun hc2 h => ?_) (fun hc2 h => ?_)
 refine zaz hc2 ?_
 refine zak rfl rfl ?_
 refine w_o (a := .A (t : Tr)) ?_
 refine zak rfl rfl ?_
 obtain ⟨g3, h⟩ := zh h
 obtain ⟨x3, hx3, h⟩ := zl h
 refine zcf (args' := [.A (t : Tr)]) (r := .i x3) (by rw [← hx3]; exact (k_size t g3)) ?_
 refine w_r [.v (.b (decide (x3 ≤ 120))), .v (.b (decide (x3 ≤ 120)))] ?_
 refine zak rfl rfl ?_
 refine zac h (fun hc3 h => ?_) (fun hc3 h => ?_)
 refine zaz hc3 ?_
 refine zak rfl rfl ?_
 refine w_o (a := .A (t : Tr)) ?_
 refine zak rfl rfl ?_
 obtain ⟨x4, hx4, h⟩ := zv h
 refine zcf (z2f t x4 hx4) ?_
 refine w_r [.v (.b (decide (x4 ≤ 400))), .v (.b (decide (x4 ≤ 400))), .v (.b (decide (x4 ≤ 400))), .m _] ?_
 exact zba h
 refine zaz hc3 ?_
 refine w_r [.p, .p, .p, .v (.b false), .v (.b false)] ?_
 refine w_r [.m _] ?_
 exact zba h
 refine zaz hc2 ?_
 refine w_r [.p, .p, .p, .v (.b false), .m _] ?_
 refine w_r [.p, .p, .p, .v (.b false), .v (.b false)] ?_
 refine w_r [.m _] ?_
 exact zba h
def zym (t : Tr) : Option (Tr × Int) :=
 (zay (z0p t) (fun x1 => (bif (!x1) then (some (noneT, 120)) else (chk (CS 998 t) (zbb (plT t) (fun x2 => (some (x2, 0))))))))
theorem ent17 : Ent Tryz.prog 17 := enters_of Tryz.func17 (by kernel_rfl) rfl
theorem qie (t : Tr) (r : (Tr × Int)) (h : zym t = some r) : Pure (ITP Tryz.prog) Tryz.prog 17 [.A (t : Tr)] (.tup [.A (r.1 : Tr), .raw (.int .i64 r.2)]) := by
 unfold zym at h
 refine zaw 9 mix Tryz.func17 ent17 ?_
 refine zf (zb ?_)
 refine zbp (a := .ptr 0 0) (σ'' := (.B [(29, (Enc.cells (t : Tr)))])) ?_
 refine zbp (a := .ptr 1 0) (σ'' := (.B [(29, (Enc.cells (t : Tr))), (29, [.u 0, .raw (.int .u64 0), .raw (.int .u64 0), .raw (.int .u64 0), .raw (.int .u64 0), .i 0, .i 0, .list 0 [] .full])])) ?_
 refine w_o (a := .i 0) ?_
 refine zf ?_
 refine zo [.v (.A (t : Tr))] ?_
 obtain ⟨x1, hx1, h⟩ := zv h
 refine zcf (z3u t x1 hx1) ?_
 refine w_o (a := .b (!x1)) ?_
 refine zbu h (fun hc1 h => ?_) (fun hc1 h => ?_)
 refine zf (zb ?_)
 refine zel (.A (noneT : Tr)) (a0 := (zca noneT .full)) rfl rfl rfl (by kernel_rfl) (zj _ _) (by dsimp only [zab, List.set]) ?_
 refine zcp 8 (.B [(29, (Enc.cells (t : Tr))), (29, (Enc.cells (noneT : Tr)))]) ?_
 refine w_o (a := .i 120) ?_
 exact zax (fun (r : (Tr × Int)) => .tup [.A (r.1 : Tr), .i r.2]) h (.tup [.A (noneT : Tr), .i 120])
 refine zo [.v (.A (t : Tr))] ?_
 obtain ⟨g1, h⟩ := zh h
 obtain ⟨x2, hx2, h⟩ := zl h
 refine zcf (args' := [.A (t : Tr)]) (r := .A (x2 : Tr)) (by rw [← hx2]; exact (zsu t g1)) ?_
 refine zcp 8 (.B [(29, (Enc.cells (t : Tr))), (29, (Enc.cells (x2 : Tr)))]) ?_
 refine w_o (a := .i 0) ?_
 exact zax (fun (r : (Tr × Int)) => .tup [.A (r.1 : Tr), .i r.2]) h (.tup [.A (x2 : Tr), .i 0])
def zra (t : Tr) (c : Int) : Option ((List Tr) × Int) :=
 (zay (z0p t) (fun x1 => (bif (!x1) then (some (([] : (List Tr)), 120)) else (chk (CS 998 t) (zbb (plT t) (fun x2 => (chk (0 ≤ c ∧ ((Int.toNat c < 256 ∧ ∀ x ∈ [x2], BO x) ∧ (List.flatMap (byT (Int.toNat c)) [x2]).length < 2 ^ 40 ∧ List.length [x2] < 2 ^ 40)) (zbb (zmw [x2] (Int.toNat c)) (fun x3 => (some (x3, 0)))))))))))
theorem ent14 : Ent Tryz.prog 14 := enters_of Tryz.func14 (by kernel_rfl) rfl
theorem zuk (t : Tr) (c : Int) (r : ((List Tr) × Int)) (h : zra t c = some r) : Pure (ITP Tryz.prog) Tryz.prog 14 [.A (t : Tr), .raw (.int .u8 c)] (.tup [.L (r.1 : List Tr), .raw (.int .i64 r.2)]) := by
 unfold zra at h
 refine zaw 12 mix Tryz.func14 ent14 ?_
 refine zf (zb ?_)
 refine zbp (a := .ptr 0 0) (σ'' := (.B [(29, (Enc.cells (t : Tr)))])) ?_
 refine w_r [.v (.list 0 [] .full), .v (.i 0)] ?_
 refine zf ?_
 refine zo [.v (.A (t : Tr))] ?_
 obtain ⟨x1, hx1, h⟩ := zv h
 refine zcf (z3u t x1 hx1) ?_
 refine w_o (a := .b (!x1)) ?_
 refine zbu h (fun hc1 h => ?_) (fun hc1 h => ?_)
 refine zo [.v (.list 0 [] .full), .v (.i 120)] ?_
 exact zax (fun (r : ((List Tr) × Int)) => .tup [.L (r.1 : List Tr), .i r.2]) h (.tup [.list 0 [] .full, .i 120])
 refine zo [.v (.A (t : Tr))] ?_
 obtain ⟨g1, h⟩ := zh h
 obtain ⟨x2, hx2, h⟩ := zl h
 refine zcf (args' := [.A (t : Tr)]) (r := .A (x2 : Tr)) (by rw [← hx2]; exact (zsu t g1)) ?_
 refine w_o (a := .F ([x2] : List Tr)) (h := zbo (zgt (α := Tr) (l := [x2]) (cs := Enc.cells (x2 : Tr) ++ []) rfl (by rw [Enc.cons, Enc.nil]))) ?_
 refine zaj ?_
 obtain ⟨g2, h⟩ := zh h
 obtain ⟨x3, hx3, h⟩ := zl h
 refine zcf (args' := [.L ([x2] : List Tr), .u c]) (r := .L (x3 : List Tr)) (by rw [← hx3]; exact (z8x [x2] c g2)) ?_
 refine w_r [.m _, .v (.i 0)] ?_
 exact zax (fun (r : ((List Tr) × Int)) => .tup [.L (r.1 : List Tr), .i r.2]) h (.tup [.L (x3 : List Tr), .i 0])
def zmq (fuel : Nat) (t : Tr) : Option ((List Arc) × Int) :=
 (zay (z0p t) (fun x1 => (bif (!x1) then (some (([] : (List Arc)), 120)) else (chk (CS 998 t) (zbb (plT t) (fun x2 => (zdr (τ := (List Arc)) (chk (List.length [x2] < 2 ^ 20 ∧ ∀ x ∈ [x2], (pre x).length < 2 ^ 61) (zbb (zcg [x2]) (fun x3 => (zbx (β := (List Arc) × Int) (fun s1 => (bif (decide (s1.2 < (List.length x3 : Int))) then (zdr (τ := (List Arc)) (chk (0 ≤ s1.2 ∧ s1.2 < (List.length x3 : Int)) (zbb (ix x3 s1.2) (fun x4 => (zay (zkk x4) (fun x5 => (chk (0 ≤ x5.1 ∧ ((Int.toNat x5.1 < 256 ∧ ∀ x ∈ [x2], BO x) ∧ (List.flatMap (byT (Int.toNat x5.1)) [x2]).length < 2 ^ 40 ∧ List.length [x2] < 2 ^ 40)) (zbb (zmw [x2] (Int.toNat x5.1)) (fun x6 => (bif (decide ((List.length x6 : Int) > 0)) then (chk ((List.length s1.1 + List.length [(Arc.mk x4 x6)]) * 56 ≤ 140737488355328) (some (Sum.inl ((s1.1 ++ [(Arc.mk x4 x6)]))))) else (some (Sum.inl (s1.1)))))))))))) (fun j2 => (chk (-9223372036854775808 ≤ (s1.2 + 1) ∧ (s1.2 + 1) < 9223372036854775808) (some (Sum.inl (j2, (s1.2 + 1))))))) else (some (Sum.inr (Sum.inl (s1.1)))))) fuel (([] : (List Arc)), 0))))) (fun j1 => (some (j1, 0))))))))))
theorem ent10 : Ent Tryz.prog 10 := enters_of Tryz.func10 (by kernel_rfl) rfl
theorem z9f (fuel : Nat) (t : Tr) (r : ((List Arc) × Int)) (h : zmq fuel t = some r) : Pure (ITP Tryz.prog) Tryz.prog 10 [.A (t : Tr)] (.tup [.L (r.1 : List Arc), .raw (.int .i64 r.2)]) := by
 unfold zmq at h
 refine zaw 43 mix Tryz.func10 ent10 ?_
 refine zf (zb ?_)
 refine zbp (a := .ptr 0 0) (σ'' := (.B [(29, (Enc.cells (t : Tr)))])) ?_
 refine w_r [.v (.list 0 [] .full), .v (.i 0)] ?_
 refine zf ?_
 refine zo [.v (.A (t : Tr))] ?_
 obtain ⟨x1, hx1, h⟩ := zv h
 refine zcf (z3u t x1 hx1) ?_
 refine w_o (a := .b (!x1)) ?_
 refine zbu h (fun hc1 h => ?_) (fun hc1 h => ?_)
 refine zo [.v (.list 0 [] .full), .v (.i 120)] ?_
 exact zax (fun (r : ((List Arc) × Int)) => .tup [.L (r.1 : List Arc), .i r.2]) h (.tup [.list 0 [] .full, .i 120])
 refine zo [.v (.list 0 [] .full)] ?_
 refine zo [.v (.A (t : Tr))] ?_
 obtain ⟨g1, h⟩ := zh h
 obtain ⟨x2, hx2, h⟩ := zl h
 refine zcf (args' := [.A (t : Tr)]) (r := .A (x2 : Tr)) (by rw [← hx2]; exact (zsu t g1)) ?_
 refine zbp (a := .ptr 1 0) (σ'' := (.B [(29, (Enc.cells (t : Tr))), (29, [.u 0, .raw (.int .u64 0), .raw (.int .u64 0), .raw (.int .u64 0), .raw (.int .u64 0), .i 0, .i 0, .list 0 [] .full])])) ?_
 refine zcp 8 (.B [(29, (Enc.cells (t : Tr))), (29, (Enc.cells (x2 : Tr)))]) ?_
 refine zar h (bz 0 44 17592186044415) (fun j1 => [(4, (.O (j1 : List Arc)))]) (fun j1 => (zcr [(29, (Enc.cells (t : Tr))), (29, (Enc.cells (x2 : Tr)))] 36 (List.length (j1 : List Arc)) 5)) ?_ ?_
 intro or1 h hr1
 refine zo [.v (.A (x2 : Tr))] ?_
 refine w_o (a := .F ([x2] : List Tr)) (h := zbo (zgt (α := Tr) (l := [x2]) (cs := Enc.cells (x2 : Tr) ++ []) rfl (by rw [Enc.cons, Enc.nil]))) ?_
 obtain ⟨g2, h⟩ := zh h
 obtain ⟨x3, hx3, h⟩ := zl h
 refine zcf (args' := [.L ([x2] : List Tr)]) (r := .L (x3 : List BS)) (by rw [← hx3]; exact (z1l [x2] g2)) ?_
 refine w_r [.v (.i (List.length x3 : Int)), .v (.i 0)] ?_
 refine zn ?_
 refine zbr h (bz 0 44 17592185257951) (fun s1 => [(4, (.O (s1.1 : List Arc))), (20, .i s1.2)]) (fun s1 => (zcr [(29, (Enc.cells (t : Tr))), (29, (Enc.cells (x2 : Tr)))] 36 (List.length (s1.1 : List Arc)) 5)) ?_ ?_
 exact zde (bl 44 1835056)
 intro s1 p1 h
 refine zff ?_
 refine zo [.v (.b (decide (s1.2 < (List.length x3 : Int))))] ?_
 refine zf ?_
 refine zbu h (fun hc2 h => ?_) (fun hc2 h => ?_)
 refine zar h (bz 0 42 4398044415888) (fun j2 => [(4, (.O (j2 : List Arc)))]) (fun j2 => (zcr [(29, (Enc.cells (t : Tr))), (29, (Enc.cells (x2 : Tr)))] 36 (List.length (j2 : List Arc)) 5)) ?_ ?_
 intro or2 h hr2
 refine zn ?_
 refine zf (zb ?_)
 obtain ⟨g3, h⟩ := zh h
 obtain ⟨x4, hx4, h⟩ := zl h
 refine zsm hx4 g3 ?_
 refine w_o (a := .A (x4 : BS)) ?_
 refine zbp (a := .ptr 2 0) (σ'' := (zcr [(29, (Enc.cells (t : Tr))), (29, (Enc.cells (x2 : Tr))), (26, (Enc.cells (0#256 : BS)))] 36 (List.length (s1.1 : List Arc)) 5)) ?_
 refine zcp 4 (zcr [(29, (Enc.cells (t : Tr))), (29, (Enc.cells (x2 : Tr))), (26, (Enc.cells (x4 : BS)))] 36 (List.length (s1.1 : List Arc)) 5) ?_
 refine zo [.v (.A (x4 : BS))] ?_
 obtain ⟨x5, hx5, h⟩ := zv h
 refine zcf (zri x4 x5 hx5) ?_
 refine w_r [.m _, .x _, .x _, .m _, .m _] ?_
 refine zo [.v (.A (x2 : Tr))] ?_
 refine w_o (a := .F ([x2] : List Tr)) (h := zbo (zgt (α := Tr) (l := [x2]) (cs := Enc.cells (x2 : Tr) ++ []) rfl (by rw [Enc.cons, Enc.nil]))) ?_
 refine zaj ?_
 obtain ⟨g4, h⟩ := zh h
 obtain ⟨x6, hx6, h⟩ := zl h
 refine zcf (args' := [.L ([x2] : List Tr), .u x5.1]) (r := .L (x6 : List Tr)) (by rw [← hx6]; exact (z8x [x2] x5.1 g4)) ?_
 refine zaj ?_
 refine zo [.m _, .v (.i (List.length x6 : Int)), .v (.b (decide ((List.length x6 : Int) > 0)))] ?_
 refine zbu h (fun hc3 h => ?_) (fun hc3 h => ?_)
 refine zb (k0 := 0) (id := 11) ?_
 refine w_r [.m _, .v (.A (x4 : BS)), .m _] ?_
 refine zel (.A ((Arc.mk x4 x6) : Arc)) (a0 := (arcR (Arc.mk x4 x6) .none)) rfl rfl rfl (by kernel_rfl) (qak _ _) (by dsimp only [zab, List.set]) ?_
 refine w_o (a := .F ([(Arc.mk x4 x6)] : List Arc)) (h := zbo (zgt (α := Arc) (l := [(Arc.mk x4 x6)]) (cs := Enc.cells ((Arc.mk x4 x6) : Arc) ++ []) rfl (by rw [Enc.cons, Enc.nil]))) ?_
 obtain ⟨g5, h⟩ := zh h
 refine znj (a := (.O ((s1.1 ++ [(Arc.mk x4 x6)]) : List Arc))) (σ'' := (zcr [(29, (Enc.cells (t : Tr))), (29, (Enc.cells (x2 : Tr))), (26, (Enc.cells (x4 : BS)))] 36 (List.length ((s1.1 ++ [(Arc.mk x4 x6)]) : List Arc)) 5)) rfl rfl rfl (zga rfl rfl rfl rfl (zei (α := Arc) (bs := [(29, (Enc.cells (t : Tr))), (29, (Enc.cells (x2 : Tr))), (26, (Enc.cells (x4 : BS)))]) (a := s1.1) (b := [(Arc.mk x4 x6)]) g5 rfl rfl rfl rfl rfl ⟨rfl, by decide⟩)) (by dsimp only [zab, List.set]) rfl ?_
 refine zaj ?_
 refine zg (o := or2) ((s1.1 ++ [(Arc.mk x4 x6)])) h ?_
 exact zcy (bl 44 13194141628543) 2 (by kernel_rfl) (Nat.le_of_ble_eq_true rfl) (zbf (zq (zk _ _ (Enc.clo _)) (zq (zk _ _ (Enc.clo _)) rfl))) (by dsimp only [zaa, zag, List.foldl, List.set, bz, bzc, Nat.reduceMod, Nat.reduceDiv, Nat.reduceBEq, Nat.reduceAdd]; exact (za rfl (za rfl (za rfl (za rfl (za (zbz (Enc.cloL _)) (za (by decide) (za rfl (za rfl (za rfl (za rfl (za rfl (za rfl (za rfl (za rfl (za rfl (za rfl (za rfl (za rfl (za (zai (Enc.cloL _)) (by kernel_rfl))))))))))))))))))))) (by kernel_rfl)
 refine zg (o := or2) (s1.1) h ?_
 exact zcy (bl 44 13194141628543) 2 (by kernel_rfl) (Nat.le_of_ble_eq_true rfl) (zbf (zq (zk _ _ (Enc.clo _)) (zq (zk _ _ (Enc.clo _)) rfl))) (by dsimp only [zaa, zag, List.foldl, List.set, bz, bzc, Nat.reduceMod, Nat.reduceDiv, Nat.reduceBEq, Nat.reduceAdd]; exact (za rfl (za rfl (za rfl (za rfl (za (zbz (Enc.cloL _)) (za (by decide) (za rfl (za rfl (za rfl (za rfl (za rfl (za rfl (za rfl (za rfl (za rfl (za rfl (za rfl (za rfl (za (zai (Enc.cloL _)) (by kernel_rfl))))))))))))))))))))) (by kernel_rfl)
 intro j2 h
 refine zff ?_
 refine zb (k0 := 0) (id := 12) ?_
 obtain ⟨g6, h⟩ := zh h
 refine zov g6 ?_
 refine zaj ?_
 refine zaq (p := p1) (j2, (s1.2 + 1)) h ?_
 exact zde (bl 44 1835056)
 refine zt h (fun h => ?_)
 refine zg (o := or1) (s1.1) h ?_
 exact zde (bl 44 16)
 intro j1 h
 refine zff ?_
 refine zo [.m _, .m _, .v (.i 0)] ?_
 exact zax (fun (r : ((List Arc) × Int)) => .tup [.L (r.1 : List Arc), .i r.2]) h (.tup [(.O (j1 : List Arc)), .i 0])
def z6p (fuel : Nat) (t : Tr) (s : (List UInt8)) : Option ((List Tr) × Int) :=
 (zay (z0p t) (fun x1 => (bif (!x1) then (some (([] : (List Tr)), 120)) else (bif (decide ((List.length s : Int) > 4096)) then (some (([] : (List Tr)), 3)) else (chk (CS 998 t) (zbb (plT t) (fun x2 => (chk ((pre x2).length < 2 ^ 61) (zbb (z8l x2) (fun x3 => (zdr (τ := (List Tr)) (zbx (β := (List Tr) × Int) (fun s1 => (bif (decide (s1.2 < (List.length s : Int))) then (chk (0 ≤ s1.2 ∧ s1.2 < (List.length s : Int)) (zbb (ix s s1.2) (fun x4 => (chk (0 ≤ (((x4).toNat : Nat) : Int) ∧ ((Int.toNat (((x4).toNat : Nat) : Int) < 256 ∧ ∀ x ∈ s1.1, BO x) ∧ (List.flatMap (byT (Int.toNat (((x4).toNat : Nat) : Int))) s1.1).length < 2 ^ 40 ∧ List.length s1.1 < 2 ^ 40)) (zbb (zmw s1.1 (Int.toNat (((x4).toNat : Nat) : Int))) (fun x5 => (chk (-9223372036854775808 ≤ (s1.2 + 1) ∧ (s1.2 + 1) < 9223372036854775808) (some (Sum.inl (x5, (s1.2 + 1))))))))))) else (some (Sum.inr (Sum.inl (s1.1)))))) fuel (x3, 0)) (fun j1 => (some (j1, 0))))))))))))))
theorem ent19 : Ent Tryz.prog 19 := enters_of Tryz.func19 (by kernel_rfl) rfl
theorem qld (fuel : Nat) (t : Tr) (s : (List UInt8)) (r : ((List Tr) × Int)) (h : z6p fuel t s = some r) : Pure (ITP Tryz.prog) Tryz.prog 19 [.A (t : Tr), .raw (.string (bs s))] (.tup [.L (r.1 : List Tr), .raw (.int .i64 r.2)]) := by
 unfold z6p at h
 refine zaw 29 mix Tryz.func19 ent19 ?_
 refine zf (zb ?_)
 refine zbp (a := .ptr 0 0) (σ'' := (.B [(29, (Enc.cells (t : Tr)))])) ?_
 refine w_r [.v (.list 0 [] .full), .v (.i 0)] ?_
 refine zf ?_
 refine zn ?_
 refine zo [.v (.A (t : Tr))] ?_
 obtain ⟨x1, hx1, h⟩ := zv h
 refine zcf (z3u t x1 hx1) ?_
 refine w_r [.v (.b (!x1)), .m _] ?_
 refine zbu h (fun hc1 h => ?_) (fun hc1 h => ?_)
 refine zo [.v (.list 0 [] .full), .v (.i 120)] ?_
 exact zax (fun (r : ((List Tr) × Int)) => .tup [.L (r.1 : List Tr), .i r.2]) h (.tup [.list 0 [] .full, .i 120])
 refine zo [.m _] ?_
 refine w_o (a := .i (List.length s : Int)) (h := zbo (qnu rfl rfl rfl)) ?_
 refine w_r [.v (.b (decide ((List.length s : Int) > 4096))), .m _] ?_
 refine zbu h (fun hc2 h => ?_) (fun hc2 h => ?_)
 refine zo [.v (.list 0 [] .full), .v (.i 3)] ?_
 exact zax (fun (r : ((List Tr) × Int)) => .tup [.L (r.1 : List Tr), .i r.2]) h (.tup [.list 0 [] .full, .i 3])
 refine zo [.v (.A (t : Tr))] ?_
 obtain ⟨g1, h⟩ := zh h
 obtain ⟨x2, hx2, h⟩ := zl h
 refine zcf (args' := [.A (t : Tr)]) (r := .A (x2 : Tr)) (by rw [← hx2]; exact (zsu t g1)) ?_
 obtain ⟨g2, h⟩ := zh h
 obtain ⟨x3, hx3, h⟩ := zl h
 refine zcf (args' := [.A (x2 : Tr)]) (r := .L (x3 : List Tr)) (by rw [← hx3]; exact (k_first x2 g2)) ?_
 refine zaj ?_
 refine zar h (bz 0 31 2147483647) (fun j1 => [(6, .L (j1 : List Tr))]) (fun j1 => (.B [(29, (Enc.cells (t : Tr)))])) ?_ ?_
 intro or1 h hr1
 refine zo [.m _] ?_
 refine w_o (a := .i (List.length s : Int)) (h := zbo (qnu rfl rfl rfl)) ?_
 refine w_o (a := .i 0) ?_
 refine zn ?_
 refine zbr h (bz 0 31 2146435069) (fun s1 => [(6, .L (s1.1 : List Tr)), (21, .i s1.2)]) (fun s1 => (.B [(29, (Enc.cells (t : Tr)))])) ?_ ?_
 exact zde (bl 31 3145794)
 intro s1 p1 h
 refine zff ?_
 refine zo [.v (.b (decide (s1.2 < (List.length s : Int))))] ?_
 refine zf ?_
 refine zbu h (fun hc3 h => ?_) (fun hc3 h => ?_)
 refine zf ?_
 refine zn ?_
 refine zo [.m _, .m _] ?_
 refine zb (k0 := 0) (id := 9) ?_
 refine w_r [.m _, .m _, .m _] ?_
 obtain ⟨g3, h⟩ := zh h
 obtain ⟨x4, hx4, h⟩ := zl h
 refine w_o (a := .u (((x4).toNat : Nat) : Int)) (h := zbo (by rw [← hx4]; exact (q_sidx (l := s) (n := s1.2) g3 rfl rfl rfl rfl))) ?_
 obtain ⟨g4, h⟩ := zh h
 obtain ⟨x5, hx5, h⟩ := zl h
 refine zcf (args' := [.L (s1.1 : List Tr), .u (((x4).toNat : Nat) : Int)]) (r := .L (x5 : List Tr)) (by rw [← hx5]; exact (z8x s1.1 (((x4).toNat : Nat) : Int) g4)) ?_
 refine zaj ?_
 refine zb (k0 := 0) (id := 10) ?_
 obtain ⟨g5, h⟩ := zh h
 refine zov g5 ?_
 refine zaj ?_
 refine zaq (p := p1) (x5, (s1.2 + 1)) h ?_
 exact zde (bl 31 3145794)
 refine zt h (fun h => ?_)
 refine zg (o := or1) (s1.1) h ?_
 exact zde (bl 31 64)
 intro j1 h
 refine zff ?_
 refine zo [.m _, .m _, .v (.i 0)] ?_
 exact zax (fun (r : ((List Tr) × Int)) => .tup [.L (r.1 : List Tr), .i r.2]) h (.tup [.L (j1 : List Tr), .i 0])
def zlq (fuel : Nat) (t : Tr) (s : (List UInt8)) : Option (Bool × Int) :=
 (zay (z6p fuel t s) (fun x1 => (bif (x1.2 == 0) then (zay (z6g fuel nulQ x1.1) (fun x2 => (some (x2, x1.2)))) else (some (false, x1.2)))))
theorem ent38 : Ent Tryz.prog 38 := enters_of Tryz.func38 (by kernel_rfl) rfl
theorem zuh (fuel : Nat) (t : Tr) (s : (List UInt8)) (r : (Bool × Int)) (h : zlq fuel t s = some r) : Pure (ITP Tryz.prog) Tryz.prog 38 [.A (t : Tr), .raw (.string (bs s))] (.tup [.raw (.bool r.1), .raw (.int .i64 r.2)]) := by
 unfold zlq at h
 refine zaw 19 mix Tryz.func38 ent38 ?_
 refine zf (zb ?_)
 refine zbp (a := .ptr 0 0) (σ'' := (.B [(29, (Enc.cells (t : Tr)))])) ?_
 refine w_r [.v (.b false), .v (.i 0)] ?_
 refine zo [.v (.A (t : Tr)), .m _] ?_
 obtain ⟨x1, hx1, h⟩ := zv h
 refine zcf (qld fuel t s x1 hx1) ?_
 refine w_r [.m _, .x _, .x _, .m _, .m _] ?_
 refine zo [.m _, .v (.b (x1.2 == 0))] ?_
 refine zac h (fun hc1 h => ?_) (fun hc1 h => ?_)
 refine zaz hc1 ?_
 refine zak rfl rfl ?_
 refine zaj ?_
 refine zak rfl rfl ?_
 obtain ⟨x2, hx2, h⟩ := zv h
 refine zdd (args' := [.L (x1.1 : List Tr), .clos 60 []]) (r := .b x2) (qgj fuel nulQ x1.1 x2 60 (fun x y h => nulQ_ok h) hx2) rfl rfl (ze (zfq (Enc.cloL _)) (ze (show AV.clos _ (stripL _) = _ from congrArg (AV.clos _) rfl) rfl)) (za (zai (Enc.cloL _)) (za (show zw _ _ = true from rfl) rfl)) (by dsimp only [zab, List.set]) ?_
 refine w_r [.v (.b x2), .m _, .m _, .m _] ?_
 exact zax (fun (r : (Bool × Int)) => .tup [.b r.1, .i r.2]) h (.tup [.b x2, .i x1.2])
 refine zaz hc1 ?_
 refine w_r [.p, .p, .v (.b false), .m _, .m _] ?_
 refine w_r [.m _] ?_
 exact zax (fun (r : (Bool × Int)) => .tup [.b r.1, .i r.2]) h (.tup [.b false, .i x1.2])
end Go.Ab
