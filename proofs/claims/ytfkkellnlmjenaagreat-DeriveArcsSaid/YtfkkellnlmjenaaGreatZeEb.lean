/-
  derive: contracts of Size, Positions, Groups, Sets, none, first, classes.
-/
import Derived.Test.YtfkkellnlmjenaaGreatZePt
set_option linter.unusedSimpArgs false
set_option linter.unusedVariables false
set_option maxRecDepth 100000
set_option maxHeartbeats 4000000
namespace Go.Ab
open Go Go.RowKit Go.Fwd Go.Proofs
def z7d (fuel : Nat) (n : Nat) (t : Tr) : Option Int :=
 (zdr (τ := Int) (bif (((t.k : Nat) : Int) == 2) then (some (Sum.inl (1))) else (some (Sum.inl (0)))) (fun j1 => (zdr (τ := Int) (zbx (β := Int × Int) (fun s1 => (bif (decide (s1.2 < (List.length t.l : Int))) then (chk (0 ≤ s1.2 ∧ s1.2 < (List.length t.l : Int)) (zbb (ix t.l s1.2) (fun x1 => (chk (((pre x1).length < n)) (zbb (zkg x1) (fun x2 => (chk (-9223372036854775808 ≤ (s1.1 + x2) ∧ (s1.1 + x2) < 9223372036854775808) (chk (-9223372036854775808 ≤ (s1.2 + 1) ∧ (s1.2 + 1) < 9223372036854775808) (some (Sum.inl ((s1.1 + x2), (s1.2 + 1)))))))))))) else (some (Sum.inr (Sum.inl (s1.1)))))) fuel (j1, 0)) (fun j2 => (zdr (τ := Int) (bif (((t.k : Nat) : Int) == 5) then (zdr (τ := Int) (bif (t.mx == (-1)) then (some (Sum.inl ((max (max t.mn 0) 1)))) else (some (Sum.inl ((max (max t.mn 0) t.mx))))) (fun j4 => (chk (-9223372036854775808 ≤ (j2 * (min j4 10001)) ∧ (j2 * (min j4 10001)) < 9223372036854775808) (some (Sum.inl ((j2 * (min j4 10001)))))))) else (some (Sum.inl (j2)))) (fun j3 => (some (min j3 10001))))))))
theorem ent69 : Ent Tryz.prog 69 := enters_of Tryz.func69 (by kernel_rfl) rfl
theorem posn_sh (fuel : Nat) (n : Nat) (t : Tr) (r : Int) (ih : ∀ x : Tr, ((pre x).length < n) → Pure (ITP Tryz.prog) Tryz.prog 69 [.A x] (.raw (.int .i64 (zkg x)))) (h : z7d fuel n t = some r) : Pure (ITP Tryz.prog) Tryz.prog 69 [.A (t : Tr)] (.raw (.int .i64 r)) := by
 unfold z7d at h
 refine zaw 43 mix Tryz.func69 ent69 ?_
 refine zf (zb ?_)
 refine zbp (a := .ptr 0 0) (σ'' := (.B [(29, (Enc.cells (t : Tr)))])) ?_
 refine w_o (a := .i 0) ?_
 refine zo [.v (.i 0)] ?_
 refine zar h (bz 0 44 17592186044413) (fun j1 => [(3, .i j1)]) (fun j1 => (.B [(29, (Enc.cells (t : Tr)))])) ?_ ?_
 intro or1 h hr1
 refine zo [.v (.ptr 0 0), .v (.u ((t.k : Nat) : Int)), .v (.b (((t.k : Nat) : Int) == 2))] ?_
 refine zbu h (fun hc1 h => ?_) (fun hc1 h => ?_)
 refine zb (k0 := 0) (id := 3) ?_
 refine w_o (a := .i 1) ?_
 refine zg (o := or1) (1) h ?_
 exact zde (bl 44 10)
 refine zg (o := or1) (0) h ?_
 exact zde (bl 44 10)
 intro j1 h
 refine zff ?_
 refine zar h (bz 0 23 8386600) (fun j2 => [(3, .i j2)]) (fun j2 => (.B [(29, (Enc.cells (t : Tr)))])) ?_ ?_
 intro or2 h hr2
 refine zo [.v (.ptr 0 7), .v (.L (t.l : List Tr)), .v (.i (List.length t.l : Int)), .v (.i 0)] ?_
 refine zn ?_
 refine zbr h (bz 0 23 8374312) (fun s1 => [(3, .i s1.1), (14, .i s1.2)]) (fun s1 => (.B [(29, (Enc.cells (t : Tr)))])) ?_ ?_
 exact zde (bl 44 17592177686495)
 intro s1 p1 h
 refine zff ?_
 refine zo [.v (.b (decide (s1.2 < (List.length t.l : Int))))] ?_
 refine zf ?_
 refine zbu h (fun hc2 h => ?_) (fun hc2 h => ?_)
 refine zf ?_
 refine zn ?_
 refine zf (zb ?_)
 obtain ⟨g1, h⟩ := zh h
 obtain ⟨x1, hx1, h⟩ := zl h
 refine zsm hx1 g1 ?_
 refine w_o (a := .A (x1 : Tr)) ?_
 refine zbp (a := .ptr 1 0) (σ'' := (.B [(29, (Enc.cells (t : Tr))), (29, [.u 0, .raw (.int .u64 0), .raw (.int .u64 0), .raw (.int .u64 0), .raw (.int .u64 0), .i 0, .i 0, .list 0 [] .full])])) ?_
 refine zcp 8 (.B [(29, (Enc.cells (t : Tr))), (29, (Enc.cells (x1 : Tr)))]) ?_
 refine zb (k0 := 0) (id := 7) ?_
 refine w_r [.m _, .v (.A (x1 : Tr))] ?_
 obtain ⟨g2, h⟩ := zh h
 obtain ⟨x2, hx2, h⟩ := zl h
 refine zcf (args' := [.A (x1 : Tr)]) (r := .i x2) (by rw [← hx2]; exact (ih x1 g2)) ?_
 obtain ⟨g3, h⟩ := zh h
 refine zov g3 ?_
 refine zaj ?_
 refine zb (k0 := 0) (id := 8) ?_
 obtain ⟨g4, h⟩ := zh h
 refine zov g4 ?_
 refine zaj ?_
 refine zaq (p := p1) ((s1.1 + x2), (s1.2 + 1)) h ?_
 exact zcy (bl 44 17592177686495) 1 (by kernel_rfl) (Nat.le_of_ble_eq_true rfl) (zbf (zq (zk _ _ (Enc.clo _)) rfl)) (by dsimp only [zaa, zag, List.foldl, List.set, bz, bzc, Nat.reduceMod, Nat.reduceDiv, Nat.reduceBEq, Nat.reduceAdd]; exact (za rfl (za (by decide) (za rfl (za rfl (za rfl (za rfl (za rfl (za rfl (za rfl (za rfl (za rfl (za rfl (za (zai (Enc.cloL _)) (by kernel_rfl))))))))))))))) (by kernel_rfl)
 refine zt h (fun h => ?_)
 refine zg (o := or2) (s1.1) h ?_
 exact zde (bl 44 17592177657823)
 intro j2 h
 refine zff ?_
 refine zar h (bz 0 42 4398038122698) (fun j3 => [(3, .i j3)]) (fun j3 => (.B [(29, (Enc.cells (t : Tr)))])) ?_ ?_
 intro or3 h hr3
 refine zo [.v (.ptr 0 0), .v (.u ((t.k : Nat) : Int)), .v (.b (((t.k : Nat) : Int) == 5))] ?_
 refine zbu h (fun hc3 h => ?_) (fun hc3 h => ?_)
 refine zo [.v (.ptr 0 5), .v (.i t.mn)] ?_
 refine w_o (a := .i (max t.mn 0)) (h := zbo (qkv rfl rfl rfl rfl rfl)) ?_
 refine zaj ?_
 refine zo [.m _, .v (.ptr 0 6), .v (.i t.mx)] ?_
 refine w_o (a := .i (max (max t.mn 0) t.mx)) (h := zbo (qkv rfl rfl rfl rfl rfl)) ?_
 refine zaj ?_
 refine zar h (bz 0 38 274869518530) (fun j4 => [(7, .i j4)]) (fun j4 => (.B [(29, (Enc.cells (t : Tr)))])) ?_ ?_
 intro or4 h hr4
 refine zo [.v (.ptr 0 6), .v (.i t.mx), .v (.b (t.mx == (-1)))] ?_
 refine zbu h (fun hc4 h => ?_) (fun hc4 h => ?_)
 refine zb (k0 := 0) (id := 13) ?_
 refine zaj ?_
 refine w_o (a := .i (max (max t.mn 0) 1)) (h := zbo (qkv rfl rfl rfl rfl rfl)) ?_
 refine zaj ?_
 refine zg (o := or4) ((max (max t.mn 0) 1)) h ?_
 exact zde (bl 44 17317316526013)
 refine zg (o := or4) ((max (max t.mn 0) t.mx)) h ?_
 exact zde (bl 44 17317316526013)
 intro j4 h
 refine zff ?_
 refine zb (k0 := 0) (id := 14) ?_
 refine w_r [.m _, .m _] ?_
 refine w_o (a := .i (min j4 10001)) (h := zbo (q_min rfl rfl rfl rfl rfl)) ?_
 obtain ⟨g5, h⟩ := zh h
 refine w_o (a := .i (j2 * (min j4 10001))) (h := zbo (q_mul rfl rfl rfl rfl g5.1 g5.2)) ?_
 refine zaj ?_
 refine zg (o := or3) ((j2 * (min j4 10001))) h ?_
 exact zde (bl 44 13194147921725)
 refine zg (o := or3) (j2) h ?_
 exact zde (bl 44 13194147921725)
 intro j3 h
 refine zff ?_
 refine zo [.m _] ?_
 refine w_o (a := .i (min j3 10001)) (h := zbo (q_min rfl rfl rfl rfl rfl)) ?_
 refine zaj ?_
 exact zdu h
def zxw (t : Tr) : Option Int :=
 (chk ((pre t).length < 2 ^ 61) (zbb (zbq t) (fun x1 => (bif (!x1) then (some 10001) else (zdr (τ := Int) (chk ((pre t).length < 2 ^ 61) (zbb (pre t) (fun x2 => (zdr (zgm (β := Int) (fun s1 w1 => (chk (-9223372036854775808 ≤ (s1 + 1) ∧ (s1 + 1) < 9223372036854775808) (some (Sum.inl ((s1 + 1)))))) x2 (0)) (fun s1 => (some (Sum.inl (s1)))))))) (fun j1 => (some j1)))))))
theorem ent22 : Ent Tryz.prog 22 := enters_of Tryz.func22 (by kernel_rfl) rfl
theorem qhw (t : Tr) (r : Int) (h : zxw t = some r) : Pure (ITP Tryz.prog) Tryz.prog 22 [.A (t : Tr)] (.raw (.int .i64 r)) := by
 unfold zxw at h
 refine zaw 12 mix Tryz.func22 ent22 ?_
 refine zf (zb ?_)
 refine zbp (a := .ptr 0 0) (σ'' := (.B [(29, (Enc.cells (t : Tr)))])) ?_
 refine w_o (a := .i 0) ?_
 refine zf ?_
 refine zo [.v (.A (t : Tr))] ?_
 obtain ⟨g1, h⟩ := zh h
 obtain ⟨x1, hx1, h⟩ := zl h
 refine zcf (args' := [.A (t : Tr)]) (r := .b x1) (by rw [← hx1]; exact (zkj t g1)) ?_
 refine w_o (a := .b (!x1)) ?_
 refine zbu h (fun hc1 h => ?_) (fun hc1 h => ?_)
 refine zo [.v (.i 10001)] ?_
 exact zdu h
 refine zf (zb ?_)
 refine zbp (a := .ptr 1 0) (σ'' := (.B [(29, (Enc.cells (t : Tr))), (3, [.i 0])])) ?_
 refine zcp 1 (.B [(29, (Enc.cells (t : Tr))), (3, [.i 0])]) ?_
 refine zar h (bz 0 13 8183) (fun j1 => []) (fun j1 => (.B [(29, (Enc.cells (t : Tr))), (3, [.i j1])])) ?_ ?_
 intro or1 h hr1
 refine zo [.v (.A (t : Tr))] ?_
 obtain ⟨g2, h⟩ := zh h
 obtain ⟨x2, hx2, h⟩ := zl h
 refine zcf (args' := [.A (t : Tr)]) (r := .iter (List.map zuq x2)) (by rw [← hx2]; exact (zzc t g2)) ?_
 refine zn ?_
 refine zlj h zuq (fun s1 => (.B [(29, (Enc.cells (t : Tr))), (3, [.i s1])])) rfl (fun _ => rfl) rfl rfl ?_ ?_
 intro s1 w1 p1 h
 refine zam (by dsimp only [znc, List.zip, List.zipWith, List.foldl, List.set, Array.toList, zuq]) rfl ?_
 refine zn ?_
 refine zb (k0 := 0) (id := 5) ?_
 refine w_o (a := .i s1) ?_
 obtain ⟨g3, h⟩ := zh h
 refine zov g3 ?_
 refine zcp 1 (.B [(29, (Enc.cells (t : Tr))), (3, [.i (s1 + 1)])]) ?_
 exact zgr (p := p1) ((s1 + 1)) h (zbf (zq (zk _ _ (Enc.clo _)) (zq (by kernel_rfl) rfl))) (by kernel_rfl)
 intro s1 h
 refine zg (o := or1) (s1) h ?_
 exact zde (bl 13 8)
 intro j1 h
 refine zff ?_
 refine zo [.v (.i j1), .m _] ?_
 exact zdu h
def qhs (fuel : Nat) (l : (List BS)) (s : BS) : Option Int :=
 (zdr (τ := Unit) (zbx (β := Int) (fun s1 => (bif (decide (s1 < (List.length l : Int))) then (chk (0 ≤ s1 ∧ s1 < (List.length l : Int)) (zbb (ix l s1) (fun x1 => (bif (decide (s = x1)) then (some (Sum.inr (Sum.inr s1))) else (chk (-9223372036854775808 ≤ (s1 + 1) ∧ (s1 + 1) < 9223372036854775808) (some (Sum.inl ((s1 + 1))))))))) else (some (Sum.inr (Sum.inl ()))))) fuel (0)) (fun j1 => (some (-1))))
theorem ent169 : Ent Tryz.prog 169 := enters_of Tryz.func169 (by kernel_rfl) rfl
theorem ixs_sh (fuel : Nat) (l : (List BS)) (s : BS) (r : Int) (h : qhs fuel l s = some r) : Pure (ITP Tryz.prog) Tryz.prog 169 [.L (l : List BS), .A (s : BS)] (.raw (.int .i64 r)) := by
 unfold qhs at h
 refine zaw 17 mix Tryz.func169 ent169 ?_
 refine zf (zb ?_)
 refine zbp (a := .ptr 0 0) (σ'' := (.B [(26, (Enc.cells (s : BS)))])) ?_
 refine w_o (a := .i 0) ?_
 refine zar h (bz 0 19 524287) (fun j1 => []) (fun j1 => (.B [(26, (Enc.cells (s : BS)))])) ?_ ?_
 intro or1 h hr1
 refine zo [.m _, .v (.i (List.length l : Int)), .v (.i 0)] ?_
 refine zn ?_
 refine zbr h (bz 0 19 524150) (fun s1 => [(8, .i s1)]) (fun s1 => (.B [(26, (Enc.cells (s : BS)))])) ?_ ?_
 exact zde (bl 19 393)
 intro s1 p1 h
 refine zff ?_
 refine zo [.v (.b (decide (s1 < (List.length l : Int))))] ?_
 refine zf ?_
 refine zbu h (fun hc1 h => ?_) (fun hc1 h => ?_)
 refine zf ?_
 refine zn ?_
 refine zo [.m _, .m _] ?_
 refine zf ?_
 refine zhb (k0 := 0) (id := 4) 5 (by kernel_rfl) (by kernel_rfl) ?_
 refine h_o (a := .A (s : BS)) ?_
 refine zho ?_
 refine zho ?_
 obtain ⟨g1, h⟩ := zh h
 obtain ⟨x1, hx1, h⟩ := zl h
 refine h_ix hx1 g1 ?_
 refine h_o (a := .A (x1 : BS)) ?_
 refine zlc ?_
 refine z4w (.b (decide (s = x1))) rfl rfl rfl (z9g s x1 rfl rfl rfl) (by dsimp only [zab, List.set]) ?_
 refine zbu h (fun hc2 h => ?_) (fun hc2 h => ?_)
 refine zo [.m _, .m _] ?_
 refine zt h (fun h => ?_)
 replace h := zu h hr1
 exact zdu h
 refine zb (k0 := 0) (id := 6) ?_
 obtain ⟨g2, h⟩ := zh h
 refine zov g2 ?_
 refine zaj ?_
 refine zaq (p := p1) ((s1 + 1)) h ?_
 exact zde (bl 19 393)
 refine zt h (fun h => ?_)
 refine zg (o := or1) () h ?_
 exact zde (bl 19 0)
 intro j1 h
 refine zff ?_
 refine zo [.v (.i (-1))] ?_
 exact zdu h
def qco (fuel : Nat) (l : (List BS)) (s : BS) : Option Bool :=
 (zay (qhs fuel l s) (fun x1 => (some (decide (x1 ≥ 0)))))
theorem ent142 : Ent Tryz.prog 142 := enters_of Tryz.func142 (by kernel_rfl) rfl
theorem cts_sh (fuel : Nat) (l : (List BS)) (s : BS) (r : Bool) (h : qco fuel l s = some r) : Pure (ITP Tryz.prog) Tryz.prog 142 [.L (l : List BS), .A (s : BS)] (.raw (.bool r)) := by
 unfold qco at h
 refine zaw 7 mix Tryz.func142 ent142 ?_
 refine zf (zb ?_)
 refine zbp (a := .ptr 0 0) (σ'' := (.B [(26, (Enc.cells (s : BS)))])) ?_
 refine w_o (a := .b false) ?_
 refine zo [.m _, .v (.A (s : BS))] ?_
 obtain ⟨x1, hx1, h⟩ := zv h
 refine zcf (ixs_sh fuel l s x1 hx1) ?_
 refine w_r [.v (.b (decide (x1 ≥ 0))), .m _] ?_
 exact zba h
def zol (fuel : Nat) (t : Tr) : Option (List BS) :=
 (zdr (τ := (List BS)) (chk ((pre t).length < 2 ^ 61) (zbb (zbq t) (fun x1 => (bif x1 then (chk ((pre t).length < 2 ^ 61) (zbb (pre t) (fun x2 => (zdr (zgm (β := (List BS)) (fun s1 w1 => (bif (((w1.k : Nat) : Int) == 2) then (zay (qco fuel s1 w1.s) (fun x3 => (bif (!x3) then (chk ((List.length s1 + List.length [w1.s]) * 32 ≤ 140737488355328) (some (Sum.inl ((s1 ++ [w1.s]))))) else (some (Sum.inl (s1)))))) else (some (Sum.inl (s1))))) x2 (([] : List BS))) (fun s1 => (some (Sum.inl (s1)))))))) else (some (Sum.inl (([] : List BS)))))))) (fun j1 => (some j1)))
theorem ent95 : Ent Tryz.prog 95 := enters_of Tryz.func95 (by kernel_rfl) rfl
theorem qgo (fuel : Nat) (t : Tr) (r : (List BS)) (h : zol fuel t = some r) : Pure (ITP Tryz.prog) Tryz.prog 95 [.A (t : Tr)] (.L (r : List BS)) := by
 unfold zol at h
 refine zaw 25 mix Tryz.func95 ent95 ?_
 refine zf (zb ?_)
 refine zbp (a := .ptr 0 0) (σ'' := (.B [(29, (Enc.cells (t : Tr)))])) ?_
 refine w_o (a := .list 0 [] .full) ?_
 refine zf (zb ?_)
 refine zbp (a := .ptr 1 0) (σ'' := (.B [(29, (Enc.cells (t : Tr))), (86, [.F (([] : List BS) : List BS)])])) ?_
 refine zar h (bz 0 26 67108855) (fun j1 => []) (fun j1 => (zcr [(29, (Enc.cells (t : Tr))), (86, [(.O (j1 : List BS))])] 26 (List.length (j1 : List BS)) 4)) ?_ ?_
 intro or1 h hr1
 refine zo [.v (.A (t : Tr))] ?_
 obtain ⟨g1, h⟩ := zh h
 obtain ⟨x1, hx1, h⟩ := zl h
 refine zcf (args' := [.A (t : Tr)]) (r := .b x1) (by rw [← hx1]; exact (zkj t g1)) ?_
 refine zbu h (fun hc1 h => ?_) (fun hc1 h => ?_)
 refine zo [.v (.A (t : Tr))] ?_
 obtain ⟨g2, h⟩ := zh h
 obtain ⟨x2, hx2, h⟩ := zl h
 refine zcf (args' := [.A (t : Tr)]) (r := .iter (List.map zuq x2)) (by rw [← hx2]; exact (zzc t g2)) ?_
 refine zn ?_
 refine zlj h zuq (fun s1 => (zcr [(29, (Enc.cells (t : Tr))), (86, [(.O (s1 : List BS))])] 26 (List.length (s1 : List BS)) 4)) rfl (fun _ => rfl) rfl rfl ?_ ?_
 intro s1 w1 p1 h
 refine zam (by dsimp only [znc, List.zip, List.zipWith, List.foldl, List.set, Array.toList, zuq]) rfl ?_
 refine zb (k0 := 0) (id := 4) ?_
 refine zbp (a := .ptr 2 0) (σ'' := (zcr [(29, (Enc.cells (t : Tr))), (86, [(.O (s1 : List BS))]), (29, [.u 0, .raw (.int .u64 0), .raw (.int .u64 0), .raw (.int .u64 0), .raw (.int .u64 0), .i 0, .i 0, .list 0 [] .full])] 26 (List.length (s1 : List BS)) 4)) ?_
 refine zcp 8 (zcr [(29, (Enc.cells (t : Tr))), (86, [(.O (s1 : List BS))]), (29, (Enc.cells (w1 : Tr)))] 26 (List.length (s1 : List BS)) 4) ?_
 refine zn ?_
 refine zo [.v (.ptr 2 0), .v (.u ((w1.k : Nat) : Int)), .v (.b (((w1.k : Nat) : Int) == 2))] ?_
 refine zac h (fun hc2 h => ?_) (fun hc2 h => ?_)
 refine zaz hc2 ?_
 refine w_r [.v (.O (s1 : List BS)), .v (.ptr 2 1), .v (.A (w1.s : BS))] ?_
 refine zak rfl rfl ?_
 obtain ⟨x3, hx3, h⟩ := zv h
 refine zcf (cts_sh fuel s1 w1.s x3 hx3) ?_
 refine w_r [.v (.b (!x3)), .v (.b (!x3))] ?_
 refine zbu h (fun hc3 h => ?_) (fun hc3 h => ?_)
 refine zb (k0 := 0) (id := 6) ?_
 refine w_r [.v (.O (s1 : List BS)), .v (.ptr 2 1), .v (.A (w1.s : BS))] ?_
 refine w_o (a := .F ([w1.s] : List BS)) (h := zbo (zgt (α := BS) (l := [w1.s]) (cs := Enc.cells (w1.s : BS) ++ []) rfl (by rw [Enc.cons, Enc.nil]))) ?_
 obtain ⟨g3, h⟩ := zh h
 refine znj (a := (.O ((s1 ++ [w1.s]) : List BS))) (σ'' := (zcr [(29, (Enc.cells (t : Tr))), (86, [(.O (s1 : List BS))]), (29, (Enc.cells (w1 : Tr)))] 26 (List.length ((s1 ++ [w1.s]) : List BS)) 4)) rfl rfl rfl (zga rfl rfl rfl rfl (zei (α := BS) (bs := [(29, (Enc.cells (t : Tr))), (86, [(.O (s1 : List BS))]), (29, (Enc.cells (w1 : Tr)))]) (a := s1) (b := [w1.s]) g3 rfl rfl rfl rfl rfl ⟨rfl, by decide⟩)) (by dsimp only [zab, List.set]) rfl ?_
 refine zbp (σ'' := (zcr [(29, (Enc.cells (t : Tr))), (86, [(.O ((s1 ++ [w1.s]) : List BS))]), (29, (Enc.cells (w1 : Tr)))] 26 (List.length ((s1 ++ [w1.s]) : List BS)) 4)) (h := qfy rfl rfl rfl rfl rfl (Nat.le_of_ble_eq_true rfl)) ?_
 exact zgr (p := p1) ((s1 ++ [w1.s])) h (zbf (zq (zk _ _ (Enc.clo _)) (zq (za (zbz (Enc.cloL _)) rfl) rfl))) (by kernel_rfl)
 exact zgr (p := p1) (s1) h (zbf (zq (zk _ _ (Enc.clo _)) (zq (za (zbz (Enc.cloL _)) rfl) rfl))) (by kernel_rfl)
 refine zaz hc2 ?_
 refine w_r [.p, .p, .p, .p, .p] ?_
 refine w_r [.v (.b false)] ?_
 refine zcb rfl ?_
 exact zgr (p := p1) (s1) h (zbf (zq (zk _ _ (Enc.clo _)) (zq (za (zbz (Enc.cloL _)) rfl) rfl))) (by kernel_rfl)
 intro s1 h
 refine zg (o := or1) (s1) h ?_
 exact zde (bl 26 8)
 refine zg (o := or1) (([] : List BS)) h ?_
 exact zde (bl 26 8)
 intro j1 h
 refine zff ?_
 refine zo [.v (.O (j1 : List BS)), .m _] ?_
 exact zax (fun (r : (List BS)) => .L (r : List BS)) h (.O (j1 : List BS))
def zsn (t : Tr) : Option Bool :=
 (bif (((t.k : Nat) : Int) == 0) then (chk ((pre t).length < 2 ^ 61 ∧ (pre noneT).length < 2 ^ 61) (zbb (zrb t noneT) (fun x1 => (some x1)))) else (some false))
theorem ent66 : Ent Tryz.prog 66 := enters_of Tryz.func66 (by kernel_rfl) rfl
theorem z7o (t : Tr) (r : Bool) (h : zsn t = some r) : Pure (ITP Tryz.prog) Tryz.prog 66 [.A (t : Tr)] (.raw (.bool r)) := by
 unfold zsn at h
 refine zaw 10 mix Tryz.func66 ent66 ?_
 refine zf (zb ?_)
 refine zbp (a := .ptr 0 0) (σ'' := (.B [(29, (Enc.cells (t : Tr)))])) ?_
 refine w_o (a := .b false) ?_
 refine zo [.v (.ptr 0 0), .v (.u ((t.k : Nat) : Int)), .v (.b (((t.k : Nat) : Int) == 0))] ?_
 refine zac h (fun hc1 h => ?_) (fun hc1 h => ?_)
 refine zaz hc1 ?_
 refine zak rfl rfl ?_
 refine w_o (a := .A (t : Tr)) ?_
 refine zak rfl rfl ?_
 refine zel (.A (noneT : Tr)) (a0 := (zca noneT .full)) rfl rfl rfl (by kernel_rfl) (zj _ _) (by dsimp only [zab, List.set]) ?_
 refine zak rfl rfl ?_
 obtain ⟨g1, h⟩ := zh h
 obtain ⟨x1, hx1, h⟩ := zl h
 refine zcf (args' := [.A (t : Tr), .A (noneT : Tr)]) (r := .b x1) (by rw [← hx1]; exact (z1s t noneT g1)) ?_
 refine w_r [.v (.b x1), .m _] ?_
 exact zba h
 refine zaz hc1 ?_
 refine w_r [.p, .p, .p, .v (.b false), .m _] ?_
 exact zba h
def zyy (t : Tr) : Option (List Tr) :=
 (zay (zsn t) (fun x1 => (bif x1 then (some ([] : (List Tr))) else (some [t]))))
theorem ent61 : Ent Tryz.prog 61 := enters_of Tryz.func61 (by kernel_rfl) rfl
theorem qgb (t : Tr) (r : (List Tr)) (h : zyy t = some r) : Pure (ITP Tryz.prog) Tryz.prog 61 [.A (t : Tr)] (.L (r : List Tr)) := by
 unfold zyy at h
 refine zaw 6 mix Tryz.func61 ent61 ?_
 refine zf (zb ?_)
 refine zbp (a := .ptr 0 0) (σ'' := (.B [(29, (Enc.cells (t : Tr)))])) ?_
 refine w_o (a := .list 0 [] .full) ?_
 refine zf ?_
 refine zo [.v (.A (t : Tr))] ?_
 obtain ⟨x1, hx1, h⟩ := zv h
 refine zcf (z7o t x1 hx1) ?_
 refine zbu h (fun hc1 h => ?_) (fun hc1 h => ?_)
 refine zo [.v (.list 0 [] .full)] ?_
 exact zen (fun (r : (List Tr)) => (.L (r : List Tr) : AV)) h rfl rfl rfl
 refine zo [.v (.A (t : Tr))] ?_
 refine w_o (a := .F ([t] : List Tr)) (h := zbo (zgt (α := Tr) (l := [t]) (cs := Enc.cells (t : Tr) ++ []) rfl (by rw [Enc.cons, Enc.nil]))) ?_
 refine zaj ?_
 exact zax (fun (r : (List Tr)) => .L (r : List Tr)) h (.F ([t] : List Tr))
def zuu (fuel : Nat) (l : (List Tr)) : Option (List BS) :=
 (zdr (τ := (List BS)) (zbx (β := (List BS) × Int) (fun s1 => (bif (decide (s1.2 < (List.length l : Int))) then (chk (0 ≤ s1.2 ∧ s1.2 < (List.length l : Int)) (zbb (ix l s1.2) (fun x1 => (zay (zol fuel x1) (fun x2 => (chk ((List.length s1.1 + List.length x2) * 32 ≤ 140737488355328) (chk (-9223372036854775808 ≤ (s1.2 + 1) ∧ (s1.2 + 1) < 9223372036854775808) (some (Sum.inl ((s1.1 ++ x2), (s1.2 + 1))))))))))) else (some (Sum.inr (Sum.inl (s1.1)))))) fuel (([] : (List BS)), 0)) (fun j1 => (chk (List.length j1 < 2 ^ 40) (zbb (zko j1) (fun x3 => (some x3))))))
theorem ent53 : Ent Tryz.prog 53 := enters_of Tryz.func53 (by kernel_rfl) rfl
theorem qar (fuel : Nat) (l : (List Tr)) (r : (List BS)) (h : zuu fuel l = some r) : Pure (ITP Tryz.prog) Tryz.prog 53 [.L (l : List Tr)] (.L (r : List BS)) := by
 unfold zuu at h
 refine zaw 18 mix Tryz.func53 ent53 ?_
 refine zo [.v (.list 0 [] .full)] ?_
 refine zo [.v (.list 0 [] .full)] ?_
 refine zar h (bz 0 19 524287) (fun j1 => [(3, (.O (j1 : List BS)))]) (fun j1 => (zcr [] 26 (List.length (j1 : List BS)) 4)) ?_ ?_
 intro or1 h hr1
 refine zo [.m _, .v (.i (List.length l : Int)), .v (.i 0)] ?_
 refine zn ?_
 refine zbr h (bz 0 19 524095) (fun s1 => [(3, (.O (s1.1 : List BS))), (8, .i s1.2)]) (fun s1 => (zcr [] 26 (List.length (s1.1 : List BS)) 4)) ?_ ?_
 exact zde (bl 19 456)
 intro s1 p1 h
 refine zff ?_
 refine zo [.v (.b (decide (s1.2 < (List.length l : Int))))] ?_
 refine zf ?_
 refine zbu h (fun hc1 h => ?_) (fun hc1 h => ?_)
 refine zf ?_
 refine zn ?_
 refine zf (zb ?_)
 obtain ⟨g1, h⟩ := zh h
 obtain ⟨x1, hx1, h⟩ := zl h
 refine zsm hx1 g1 ?_
 refine w_o (a := .A (x1 : Tr)) ?_
 refine zbp (a := .ptr 0 0) (σ'' := (zcr [(29, [.u 0, .raw (.int .u64 0), .raw (.int .u64 0), .raw (.int .u64 0), .raw (.int .u64 0), .i 0, .i 0, .list 0 [] .full])] 26 (List.length (s1.1 : List BS)) 4)) ?_
 refine zcp 8 (zcr [(29, (Enc.cells (x1 : Tr)))] 26 (List.length (s1.1 : List BS)) 4) ?_
 refine zb (k0 := 0) (id := 5) ?_
 refine w_r [.m _, .v (.A (x1 : Tr))] ?_
 obtain ⟨x2, hx2, h⟩ := zv h
 refine zcf (qgo fuel x1 x2 hx2) ?_
 obtain ⟨g2, h⟩ := zh h
 refine znj (a := (.O ((s1.1 ++ x2) : List BS))) (σ'' := (zcr [(29, (Enc.cells (x1 : Tr)))] 26 (List.length ((s1.1 ++ x2) : List BS)) 4)) rfl rfl rfl (zga rfl rfl rfl rfl (zei (α := BS) (bs := [(29, (Enc.cells (x1 : Tr)))]) (a := s1.1) (b := x2) g2 rfl rfl rfl rfl rfl ⟨rfl, by decide⟩)) (by dsimp only [zab, List.set]) rfl ?_
 refine zaj ?_
 refine zb (k0 := 0) (id := 6) ?_
 obtain ⟨g3, h⟩ := zh h
 refine zov g3 ?_
 refine zaj ?_
 refine zaq (p := p1) ((s1.1 ++ x2), (s1.2 + 1)) h ?_
 exact zcy (bl 19 456) 0 (by kernel_rfl) (Nat.le_of_ble_eq_true rfl) (zbf rfl) (by dsimp only [zaa, zag, List.foldl, List.set, bz, bzc, Nat.reduceMod, Nat.reduceDiv, Nat.reduceBEq, Nat.reduceAdd]; exact (za rfl (za rfl (za rfl (za (zbz (Enc.cloL _)) (za rfl (za rfl (za (zai (Enc.cloL _)) (by kernel_rfl))))))))) (by kernel_rfl)
 refine zt h (fun h => ?_)
 refine zg (o := or1) (s1.1) h ?_
 exact zde (bl 19 8)
 intro j1 h
 refine zff ?_
 refine zo [.m _] ?_
 obtain ⟨g4, h⟩ := zh h
 obtain ⟨x3, hx3, h⟩ := zl h
 refine zcf (args' := [.L (j1 : List BS)]) (r := .L (x3 : List BS)) (by rw [← hx3]; exact (k_parts j1 g4)) ?_
 refine zaj ?_
 exact zax (fun (r : (List BS)) => .L (r : List BS)) h (.L (x3 : List BS))
theorem zyv {α β ρ : Type} {body : β → α → Option (β ⊕ ρ)} (f : β → α → β) (I : β → Nat → Prop) : ∀ (xs : List α) (s : β), I s xs.length → (∀ s x k, x ∈ xs → k < xs.length → I s (k + 1) → body s x = some (.inl (f s x)) ∧ I (f s x) k) → zgm body xs s = some (.inl (xs.foldl f s))
 | [], s, _, _ => rfl
 | x :: xs, s, h0, h => by
  obtain ⟨h1, h2⟩ := h s x xs.length (by simp) (by simp) h0
  rw [zgm, h1]
  exact zyv f I xs (f s x) h2 fun s y k hy hk => h s y k (by simp [hy]) (by simp; omega)
theorem k_size (t : Tr) (h : (pre t).length < 2 ^ 61) : Pure (ITP Tryz.prog) Tryz.prog 22 [.agg (Enc.cells t)] (.raw (.int .i64 (z7y t))) := by
 refine qhw t _ ?_
 unfold zxw z7y
 refine zm h (zad fun x1 e1 => ?_)
 subst e1
 cases hl : zbq t with
 | false => rfl
 | true =>
  refine zas rfl (zbn ((pre t).length : Int) (zm h (zad fun x2 e2 => ?_)) rfl)
  subst e2
  refine zbn ((pre t).length : Int) ?_ rfl
  refine Eq.trans (zyv (fun (s : Int) _ => s + 1) (fun s k => 0 ≤ s ∧ s + k ≤ (pre t).length) (pre t) 0 (by omega) (fun s x k _ hk hI => ⟨zm (by omega) rfl, by omega⟩)) ?_
  have : ∀ (xs : List Tr) (s : Int), xs.foldl (fun s _ => s + 1) s = s + (xs.length : Int) := fun xs => by
   induction xs with
   | nil => intro s; simp
   | cons x xs ih => intro s; rw [List.foldl_cons, ih, List.length_cons]; omega
  rw [this, Int.zero_add]
theorem posn_eq {fuel : Nat} (n : Nat) (t : Tr) (h : (pre t).length ≤ 10000) (hn : (pre t).length < n + 1) (hf : 10001 < fuel) : z7d fuel n t = some (zkg t) := by
 have hp : (pre t).length = 1 + (zan t.l).length := by rw [zdi, List.length_cons]; omega
 have hlen := zao t.l
 have hpl := z6w t.l
 have hpn := zek t.l
 unfold z7d
 have hpos : zkg t = min (if t.k = 5 then ((if t.k = 2 then 1 else 0) + zez t.l) * min (if t.mx = -1 then max (max t.mn 0) 1 else max (max t.mn 0) t.mx) 10001 else (if t.k = 2 then 1 else 0) + zez t.l) 10001 := by
  obtain ⟨k, s, mn, mx, l⟩ := t; rw [zkg]; rfl
 rw [hpos]
 refine zbn (if t.k = 2 then 1 else 0) ?_ ?_
 ·by_cases h2 : t.k = 2
  ·rw [if_pos h2]; exact zbk (by simp [h2]) rfl
  ·rw [if_neg h2]; exact zas (by simp; omega) rfl
 ·generalize hb : (if t.k = 2 then (1 : Int) else 0) = b
  have hb1 : 0 ≤ b ∧ b ≤ 1 := by rw [← hb]; split <;> omega
  refine zbn (b + zez t.l) ?_ ?_
  ·refine zdm t.l.length (fun i => (b + zez (t.l.take i), (i : Int))) (by simp [zez]) (fun i hi => ?_) ?_ (by omega)
   ·refine zbk (by simpa using hi) (zm (by simp only; omega) (zad fun x1 e1 => ?_))
    simp only at e1
    rw [zdh hi] at e1
    have hm : x1 ∈ t.l := e1 ▸ List.getElem_mem hi
    have hx := zcc hm
    have q1 := z6w (t.l.take i)
    have q2 := zek (t.l.take i)
    have q3 := qey x1
    have q4 := zkb x1
    have q5 : (t.l.take i).length ≤ t.l.length := List.length_take_le' _ _
    refine zm (by omega) (zad fun x2 e2 => zm (by simp only; omega) (zm (by simp only; omega) ?_))
    rw [qig _ _ hi, e1, ← e2]
    simp only [Int.add_assoc]; rfl
   ·refine zas (by simp) ?_
    simp
  ·generalize hj : b + zez t.l = j
   have hj1 : 0 ≤ j ∧ j ≤ 200000000 := by omega
   by_cases h5 : t.k = 5
   ·rw [if_pos h5]
    generalize hq : (if t.mx = -1 then max (max t.mn 0) 1 else max (max t.mn 0) t.mx) = q
    have hm : 0 ≤ min q 10001 ∧ min q 10001 ≤ 10001 := by
     have : 0 ≤ q := by rw [← hq]; split <;> omega
     omega
    have hmul : 0 ≤ j * min q 10001 ∧ j * min q 10001 ≤ 200000000 * 10001 := ⟨Int.mul_nonneg hj1.1 hm.1, Int.mul_le_mul hj1.2 hm.2 hm.1 (by omega)⟩
    refine zbn (j * min q 10001) (zbk (by simp [h5]) (zbn q ?_ (zm (by omega) rfl))) rfl
    by_cases hx : t.mx = -1
    ·rw [if_pos hx] at hq; exact zbk (by simp [hx]) (by rw [hq])
    ·rw [if_neg hx] at hq; exact zas (by simpa using hx) (by rw [hq])
   ·rw [if_neg h5]
    exact zbn j (zas (by simp; omega) rfl) rfl
theorem z6z : ∀ (n : Nat) (t : Tr), (pre t).length < n → (pre t).length ≤ 10000 → Pure (ITP Tryz.prog) Tryz.prog 69 [.agg (Enc.cells t)] (.raw (.int .i64 (zkg t)))
 | 0, t, h, _ => absurd h (Nat.not_lt_zero _)
 | n + 1, t, h, hl => by
  have hp : (pre t).length = 1 + (zan t.l).length := by rw [zdi, List.length_cons]; omega
  exact posn_sh 10002 (min n 10000) t _ (fun x hx => z6z n x (by omega) (by omega)) (posn_eq (min n 10000) t hl (by omega) (by decide))
theorem k_posn (t : Tr) (h : (pre t).length ≤ 10000) : Pure (ITP Tryz.prog) Tryz.prog 69 [.agg (Enc.cells t)] (.raw (.int .i64 (zkg t))) := z6z 10001 t (by omega) h
theorem ixs_eq {fuel : Nat} (l : List BS) (s : BS) (hf : l.length < fuel) (hl : l.length < 2 ^ 60) : qhs fuel l s = some (match l.findIdx? (fun x => decide (s = x)) with | some i => (i : Int) | none => -1) := by
 unfold qhs
 have key : ∀ (k i : Nat), i + k = l.length → (∀ x ∈ l.take i, s ≠ x) → ∀ n, k < n → zbx (β := Int) (fun s1 => (bif (decide (s1 < (List.length l : Int))) then (chk (0 ≤ s1 ∧ s1 < (List.length l : Int)) (zbb (ix l s1) (fun x1 => (bif (decide (s = x1)) then (some (Sum.inr (Sum.inr s1))) else (chk (-9223372036854775808 ≤ (s1 + 1) ∧ (s1 + 1) < 9223372036854775808) (some (Sum.inl ((s1 + 1))))))))) else (some (Sum.inr (Sum.inl ()))))) n (i : Int) = some (match l.findIdx? (fun x => decide (s = x)) with | some i => Sum.inr (i : Int) | none => Sum.inl ()) := by
  intro k
  induction k with
  | zero =>
   intro i hi hno n hn
   match n, hn with
   | n + 1, _ =>
    have : l.findIdx? (fun x => decide (s = x)) = none := by
     rw [List.findIdx?_eq_none_iff]
     intro x hx
     have := hno x (by rw [List.take_of_length_le (by omega)]; exact hx)
     simpa using this
    rw [zbx, this, show decide ((i : Int) < (l.length : Int)) = false by simp; omega]; rfl
  | succ k ih =>
   intro i hi hno n hn
   match n, hn with
   | n + 1, hn =>
    have hil : i < l.length := by omega
    rw [zbx, show decide ((i : Int) < (l.length : Int)) = true by simp; omega, cond_true, zdf (by omega), zbb, zdh hil]
    by_cases he : s = l[i]
    ·have : l.findIdx? (fun x => decide (s = x)) = some i := by
      rw [List.findIdx?_eq_some_iff_getElem]
      refine ⟨hil, by simpa using he, fun j hj => ?_⟩
      have hne := hno l[j] (List.mem_take_iff_getElem.2 ⟨j, by omega, rfl⟩)
      simpa using hne
     rw [this, show decide (s = l[i]) = true by simpa using he]; rfl
    ·rw [show decide (s = l[i]) = false by simpa using he, cond_false, zdf (by omega)]
     have := ih (i + 1) (by omega) (fun x hx => by
      rw [List.take_succ_eq_append_getElem hil, List.mem_append] at hx
      rcases hx with hx | hx
      ·exact hno x hx
      ·rw [List.mem_singleton] at hx; rw [hx]; exact he) n (by omega)
     simp only [Int.natCast_add, Int.natCast_one] at this
     exact this
 have h0 := key l.length 0 (by omega) (fun x hx => by simp at hx) fuel hf
 simp only [Int.natCast_zero] at h0
 unfold zdr
 rw [h0]
 cases l.findIdx? (fun x => decide (s = x)) <;> rfl
theorem cts_eq {fuel : Nat} (l : List BS) (s : BS) (hf : l.length < fuel) (hl : l.length < 2 ^ 60) : qco fuel l s = some (decide (s ∈ l)) := by
  unfold qco
  refine zbt _ (ixs_eq l s hf hl) ?_
  cases h : l.findIdx? (fun x => decide (s = x)) with
  | none =>
    rw [List.findIdx?_eq_none_iff] at h
    have : s ∉ l := fun hm => by have := h s hm; simp at this
    simp [this]
  | some i =>
    rw [List.findIdx?_eq_some_iff_getElem] at h
    obtain ⟨hi, h1, _⟩ := h
    have : s ∈ l := by have h1 : s = l[i] := by simpa using h1
                       rw [h1]; exact List.getElem_mem hi
    simp [this]
def zjg (l : List BS) : List Tr → List BS
 | [] => l
 | x :: xs => zjg (if x.k = 2 ∧ x.s ∉ l then l ++ [x.s] else l) xs
def zhe (t : Tr) : List BS := if zbq t = true then zjg [] (pre t) else []
theorem ztp : ∀ (xs : List Tr) (l : List BS), xs.foldl (fun l x => if x.k = 2 ∧ x.s ∉ l then l ++ [x.s] else l) l = zjg l xs
 | [], l => rfl
 | x :: xs, l => by rw [List.foldl_cons, ztp xs, zjg]
theorem zwe : ∀ (xs : List Tr) (l : List BS) (s : BS), s ∈ zjg l xs ↔ s ∈ l ∨ ∃ x ∈ xs, x.k = 2 ∧ x.s = s
 | [], l, s => by simp [zjg]
 | x :: xs, l, s => by
  rw [zjg, zwe xs]
  by_cases h : x.k = 2 ∧ x.s ∉ l
  ·rw [if_pos h]
   simp only [List.mem_append, List.mem_cons, List.not_mem_nil, or_false]
   constructor
   ·rintro ((h1 | rfl) | ⟨y, hy, h2⟩)
    ·exact .inl h1
    ·exact .inr ⟨x, .inl rfl, h.1, rfl⟩
    ·exact .inr ⟨y, .inr hy, h2⟩
   ·rintro (h1 | ⟨y, rfl | hy, h2⟩)
    ·exact .inl (.inl h1)
    ·exact .inl (.inr h2.2.symm)
    ·exact .inr ⟨y, hy, h2⟩
  ·rw [if_neg h]
   constructor
   ·rintro (h1 | ⟨y, hy, h2⟩)
    ·exact .inl h1
    ·exact .inr ⟨y, List.mem_cons_of_mem _ hy, h2⟩
   ·rintro (h1 | ⟨y, hy, h2⟩)
    ·exact .inl h1
    ·rcases List.mem_cons.1 hy with rfl | hy
     ·by_cases hm : y.s ∈ l
      ·exact .inl (h2.2 ▸ hm)
      ·exact absurd ⟨h2.1, hm⟩ h
     ·exact .inr ⟨y, hy, h2⟩
theorem zwm : ∀ (xs : List Tr) (l : List BS), (zjg l xs).length ≤ l.length + xs.length
 | [], l => by simp [zjg]
 | x :: xs, l => by
  rw [zjg]
  have := zwm xs (if x.k = 2 ∧ x.s ∉ l then l ++ [x.s] else l)
  have h1 : (if x.k = 2 ∧ x.s ∉ l then l ++ [x.s] else l).length ≤ l.length + 1 := by split <;> simp
  rw [List.length_cons]; omega
theorem zvw (t : Tr) : (zhe t).length ≤ 10000 := by
 unfold zhe
 split
 ·rename_i h
  have h : (pre t).length ≤ 10000 := by simpa [zbq] using h
  have := zwm (pre t) []; simp at this; omega
 ·simp
theorem qhl {fuel : Nat} (t : Tr) (h : (pre t).length < 2 ^ 61) (hf : 10001 < fuel) : zol fuel t = some (zhe t) := by
 unfold zol zhe
 refine zbn (if zbq t = true then zjg [] (pre t) else []) (zm h (zad fun x1 e1 => ?_)) rfl
 subst e1
 cases hl : zbq t with
 | false => rfl
 | true =>
  have hl : (pre t).length ≤ 10000 := by simpa [zbq] using hl
  refine zbk rfl (zm h (zad fun x2 e2 => ?_))
  subst e2
  rw [if_pos rfl]
  refine zbn (zjg [] (pre t)) ?_ rfl
  rw [← ztp]
  refine zyv (fun l x => if x.k = 2 ∧ x.s ∉ l then l ++ [x.s] else l) (fun s k => s.length + k ≤ (pre t).length) (pre t) [] (by simp) (fun s x k _ hk hI => ?_)
  by_cases h2 : x.k = 2
  ·have hc := cts_eq (fuel := fuel) s x.s (by omega) (by omega)
   by_cases hm : x.s ∈ s
   ·rw [if_neg (by simp [hm])]
    refine ⟨zbk (by simp [h2]) (zbt _ hc (by simp [hm])), by omega⟩
   ·rw [if_pos ⟨h2, hm⟩]
    refine ⟨zbk (by simp [h2]) (zbt _ hc (zbk (by simp [hm]) (zm (by simp only [List.length_cons, List.length_nil]; omega) rfl))), by simp only [List.length_append, List.length_cons, List.length_nil]; omega⟩
  ·rw [if_neg (by simp [h2])]
   exact ⟨zas (by simp; omega) rfl, by omega⟩
def isNone (t : Tr) : Bool := zfa t noneT
theorem zpw (t : Tr) : isNone t = true ↔ t = noneT := zte _ _
theorem z7h (t : Tr) (h : (pre t).length < 2 ^ 61) : zsn t = some (isNone t) := by
 unfold zsn
 by_cases h0 : t.k = 0
 ·refine zbk (by simp [h0]) (zm ⟨h, by decide⟩ (zad fun x e => ?_))
  subst e
  cases hs : isNone t with
  | true =>
   have := (zpw t).1 hs
   subst this; rfl
  | false =>
   have hs : zfa t noneT = false := hs
   rw [zrb, hs, Bool.and_false]
 ·cases hs : isNone t with
  | true =>
   have := (zpw t).1 hs
   subst this; exact absurd rfl h0
  | false => exact zas (by simp; omega) rfl
theorem qnf (t : Tr) (h : (pre t).length < 2 ^ 61) : Pure (ITP Tryz.prog) Tryz.prog 66 [.agg (Enc.cells t)] (.raw (.bool (isNone t))) := z7o t _ (z7h t h)
def z8l (t : Tr) : List Tr := if isNone t = true then [] else [t]
theorem k_first (t : Tr) (h : (pre t).length < 2 ^ 61) : Pure (ITP Tryz.prog) Tryz.prog 61 [.agg (Enc.cells t)] (.list (z8l t).length (Enc.cellsL (z8l t)) .none) := by
 refine qgb t _ ?_
 unfold zyy z8l
 refine zbt _ (z7h t h) ?_
 cases isNone t <;> rfl
def zcg (l : List Tr) : List BS := zko (l.flatMap zhe)
theorem z1l (l : List Tr) (h : l.length < 2 ^ 20 ∧ ∀ x ∈ l, (pre x).length < 2 ^ 61) : Pure (ITP Tryz.prog) Tryz.prog 53 [.list l.length (Enc.cellsL l) .none] (.list (zcg l).length (Enc.cellsL (zcg l)) .none) := by
 refine qar (2 ^ 20 + 10002) l _ ?_
 have hlen : ∀ m : List Tr, (m.flatMap zhe).length ≤ 10000 * m.length := fun m => by
  induction m with
  | nil => simp
  | cons x m ih => rw [List.flatMap_cons, List.length_append, List.length_cons]; have := zvw x; omega
 unfold zuu zcg
 refine zbn (l.flatMap zhe) ?_ (zm (by have := hlen l; omega) rfl)
 refine zdm l.length (fun i => ((l.take i).flatMap zhe, (i : Int))) (by simp) (fun i hi => ?_) ?_ (by omega)
 ·refine zbk (by simpa using hi) (zm (by simp only; omega) (zad fun x1 e1 => ?_))
  simp only at e1
  rw [zdh hi] at e1
  have hm : x1 ∈ l := e1 ▸ List.getElem_mem hi
  have q1 := hlen (l.take i)
  have q2 := zvw x1
  have q3 : (l.take i).length ≤ l.length := List.length_take_le' _ _
  refine zbt _ (qhl x1 (h.2 x1 hm) (by omega)) (zm (by simp only; omega) (zm (by simp only; omega) ?_))
  rw [List.take_succ_eq_append_getElem hi, List.flatMap_append, e1]
  simp
 ·refine zas (by simp) ?_
  simp
end Go.Ab
