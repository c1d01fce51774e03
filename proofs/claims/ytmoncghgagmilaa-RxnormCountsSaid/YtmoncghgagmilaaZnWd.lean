/-
  Made: joins, group, rep; node, rep of the laws.
-/
import Derived.Test.YtmoncghgagmilaaZnBx
import Derived.Test.YtmoncghgagmilaaZnEn
import Derived.Test.YtmoncghgagmilaaZdQq
import Derived.Test.YtmoncghgagmilaaZnV3
set_option linter.unusedSimpArgs false
set_option linter.unusedVariables false
namespace Go.Ab
open Go Go.RowKit Go.Fwd Go.Proofs
theorem q_lenP {α : Type} [Enc α] {P : Program} {ρ : Operand → AV} {σ : St} {o : Oper} {c : Call} {x : Operand} {t e : TypeId} {l : List α} {b sz : Nat} (ho : o.op = .call c) (hc : c.callee = .builtin .len) (ha : c.args.toList = [x]) (ht : c.argTypes.toList = [t]) (hx : ρ x = zw8 b l.length sz) (hu : P.underlying t = some (.slice e)) :
 qop P ρ σ o = some (.raw (.int .i64 (l.length : Int))) := by
 cases l with
 | nil =>
  have hx : ρ x = .list 0 [] .full := hx
  simp [qop, ho, hc, ha, ht, hx, z6y, hu]
 | cons y l =>
  have hx : ρ x = .bsl b 0 (l.length + 1) sz false := hx
  simp [qop, ho, hc, ha, ht, hx, z6y, hu]
theorem z1e {α : Type} [Enc α] {l : List α} (h : 0 < l.length) : zff l.length (Enc.cellsL l) = .list l.length (Enc.cellsL l) (.own 0) := by
 unfold zff; rw [if_neg (by omega)]
theorem q_idxO {α : Type} [Enc α] {P : Program} {ρ : Operand → AV} {σ : St} {o : Oper} {t e : TypeId} {x i : Operand} {l : List α} {k : IntKind} {n : Int} (hb : 0 ≤ n ∧ n < l.length) (ho : o.op = .indexAddr t x i) (hx : ρ x = zff l.length (Enc.cellsL l)) (hi : ρ i = .raw (.int k n)) (hu : P.underlying t = some (.slice e)) (hs : zec P e = some (Enc.sz α)) :
 qop P ρ σ o = some (.iptr (Enc.cells (ix l n) ++ Enc.cellsL (l.drop (n.toNat + 1)))) := zkc hb ho (hx.trans (z1e (by omega))) hi hu hs
theorem pos_of0 {α : Type} {l : List α} (h : ((l.length : Int) == 0) = false) : 0 < l.length := by
 have : ¬ ((l.length : Int) = 0) := by simpa using h
 omega
def lbU (n : Nat) : List UInt8 := (zrf (n % 12)).map UInt8.ofNat
def z7o (l : List UInt8) : Tr := zqg (l.map UInt8.toNat)
def clsA : List (List UInt8) := [[97], [98], [97, 98], [99], [97, 98, 99], [98, 99], [10], [0, 255], []]
theorem z41 : ∀ n : Nat, n < 256 → lbU n ∈ clsA ∧ bsOf ((lbU n).map UInt8.toNat) = bsOf (zrf (n % 12)) := by decide +kernel
theorem clsU_lb (n : Nat) (h : n < 256) : z7o (lbU n) = zqg (zrf (n % 12)) := by rw [z7o, zqg, (z41 n h).2]; rfl
noncomputable def run1 (f : Nat) (args : List AV) (r : AV) : Bool := match zj0 Try.prog noP (ev Try.prog noP noS 300) f args with
 | some x => zv2 x r
 | none => false
theorem z1l {f : Nat} {args : List AV} {r : AV} (h : run1 f args r = true) : Pure (ITP Try.prog) Try.prog f args r := by
 unfold run1 at h
 split at h
 ·rename_i x hx
  rw [z2t _ _ h] at hx
  exact zd5 z4g 300 hx
 ·cases h
theorem let_tab : ((List.range 256).all fun n => run1 21 [.raw (.int .u8 (n : Int))] (.raw (.string (bs (lbU n))))) = true := by kernel_rfl
theorem z3j (n : Int) (h : 0 ≤ n ∧ n < 256) : Pure (ITP Try.prog) Try.prog 21 [.raw (.int .u8 n)] (.raw (.string (bs (lbU n.toNat)))) := by
 obtain ⟨m, rfl⟩ : ∃ m : Nat, n = m := ⟨n.toNat, by omega⟩
 rw [Int.toNat_natCast]
 exact z1l (List.all_eq_true.1 let_tab m (List.mem_range.2 (by omega)))
theorem cls_tab : (clsA.all fun l => run1 20 [.raw (.string (bs l))] (.agg (Enc.cells (z7o l))) && run1 12 [.raw (.string (bs l))] (.agg (Enc.cells (z7o l)))) = true := by kernel_rfl
theorem zo6 (l : List UInt8) (h : l ∈ clsA) : Pure (ITP Try.prog) Try.prog 20 [.raw (.string (bs l))] (.agg (Enc.cells (z7o l))) := z1l (Bool.and_eq_true _ _ ▸ List.all_eq_true.1 cls_tab l h).1
end Go.Ab
set_option linter.unusedSimpArgs false
set_option linter.unusedVariables false
namespace Go.Ab
open Go Go.RowKit Go.Fwd Go.Proofs
def zg9 (fuel : Nat) (k : Int) (a : Tr) (b : Tr) : Option Tr :=
 (zds (τ := (List Tr)) (zcl (β := (List Tr) × Int) (fun s1 => (bif (decide (s1.2 < (List.length [a, b] : Int))) then (zds (τ := (List Tr)) (chk (0 ≤ s1.2 ∧ s1.2 < (List.length [a, b] : Int)) (zal (ix [a, b] s1.2) (fun x1 => (bif (((x1.k : Nat) : Int) == k) then (chk ((List.length s1.1 + List.length x1.l) * 80 ≤ 140737488355328) (some (Sum.inl ((s1.1 ++ x1.l))))) else (bif (k == 3) then (bif (((x1.k : Nat) : Int) == 1) then (some (Sum.inl (s1.1))) else (chk ((List.length s1.1 + List.length [x1]) * 80 ≤ 140737488355328) (some (Sum.inl ((s1.1 ++ [x1])))))) else (chk ((List.length s1.1 + List.length [x1]) * 80 ≤ 140737488355328) (some (Sum.inl ((s1.1 ++ [x1])))))))))) (fun j2 => (chk (-9223372036854775808 ≤ (s1.2 + 1) ∧ (s1.2 + 1) < 9223372036854775808) (some (Sum.inl (j2, (s1.2 + 1))))))) else (some (Sum.inr (Sum.inl (s1.1)))))) fuel (([] : (List Tr)), 0)) (fun j1 => (bif ((List.length j1 : Int) == 0) then (some (Tr.mk 1 (0#256) 0 0 [])) else (bif ((List.length j1 : Int) == 1) then (chk (0 ≤ (0 : Int) ∧ (0 : Int) < (List.length j1 : Int)) (zal (ix j1 (0 : Int)) (fun x2 => (some x2)))) else (chk (0 ≤ k) (some (Tr.mk (Int.toNat k) (0#256) 0 0 j1)))))))
theorem ent22 : Ent Try.prog 22 := enters_of Try.func22 (by kernel_rfl) rfl
set_option maxRecDepth 100000 in
set_option maxHeartbeats 4000000 in
theorem zky (fuel : Nat) (k : Int) (a : Tr) (b : Tr) (r : Tr) (h : zg9 fuel k a b = some r) : Pure (ITP Try.prog) Try.prog 22 [.raw (.int .u8 k), .agg (Enc.cells (a : Tr)), .agg (Enc.cells (b : Tr))] (.agg (Enc.cells (r : Tr))) := by
 obtain ⟨d, hd⟩ : ∃ d, Try.f22.body = some d := ⟨_, rfl⟩
 refine zir mix Try.func22 hd ent22 ?_
 cases hd
 unfold zg9 at h
 refine za0 (by dsimp only [zb1, Try.f22, List.length_cons, List.length_nil, Nat.zero_add, Nat.reduceAdd, Nat.reduceSub, List.replicate, List.cons_append, List.nil_append]) (by dsimp only [St.empty]) ?_
 refine ze (zd ?_)
 refine zbj (a := .ptr 0 0) (σ'' := ⟨[(30, (Enc.cells (a : Tr)))], [], [], 0, false⟩) ?_
 refine zbj (a := .ptr 1 0) (σ'' := ⟨[(30, (Enc.cells (a : Tr))), (30, (Enc.cells (b : Tr)))], [], [], 0, false⟩) ?_
 refine zbj (a := .ptr 2 0) (σ'' := ⟨[(30, (Enc.cells (a : Tr))), (30, (Enc.cells (b : Tr))), (30, [.u 0, .raw (.int .u64 0), .raw (.int .u64 0), .raw (.int .u64 0), .raw (.int .u64 0), .i 0, .i 0, .list 0 [] .full])], [], [], 0, false⟩) ?_
 refine ze (zd ?_)
 refine w_o (a := .list 0 [] .full) ?_
 refine za3 h [1, 2, 3, 4, 5, 7, 8, 9, 10, 11, 12, 13, 14, 15, 16, 17, 18, 19, 20, 21, 22, 23, 24, 25, 26, 27, 28, 29, 30, 31, 32, 33, 34, 35, 36, 37, 38, 39, 40, 41, 42, 43, 44, 45, 46, 47, 48, 49, 50, 51, 52] (fun j1 => [(7, (zff (List.length (j1 : List Tr)) (Enc.cellsL (j1 : List Tr))))]) (fun j1 => (zd6 [(30, (Enc.cells (a : Tr))), (30, (Enc.cells (b : Tr))), (30, [.u 0, .raw (.int .u64 0), .raw (.int .u64 0), .raw (.int .u64 0), .raw (.int .u64 0), .i 0, .i 0, .list 0 [] .full])] 30 (List.length (j1 : List Tr)) 8)) ?_ ?_
 intro or1 h hr1
 refine ze (zd ?_)
 refine w_o (a := .agg (Enc.cells (a : Tr))) ?_
 refine w_o (a := .agg (Enc.cells (b : Tr))) ?_
 refine w_o (a := .list (List.length ([a, b] : List Tr)) (Enc.cellsL ([a, b] : List Tr)) .full) (h := zbs (zfs (α := Tr) (l := [a, b]) (cs := Enc.cells (a : Tr) ++ (Enc.cells (b : Tr) ++ [])) rfl (by rw [Enc.cons, Enc.cons, Enc.nil]))) ?_
 refine w_o (a := .i (List.length [a, b] : Int)) ?_
 refine w_o (a := .i 0) ?_
 refine zt ?_
 refine zcp h [1, 2, 3, 4, 5, 7, 8, 9, 10, 11, 14, 15, 16, 17, 18, 19, 20, 21, 22, 23, 24, 25, 26, 27, 28, 29, 30, 31, 32, 33, 34, 35, 36, 37, 38, 39, 40, 41, 42, 43, 44, 45, 46, 47, 48, 49, 50, 51, 52] (fun s1 => [(7, (zff (List.length (s1.1 : List Tr)) (Enc.cellsL (s1.1 : List Tr)))), (14, .i s1.2)]) (fun s1 => (zd6 [(30, (Enc.cells (a : Tr))), (30, (Enc.cells (b : Tr))), (30, [.u 0, .raw (.int .u64 0), .raw (.int .u64 0), .raw (.int .u64 0), .raw (.int .u64 0), .i 0, .i 0, .list 0 [] .full])] 30 (List.length (s1.1 : List Tr)) 8)) ?_ ?_
 exact zc4 (bl 53 28865) (by kernel_rfl) (by kernel_rfl)
 intro s1 p1 h
 refine za0 (by dsimp only [zaf, zae, List.foldl, List.set]) rfl ?_
 refine ze (zd ?_)
 refine w_o (a := .b (decide (s1.2 < (List.length [a, b] : Int)))) ?_
 refine ze ?_
 refine zu h (fun hc1 h => ?_) (fun hc1 h => ?_)
 refine za4 hc1 rfl ?_
 refine za3 h [7, 9, 15, 16, 17, 18, 19, 20, 21, 22, 23, 24, 25, 26, 27, 28, 29, 30, 31, 32, 33, 34, 35, 36, 37, 38] (fun j2 => [(7, (zff (List.length (j2 : List Tr)) (Enc.cellsL (j2 : List Tr))))]) (fun j2 => (zd6 [(30, (Enc.cells (a : Tr))), (30, (Enc.cells (b : Tr))), (30, [.u 0, .raw (.int .u64 0), .raw (.int .u64 0), .raw (.int .u64 0), .raw (.int .u64 0), .i 0, .i 0, .list 0 [] .full])] 30 (List.length (j2 : List Tr)) 8)) ?_ ?_
 intro or2 h hr2
 refine zt ?_
 refine ze (zd ?_)
 obtain ⟨g1, h⟩ := zh h
 obtain ⟨x1, hx1, h⟩ := zj h
 refine w_o (a := .iptr (Enc.cells x1 ++ Enc.cellsL (List.drop (Int.toNat s1.2 + 1) [a, b]))) (h := zbs (by rw [← hx1]; exact (zkc (α := Tr) (l := [a, b]) g1 rfl rfl rfl rfl rfl))) ?_
 refine w_o (a := .agg (Enc.cells (x1 : Tr))) ?_
 refine zbj (a := .ptr 3 0) (σ'' := (zd6 [(30, (Enc.cells (a : Tr))), (30, (Enc.cells (b : Tr))), (30, [.u 0, .raw (.int .u64 0), .raw (.int .u64 0), .raw (.int .u64 0), .raw (.int .u64 0), .i 0, .i 0, .list 0 [] .full]), (30, [.u 0, .raw (.int .u64 0), .raw (.int .u64 0), .raw (.int .u64 0), .raw (.int .u64 0), .i 0, .i 0, .list 0 [] .full])] 30 (List.length (s1.1 : List Tr)) 8)) ?_
 refine zbj (σ'' := (zd6 [(30, (Enc.cells (a : Tr))), (30, (Enc.cells (b : Tr))), (30, [.u 0, .raw (.int .u64 0), .raw (.int .u64 0), .raw (.int .u64 0), .raw (.int .u64 0), .i 0, .i 0, .list 0 [] .full]), (30, (Enc.cells (x1 : Tr)))] 30 (List.length (s1.1 : List Tr)) 8)) (h := za5 (n := 8) rfl rfl rfl rfl rfl rfl rfl rfl (by decide)) ?_
 refine zt ?_
 refine ze (zd ?_)
 refine w_o (a := .ptr 3 0) ?_
 refine w_o (a := .u ((x1.k : Nat) : Int)) ?_
 refine zad ?_
 refine w_o (a := .b (((x1.k : Nat) : Int) == k)) ?_
 refine zad ?_
 refine zu h (fun hc2 h => ?_) (fun hc2 h => ?_)
 refine za4 hc2 rfl ?_
 refine zd (k0 := 0) (id := 7) ?_
 refine zad ?_
 refine w_o (a := .ptr 3 7) ?_
 refine w_o (a := .list (List.length (x1.l : List Tr)) (Enc.cellsL (x1.l : List Tr)) .none) ?_
 obtain ⟨g2, h⟩ := zh h
 refine zrl (a := (zff (List.length ((s1.1 ++ x1.l) : List Tr)) (Enc.cellsL ((s1.1 ++ x1.l) : List Tr)))) (σ'' := (zd6 [(30, (Enc.cells (a : Tr))), (30, (Enc.cells (b : Tr))), (30, [.u 0, .raw (.int .u64 0), .raw (.int .u64 0), .raw (.int .u64 0), .raw (.int .u64 0), .i 0, .i 0, .list 0 [] .full]), (30, (Enc.cells (x1 : Tr)))] 30 (List.length ((s1.1 ++ x1.l) : List Tr)) 8)) rfl rfl rfl (zgw rfl rfl rfl rfl (zev (α := Tr) (bs := [(30, (Enc.cells (a : Tr))), (30, (Enc.cells (b : Tr))), (30, [.u 0, .raw (.int .u64 0), .raw (.int .u64 0), .raw (.int .u64 0), .raw (.int .u64 0), .i 0, .i 0, .list 0 [] .full]), (30, (Enc.cells (x1 : Tr)))]) (a := s1.1) (b := x1.l) g2 rfl rfl rfl rfl rfl ⟨rfl, by decide⟩)) (by dsimp only [zp, List.set]) rfl ?_
 refine zad ?_
 refine zg (o := or2) ((s1.1 ++ x1.l)) h ?_
 exact zcn (bl 53 9006649498959359) 3 (by kernel_rfl) (Nat.le_of_ble_eq_true rfl) (zbi (zv (zm _ _ (Enc.clo _)) (zv (zm _ _ (Enc.clo _)) (zv rfl rfl)))) (by dsimp only [zaf, zae, List.foldl, List.set]; exact (zb rfl (zb rfl (zb rfl (zb rfl (zb rfl (zb rfl (zb (by decide) (zb (zcf (Enc.cloL _)) (zb rfl (zb rfl (zb rfl (zb rfl (zb (zar (Enc.cloL _)) (by kernel_rfl))))))))))))))) (by kernel_rfl)
 refine za7 hc2 rfl ?_
 refine ze (zd ?_)
 refine zad ?_
 refine w_o (a := .b (k == 3)) ?_
 refine zu h (fun hc3 h => ?_) (fun hc3 h => ?_)
 refine w_o (a := .b true) (h := zbs (zak rfl hc3)) ?_
 refine zab rfl rfl ?_
 refine w_o (a := .ptr 3 0) ?_
 refine zab rfl rfl ?_
 refine w_o (a := .u ((x1.k : Nat) : Int)) ?_
 refine zab rfl rfl ?_
 refine w_o (a := .b (((x1.k : Nat) : Int) == 1)) ?_
 refine w_o (a := .b (((x1.k : Nat) : Int) == 1)) ?_
 refine zad ?_
 refine zu h (fun hc4 h => ?_) (fun hc4 h => ?_)
 refine za4 hc4 rfl ?_
 refine zg (o := or2) (s1.1) h ?_
 exact zcn (bl 53 9006649498959359) 3 (by kernel_rfl) (Nat.le_of_ble_eq_true rfl) (zbi (zv (zm _ _ (Enc.clo _)) (zv (zm _ _ (Enc.clo _)) (zv rfl rfl)))) (by dsimp only [zaf, zae, List.foldl, List.set]; exact (zb rfl (zb rfl (zb rfl (zb rfl (zb rfl (zb rfl (zb (by decide) (zb (zcf (Enc.cloL _)) (zb rfl (zb rfl (zb rfl (zb rfl (zb (zar (Enc.cloL _)) (by kernel_rfl))))))))))))))) (by kernel_rfl)
 refine za7 hc4 rfl ?_
 refine zd (k0 := 0) (id := 5) ?_
 refine zad ?_
 refine w_o (a := .agg (Enc.cells (x1 : Tr))) ?_
 refine w_o (a := .list (List.length ([x1] : List Tr)) (Enc.cellsL ([x1] : List Tr)) .full) (h := zbs (zfs (α := Tr) (l := [x1]) (cs := Enc.cells (x1 : Tr) ++ []) rfl (by rw [Enc.cons, Enc.nil]))) ?_
 obtain ⟨g3, h⟩ := zh h
 refine zrl (a := (zff (List.length ((s1.1 ++ [x1]) : List Tr)) (Enc.cellsL ((s1.1 ++ [x1]) : List Tr)))) (σ'' := (zd6 [(30, (Enc.cells (a : Tr))), (30, (Enc.cells (b : Tr))), (30, [.u 0, .raw (.int .u64 0), .raw (.int .u64 0), .raw (.int .u64 0), .raw (.int .u64 0), .i 0, .i 0, .list 0 [] .full]), (30, (Enc.cells (x1 : Tr)))] 30 (List.length ((s1.1 ++ [x1]) : List Tr)) 8)) rfl rfl rfl (zgw rfl rfl rfl rfl (zev (α := Tr) (bs := [(30, (Enc.cells (a : Tr))), (30, (Enc.cells (b : Tr))), (30, [.u 0, .raw (.int .u64 0), .raw (.int .u64 0), .raw (.int .u64 0), .raw (.int .u64 0), .i 0, .i 0, .list 0 [] .full]), (30, (Enc.cells (x1 : Tr)))]) (a := s1.1) (b := [x1]) g3 rfl rfl rfl rfl rfl ⟨rfl, by decide⟩)) (by dsimp only [zp, List.set]) rfl ?_
 refine zad ?_
 refine zg (o := or2) ((s1.1 ++ [x1])) h ?_
 exact zcn (bl 53 9006649498959359) 3 (by kernel_rfl) (Nat.le_of_ble_eq_true rfl) (zbi (zv (zm _ _ (Enc.clo _)) (zv (zm _ _ (Enc.clo _)) (zv rfl rfl)))) (by dsimp only [zaf, zae, List.foldl, List.set]; exact (zb rfl (zb rfl (zb rfl (zb rfl (zb rfl (zb rfl (zb (by decide) (zb (zcf (Enc.cloL _)) (zb rfl (zb rfl (zb rfl (zb rfl (zb (zar (Enc.cloL _)) (by kernel_rfl))))))))))))))) (by kernel_rfl)
 refine w_o (a := .b false) (h := zbs (zak rfl hc3)) ?_
 refine zee ?_
 refine zee ?_
 refine zee ?_
 refine w_o (a := .b false) ?_
 refine zad ?_
 refine zay rfl ?_
 refine zd (k0 := 0) (id := 5) ?_
 refine zad ?_
 refine w_o (a := .agg (Enc.cells (x1 : Tr))) ?_
 refine w_o (a := .list (List.length ([x1] : List Tr)) (Enc.cellsL ([x1] : List Tr)) .full) (h := zbs (zfs (α := Tr) (l := [x1]) (cs := Enc.cells (x1 : Tr) ++ []) rfl (by rw [Enc.cons, Enc.nil]))) ?_
 obtain ⟨g4, h⟩ := zh h
 refine zrl (a := (zff (List.length ((s1.1 ++ [x1]) : List Tr)) (Enc.cellsL ((s1.1 ++ [x1]) : List Tr)))) (σ'' := (zd6 [(30, (Enc.cells (a : Tr))), (30, (Enc.cells (b : Tr))), (30, [.u 0, .raw (.int .u64 0), .raw (.int .u64 0), .raw (.int .u64 0), .raw (.int .u64 0), .i 0, .i 0, .list 0 [] .full]), (30, (Enc.cells (x1 : Tr)))] 30 (List.length ((s1.1 ++ [x1]) : List Tr)) 8)) rfl rfl rfl (zgw rfl rfl rfl rfl (zev (α := Tr) (bs := [(30, (Enc.cells (a : Tr))), (30, (Enc.cells (b : Tr))), (30, [.u 0, .raw (.int .u64 0), .raw (.int .u64 0), .raw (.int .u64 0), .raw (.int .u64 0), .i 0, .i 0, .list 0 [] .full]), (30, (Enc.cells (x1 : Tr)))]) (a := s1.1) (b := [x1]) g4 rfl rfl rfl rfl rfl ⟨rfl, by decide⟩)) (by dsimp only [zp, List.set]) rfl ?_
 refine zad ?_
 refine zg (o := or2) ((s1.1 ++ [x1])) h ?_
 exact zcn (bl 53 9006649498959359) 3 (by kernel_rfl) (Nat.le_of_ble_eq_true rfl) (zbi (zv (zm _ _ (Enc.clo _)) (zv (zm _ _ (Enc.clo _)) (zv rfl rfl)))) (by dsimp only [zaf, zae, List.foldl, List.set]; exact (zb rfl (zb rfl (zb rfl (zb rfl (zb rfl (zb rfl (zb (by decide) (zb (zcf (Enc.cloL _)) (zb rfl (zb rfl (zb rfl (zb rfl (zb (zar (Enc.cloL _)) (by kernel_rfl))))))))))))))) (by kernel_rfl)
 intro j2 h
 refine za0 (by dsimp only [zaf, zae, List.foldl, List.set]) rfl ?_
 refine zd (k0 := 0) (id := 9) ?_
 obtain ⟨g5, h⟩ := zh h
 refine w_o (a := .i (s1.2 + 1)) (h := zbs (zhr rfl rfl rfl rfl g5.1 g5.2)) ?_
 refine zad ?_
 refine zbn (p := p1) (j2, (s1.2 + 1)) h ?_
 exact zc4 (bl 53 28865) (by kernel_rfl) (by kernel_rfl)
 refine za7 hc1 rfl ?_
 refine zac h (fun h => ?_)
 refine zg (o := or1) (s1.1) h ?_
 exact zc4 (bl 53 193) (by kernel_rfl) (by kernel_rfl)
 intro j1 h
 refine za0 (by dsimp only [zaf, zae, List.foldl, List.set]) rfl ?_
 refine ze ?_
 refine ze (zd ?_)
 refine zad ?_
 refine w_o (a := .i (List.length j1 : Int)) (h := zbs (q_lenO (α := Tr) (l := j1) rfl rfl rfl rfl rfl rfl)) ?_
 refine zt ?_
 refine ze (zd ?_)
 refine w_o (a := .b ((List.length j1 : Int) == 0)) ?_
 refine zad ?_
 refine zu h (fun hc5 h => ?_) (fun hc5 h => ?_)
 refine za4 hc5 rfl ?_
 refine ze (zd ?_)
 refine zdz (.agg (Enc.cells ((Tr.mk 1 (0#256) 0 0 []) : Tr))) (a0 := (zbh (Tr.mk 1 (0#256) 0 0 []) .full)) rfl rfl rfl (by kernel_rfl) (zi _ _) (by dsimp only [zp, List.set]) ?_
 refine zbj (σ'' := (zd6 [(30, (Enc.cells (a : Tr))), (30, (Enc.cells (b : Tr))), (30, (Enc.cells ((Tr.mk 1 (0#256) 0 0 []) : Tr)))] 30 (List.length (j1 : List Tr)) 8)) (h := za5 (n := 8) rfl rfl rfl rfl rfl rfl rfl rfl (by decide)) ?_
 exact zca (fun (r : Tr) => (.agg (Enc.cells (r : Tr)) : AV)) h (a := .agg (Enc.cells ((Tr.mk 1 (0#256) 0 0 []) : Tr))) rfl (zn _ _ (zl (Enc.clo _))) (zai (zl (Enc.clo _)))
 refine za7 hc5 rfl ?_
 refine ze (zd ?_)
 refine w_o (a := .b ((List.length j1 : Int) == 1)) ?_
 refine zad ?_
 refine zu h (fun hc6 h => ?_) (fun hc6 h => ?_)
 refine za4 hc6 rfl ?_
 refine ze (zd ?_)
 refine zad ?_
 obtain ⟨g6, h⟩ := zh h
 obtain ⟨x2, hx2, h⟩ := zj h
 refine w_o (a := .iptr (Enc.cells x2 ++ Enc.cellsL (List.drop (Int.toNat (0 : Int) + 1) j1))) (h := zbs (by rw [← hx2]; exact (q_idxO (α := Tr) (l := j1) g6 rfl rfl rfl rfl rfl))) ?_
 refine w_o (a := .agg (Enc.cells (x2 : Tr))) ?_
 refine zbj (σ'' := (zd6 [(30, (Enc.cells (a : Tr))), (30, (Enc.cells (b : Tr))), (30, (Enc.cells (x2 : Tr)))] 30 (List.length (j1 : List Tr)) 8)) (h := za5 (n := 8) rfl rfl rfl rfl rfl rfl rfl rfl (by decide)) ?_
 exact zca (fun (r : Tr) => (.agg (Enc.cells (r : Tr)) : AV)) h (a := .agg (Enc.cells (x2 : Tr))) rfl (zn _ _ (zl (Enc.clo _))) (zai (zl (Enc.clo _)))
 refine za7 hc6 rfl ?_
 refine ze (zd ?_)
 refine zad ?_
 refine zad ?_
 rw [z1e (l := j1) (pos_of0 hc5)]
 obtain ⟨g7, h⟩ := zh h
 refine zdz (.agg (Enc.cells ((Tr.mk (Int.toNat k) (0#256) 0 0 j1) : Tr))) (a0 := (z59 k (0#256) 0 0 j1 (.own 0))) rfl rfl rfl (by kernel_rfl) (zot g7 _ _ _ _ _) (by dsimp only [zp, List.set]) ?_
 refine zbj (σ'' := (zd6 [(30, (Enc.cells (a : Tr))), (30, (Enc.cells (b : Tr))), (30, (Enc.cells ((Tr.mk (Int.toNat k) (0#256) 0 0 j1) : Tr)))] 30 (List.length (j1 : List Tr)) 8)) (h := za5 (n := 8) rfl rfl rfl rfl rfl rfl rfl rfl (by decide)) ?_
 exact zca (fun (r : Tr) => (.agg (Enc.cells (r : Tr)) : AV)) h (a := .agg (Enc.cells ((Tr.mk (Int.toNat k) (0#256) 0 0 j1) : Tr))) rfl (zn _ _ (zl (Enc.clo _))) (zai (zl (Enc.clo _)))
end Go.Ab
