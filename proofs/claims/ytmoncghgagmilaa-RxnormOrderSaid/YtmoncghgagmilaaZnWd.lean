/-
  Made: joins, group, rep; node, rep of the laws.
-/
import Derived.Test.YtmoncghgagmilaaZnW9
import Derived.Test.YtmoncghgagmilaaZdCq
import Derived.Test.YtmoncghgagmilaaZdQr
import Derived.Test.YtmoncghgagmilaaZnV3
set_option linter.unusedSimpArgs false
set_option linter.unusedVariables false
namespace Go.Ab
open Go Go.RowKit Go.Fwd Go.Proofs
theorem q_lenP {α : Type} [Enc α] {P : Program} {ρ : Operand → AV} {σ : St} {o : Oper} {c : Call} {x : Operand} {t e : TypeId} {l : List α} {b sz : Nat} (ho : o.op = .call c) (hc : c.callee = .builtin .len) (ha : c.args.toList = [x]) (ht : c.argTypes.toList = [t]) (hx : ρ x = zxn b l.length sz) (hu : P.underlying t = some (.slice e)) :
 qop P ρ σ o = some (.raw (.int .i64 (l.length : Int))) := by
 cases l with
 | nil =>
  have hx : ρ x = .list 0 [] .full := hx
  simp [qop, ho, hc, ha, ht, hx, z7e, hu]
 | cons y l =>
  have hx : ρ x = .bsl b 0 (l.length + 1) sz false := hx
  simp [qop, ho, hc, ha, ht, hx, z7e, hu]
theorem z3r {α : Type} [Enc α] {l : List α} (h : 0 < l.length) : zee l.length (Enc.cellsL l) = .list l.length (Enc.cellsL l) (.own 0) := by
 unfold zee; rw [if_neg (by omega)]
theorem q_idxO {α : Type} [Enc α] {P : Program} {ρ : Operand → AV} {σ : St} {o : Oper} {t e : TypeId} {x i : Operand} {l : List α} {k : IntKind} {n : Int} (hb : 0 ≤ n ∧ n < l.length) (ho : o.op = .indexAddr t x i) (hx : ρ x = zee l.length (Enc.cellsL l)) (hi : ρ i = .raw (.int k n)) (hu : P.underlying t = some (.slice e)) (hs : zec P e = some (Enc.sz α)) :
 qop P ρ σ o = some (.iptr (Enc.cells (ix l n) ++ Enc.cellsL (l.drop (n.toNat + 1)))) := zf7 hb ho (hx.trans (z3r (by omega))) hi hu hs
theorem pos_of0 {α : Type} {l : List α} (h : ((l.length : Int) == 0) = false) : 0 < l.length := by
 have : ¬ ((l.length : Int) = 0) := by simpa using h
 omega
def lbU (n : Nat) : List UInt8 := (zq7 (n % 12)).map UInt8.ofNat
def zpw (l : List UInt8) : Tr := zq1 (l.map UInt8.toNat)
def clsA : List (List UInt8) := [[97], [98], [97, 98], [99], [97, 98, 99], [98, 99], [10], [0, 255], []]
theorem z12 : ∀ n : Nat, n < 256 → lbU n ∈ clsA ∧ bsOf ((lbU n).map UInt8.toNat) = bsOf (zq7 (n % 12)) := by decide +kernel
theorem clsU_lb (n : Nat) (h : n < 256) : zpw (lbU n) = zq1 (zq7 (n % 12)) := by rw [zpw, zq1, (z12 n h).2]; rfl
noncomputable def run1 (f : Nat) (args : List AV) (r : AV) : Bool := match zjs Try.prog noP (ev Try.prog noP noS 300) f args with
 | some x => zwu x r
 | none => false
theorem zwa {f : Nat} {args : List AV} {r : AV} (h : run1 f args r = true) : Pure (ITP Try.prog) Try.prog f args r := by
 unfold run1 at h
 split at h
 ·rename_i x hx
  rw [z3j _ _ h] at hx
  exact zd7 z4d 300 hx
 ·cases h
theorem let_tab : ((List.range 256).all fun n => run1 21 [.raw (.int .u8 (n : Int))] (.raw (.string (bs (lbU n))))) = true := by kernel_rfl
theorem z3i (n : Int) (h : 0 ≤ n ∧ n < 256) : Pure (ITP Try.prog) Try.prog 21 [.raw (.int .u8 n)] (.raw (.string (bs (lbU n.toNat)))) := by
 obtain ⟨m, rfl⟩ : ∃ m : Nat, n = m := ⟨n.toNat, by omega⟩
 rw [Int.toNat_natCast]
 exact zwa (List.all_eq_true.1 let_tab m (List.mem_range.2 (by omega)))
theorem z1q : (clsA.all fun l => run1 20 [.raw (.string (bs l))] (.agg (Enc.cells (zpw l))) && run1 12 [.raw (.string (bs l))] (.agg (Enc.cells (zpw l)))) = true := by kernel_rfl
theorem zoh (l : List UInt8) (h : l ∈ clsA) : Pure (ITP Try.prog) Try.prog 20 [.raw (.string (bs l))] (.agg (Enc.cells (zpw l))) := zwa (Bool.and_eq_true _ _ ▸ List.all_eq_true.1 z1q l h).1
theorem zo0 (l : List UInt8) (h : l ∈ clsA) : Pure (ITP Try.prog) Try.prog 12 [.raw (.string (bs l))] (.agg (Enc.cells (zpw l))) := zwa (Bool.and_eq_true _ _ ▸ List.all_eq_true.1 z1q l h).2
end Go.Ab
set_option linter.unusedSimpArgs false
set_option linter.unusedVariables false
namespace Go.Ab
open Go Go.RowKit Go.Fwd Go.Proofs
def zgr (fuel : Nat) (k : Int) (a : Tr) (b : Tr) : Option Tr :=
 (zdo (τ := (List Tr)) (zch (β := (List Tr) × Int) (fun s1 => (bif (decide (s1.2 < (List.length [a, b] : Int))) then (zdo (τ := (List Tr)) (chk (0 ≤ s1.2 ∧ s1.2 < (List.length [a, b] : Int)) (zan (ix [a, b] s1.2) (fun x1 => (bif (((x1.k : Nat) : Int) == k) then (chk ((List.length s1.1 + List.length x1.l) * 80 ≤ 140737488355328) (some (Sum.inl ((s1.1 ++ x1.l))))) else (bif (k == 3) then (bif (((x1.k : Nat) : Int) == 1) then (some (Sum.inl (s1.1))) else (chk ((List.length s1.1 + List.length [x1]) * 80 ≤ 140737488355328) (some (Sum.inl ((s1.1 ++ [x1])))))) else (chk ((List.length s1.1 + List.length [x1]) * 80 ≤ 140737488355328) (some (Sum.inl ((s1.1 ++ [x1])))))))))) (fun j2 => (chk (-9223372036854775808 ≤ (s1.2 + 1) ∧ (s1.2 + 1) < 9223372036854775808) (some (Sum.inl (j2, (s1.2 + 1))))))) else (some (Sum.inr (Sum.inl (s1.1)))))) fuel (([] : (List Tr)), 0)) (fun j1 => (bif ((List.length j1 : Int) == 0) then (some (Tr.mk 1 (0#256) 0 0 [])) else (bif ((List.length j1 : Int) == 1) then (chk (0 ≤ (0 : Int) ∧ (0 : Int) < (List.length j1 : Int)) (zan (ix j1 (0 : Int)) (fun x2 => (some x2)))) else (chk (0 ≤ k) (some (Tr.mk (Int.toNat k) (0#256) 0 0 j1)))))))
theorem ent22 : Ent Try.prog 22 := enters_of Try.func22 (by kernel_rfl) rfl
set_option maxRecDepth 100000 in
set_option maxHeartbeats 4000000 in
theorem zkp (fuel : Nat) (k : Int) (a : Tr) (b : Tr) (r : Tr) (h : zgr fuel k a b = some r) : Pure (ITP Try.prog) Try.prog 22 [.raw (.int .u8 k), .agg (Enc.cells (a : Tr)), .agg (Enc.cells (b : Tr))] (.agg (Enc.cells (r : Tr))) := by
 obtain ⟨d, hd⟩ : ∃ d, Try.f22.body = some d := ⟨_, rfl⟩
 refine zh5 mix Try.func22 hd ent22 ?_
 cases hd
 unfold zgr at h
 refine zam (by dsimp only [zbq, Try.f22, List.length_cons, List.length_nil, Nat.zero_add, Nat.reduceAdd, Nat.reduceSub, List.replicate, List.cons_append, List.nil_append]) (by dsimp only [St.empty]) ?_
 refine ze (zc ?_)
 refine zbc (a := .ptr 0 0) (σ'' := ⟨[(30, (Enc.cells (a : Tr)))], [], [], 0, false⟩) ?_
 refine zbc (a := .ptr 1 0) (σ'' := ⟨[(30, (Enc.cells (a : Tr))), (30, (Enc.cells (b : Tr)))], [], [], 0, false⟩) ?_
 refine zbc (a := .ptr 2 0) (σ'' := ⟨[(30, (Enc.cells (a : Tr))), (30, (Enc.cells (b : Tr))), (30, [.u 0, .raw (.int .u64 0), .raw (.int .u64 0), .raw (.int .u64 0), .raw (.int .u64 0), .i 0, .i 0, .list 0 [] .full])], [], [], 0, false⟩) ?_
 refine ze (zc ?_)
 refine w_o (a := .list 0 [] .full) ?_
 refine za0 h [1, 2, 3, 4, 5, 7, 8, 9, 10, 11, 12, 13, 14, 15, 16, 17, 18, 19, 20, 21, 22, 23, 24, 25, 26, 27, 28, 29, 30, 31, 32, 33, 34, 35, 36, 37, 38, 39, 40, 41, 42, 43, 44, 45, 46, 47, 48, 49, 50, 51, 52] (fun j1 => [(7, (zee (List.length (j1 : List Tr)) (Enc.cellsL (j1 : List Tr))))]) (fun j1 => (zc0 [(30, (Enc.cells (a : Tr))), (30, (Enc.cells (b : Tr))), (30, [.u 0, .raw (.int .u64 0), .raw (.int .u64 0), .raw (.int .u64 0), .raw (.int .u64 0), .i 0, .i 0, .list 0 [] .full])] 30 (List.length (j1 : List Tr)) 8)) ?_ ?_
 intro or1 h hr1
 refine ze (zc ?_)
 refine w_o (a := .agg (Enc.cells (a : Tr))) ?_
 refine w_o (a := .agg (Enc.cells (b : Tr))) ?_
 refine w_o (a := .list (List.length ([a, b] : List Tr)) (Enc.cellsL ([a, b] : List Tr)) .full) (h := za2 (zcj (α := Tr) (l := [a, b]) (cs := Enc.cells (a : Tr) ++ (Enc.cells (b : Tr) ++ [])) rfl (by rw [Enc.cons, Enc.cons, Enc.nil]))) ?_
 refine w_o (a := .i (List.length [a, b] : Int)) ?_
 refine w_o (a := .i 0) ?_
 refine zr ?_
 refine zcf h [1, 2, 3, 4, 5, 7, 8, 9, 10, 11, 14, 15, 16, 17, 18, 19, 20, 21, 22, 23, 24, 25, 26, 27, 28, 29, 30, 31, 32, 33, 34, 35, 36, 37, 38, 39, 40, 41, 42, 43, 44, 45, 46, 47, 48, 49, 50, 51, 52] (fun s1 => [(7, (zee (List.length (s1.1 : List Tr)) (Enc.cellsL (s1.1 : List Tr)))), (14, .i s1.2)]) (fun s1 => (zc0 [(30, (Enc.cells (a : Tr))), (30, (Enc.cells (b : Tr))), (30, [.u 0, .raw (.int .u64 0), .raw (.int .u64 0), .raw (.int .u64 0), .raw (.int .u64 0), .i 0, .i 0, .list 0 [] .full])] 30 (List.length (s1.1 : List Tr)) 8)) ?_ ?_
 exact zco (bl 53 28865) (by kernel_rfl) (by kernel_rfl)
 intro s1 p1 h
 refine zam (by dsimp only [zz, zad, List.foldl, List.set]) rfl ?_
 refine ze (zc ?_)
 refine w_o (a := .b (decide (s1.2 < (List.length [a, b] : Int)))) ?_
 refine ze ?_
 refine zu h (fun hc1 h => ?_) (fun hc1 h => ?_)
 refine zaq hc1 rfl ?_
 refine za0 h [7, 9, 15, 16, 17, 18, 19, 20, 21, 22, 23, 24, 25, 26, 27, 28, 29, 30, 31, 32, 33, 34, 35, 36, 37, 38] (fun j2 => [(7, (zee (List.length (j2 : List Tr)) (Enc.cellsL (j2 : List Tr))))]) (fun j2 => (zc0 [(30, (Enc.cells (a : Tr))), (30, (Enc.cells (b : Tr))), (30, [.u 0, .raw (.int .u64 0), .raw (.int .u64 0), .raw (.int .u64 0), .raw (.int .u64 0), .i 0, .i 0, .list 0 [] .full])] 30 (List.length (j2 : List Tr)) 8)) ?_ ?_
 intro or2 h hr2
 refine zr ?_
 refine ze (zc ?_)
 obtain ⟨g1, h⟩ := zh h
 obtain ⟨x1, hx1, h⟩ := zj h
 refine w_o (a := .iptr (Enc.cells x1 ++ Enc.cellsL (List.drop (Int.toNat s1.2 + 1) [a, b]))) (h := za2 (by rw [← hx1]; exact (zf7 (α := Tr) (l := [a, b]) g1 rfl rfl rfl rfl rfl))) ?_
 refine w_o (a := .agg (Enc.cells (x1 : Tr))) ?_
 refine zbc (a := .ptr 3 0) (σ'' := (zc0 [(30, (Enc.cells (a : Tr))), (30, (Enc.cells (b : Tr))), (30, [.u 0, .raw (.int .u64 0), .raw (.int .u64 0), .raw (.int .u64 0), .raw (.int .u64 0), .i 0, .i 0, .list 0 [] .full]), (30, [.u 0, .raw (.int .u64 0), .raw (.int .u64 0), .raw (.int .u64 0), .raw (.int .u64 0), .i 0, .i 0, .list 0 [] .full])] 30 (List.length (s1.1 : List Tr)) 8)) ?_
 refine zbc (σ'' := (zc0 [(30, (Enc.cells (a : Tr))), (30, (Enc.cells (b : Tr))), (30, [.u 0, .raw (.int .u64 0), .raw (.int .u64 0), .raw (.int .u64 0), .raw (.int .u64 0), .i 0, .i 0, .list 0 [] .full]), (30, (Enc.cells (x1 : Tr)))] 30 (List.length (s1.1 : List Tr)) 8)) (h := zar (n := 8) rfl rfl rfl rfl rfl rfl rfl rfl (by decide)) ?_
 refine zr ?_
 refine ze (zc ?_)
 refine w_o (a := .ptr 3 0) ?_
 refine w_o (a := .u ((x1.k : Nat) : Int)) ?_
 refine zab ?_
 refine w_o (a := .b (((x1.k : Nat) : Int) == k)) ?_
 refine zab ?_
 refine zu h (fun hc2 h => ?_) (fun hc2 h => ?_)
 refine zaq hc2 rfl ?_
 refine zc (k0 := 0) (id := 7) ?_
 refine zab ?_
 refine w_o (a := .ptr 3 7) ?_
 refine w_o (a := .list (List.length (x1.l : List Tr)) (Enc.cellsL (x1.l : List Tr)) .none) ?_
 obtain ⟨g2, h⟩ := zh h
 refine zii (a := (zee (List.length ((s1.1 ++ x1.l) : List Tr)) (Enc.cellsL ((s1.1 ++ x1.l) : List Tr)))) (σ'' := (zc0 [(30, (Enc.cells (a : Tr))), (30, (Enc.cells (b : Tr))), (30, [.u 0, .raw (.int .u64 0), .raw (.int .u64 0), .raw (.int .u64 0), .raw (.int .u64 0), .i 0, .i 0, .list 0 [] .full]), (30, (Enc.cells (x1 : Tr)))] 30 (List.length ((s1.1 ++ x1.l) : List Tr)) 8)) rfl rfl rfl (zck rfl rfl rfl rfl (zd2 (α := Tr) (bs := [(30, (Enc.cells (a : Tr))), (30, (Enc.cells (b : Tr))), (30, [.u 0, .raw (.int .u64 0), .raw (.int .u64 0), .raw (.int .u64 0), .raw (.int .u64 0), .i 0, .i 0, .list 0 [] .full]), (30, (Enc.cells (x1 : Tr)))]) (a := s1.1) (b := x1.l) g2 rfl rfl rfl rfl rfl ⟨rfl, by decide⟩)) (by dsimp only [zn, List.set]) rfl ?_
 refine zab ?_
 refine zg (o := or2) ((s1.1 ++ x1.l)) h ?_
 exact zb3 (bl 53 9006649498959359) 3 (by kernel_rfl) (Nat.le_of_ble_eq_true rfl) (zba (zv (zo _ _ (Enc.clo _)) (zv (zo _ _ (Enc.clo _)) (zv rfl rfl)))) (by dsimp only [zz, zad, List.foldl, List.set]; exact (zb rfl (zb rfl (zb rfl (zb rfl (zb rfl (zb rfl (zb (by decide) (zb (zbp (Enc.cloL _)) (zb rfl (zb rfl (zb rfl (zb rfl (zb (zah (Enc.cloL _)) (by kernel_rfl))))))))))))))) (by kernel_rfl)
 refine zat hc2 rfl ?_
 refine ze (zc ?_)
 refine zab ?_
 refine w_o (a := .b (k == 3)) ?_
 refine zu h (fun hc3 h => ?_) (fun hc3 h => ?_)
 refine w_o (a := .b true) (h := za2 (zbg rfl hc3)) ?_
 refine zac rfl rfl ?_
 refine w_o (a := .ptr 3 0) ?_
 refine zac rfl rfl ?_
 refine w_o (a := .u ((x1.k : Nat) : Int)) ?_
 refine zac rfl rfl ?_
 refine w_o (a := .b (((x1.k : Nat) : Int) == 1)) ?_
 refine w_o (a := .b (((x1.k : Nat) : Int) == 1)) ?_
 refine zab ?_
 refine zu h (fun hc4 h => ?_) (fun hc4 h => ?_)
 refine zaq hc4 rfl ?_
 refine zg (o := or2) (s1.1) h ?_
 exact zb3 (bl 53 9006649498959359) 3 (by kernel_rfl) (Nat.le_of_ble_eq_true rfl) (zba (zv (zo _ _ (Enc.clo _)) (zv (zo _ _ (Enc.clo _)) (zv rfl rfl)))) (by dsimp only [zz, zad, List.foldl, List.set]; exact (zb rfl (zb rfl (zb rfl (zb rfl (zb rfl (zb rfl (zb (by decide) (zb (zbp (Enc.cloL _)) (zb rfl (zb rfl (zb rfl (zb rfl (zb (zah (Enc.cloL _)) (by kernel_rfl))))))))))))))) (by kernel_rfl)
 refine zat hc4 rfl ?_
 refine zc (k0 := 0) (id := 5) ?_
 refine zab ?_
 refine w_o (a := .agg (Enc.cells (x1 : Tr))) ?_
 refine w_o (a := .list (List.length ([x1] : List Tr)) (Enc.cellsL ([x1] : List Tr)) .full) (h := za2 (zcj (α := Tr) (l := [x1]) (cs := Enc.cells (x1 : Tr) ++ []) rfl (by rw [Enc.cons, Enc.nil]))) ?_
 obtain ⟨g3, h⟩ := zh h
 refine zii (a := (zee (List.length ((s1.1 ++ [x1]) : List Tr)) (Enc.cellsL ((s1.1 ++ [x1]) : List Tr)))) (σ'' := (zc0 [(30, (Enc.cells (a : Tr))), (30, (Enc.cells (b : Tr))), (30, [.u 0, .raw (.int .u64 0), .raw (.int .u64 0), .raw (.int .u64 0), .raw (.int .u64 0), .i 0, .i 0, .list 0 [] .full]), (30, (Enc.cells (x1 : Tr)))] 30 (List.length ((s1.1 ++ [x1]) : List Tr)) 8)) rfl rfl rfl (zck rfl rfl rfl rfl (zd2 (α := Tr) (bs := [(30, (Enc.cells (a : Tr))), (30, (Enc.cells (b : Tr))), (30, [.u 0, .raw (.int .u64 0), .raw (.int .u64 0), .raw (.int .u64 0), .raw (.int .u64 0), .i 0, .i 0, .list 0 [] .full]), (30, (Enc.cells (x1 : Tr)))]) (a := s1.1) (b := [x1]) g3 rfl rfl rfl rfl rfl ⟨rfl, by decide⟩)) (by dsimp only [zn, List.set]) rfl ?_
 refine zab ?_
 refine zg (o := or2) ((s1.1 ++ [x1])) h ?_
 exact zb3 (bl 53 9006649498959359) 3 (by kernel_rfl) (Nat.le_of_ble_eq_true rfl) (zba (zv (zo _ _ (Enc.clo _)) (zv (zo _ _ (Enc.clo _)) (zv rfl rfl)))) (by dsimp only [zz, zad, List.foldl, List.set]; exact (zb rfl (zb rfl (zb rfl (zb rfl (zb rfl (zb rfl (zb (by decide) (zb (zbp (Enc.cloL _)) (zb rfl (zb rfl (zb rfl (zb rfl (zb (zah (Enc.cloL _)) (by kernel_rfl))))))))))))))) (by kernel_rfl)
 refine w_o (a := .b false) (h := za2 (zbg rfl hc3)) ?_
 refine zdw ?_
 refine zdw ?_
 refine zdw ?_
 refine w_o (a := .b false) ?_
 refine zab ?_
 refine zav rfl ?_
 refine zc (k0 := 0) (id := 5) ?_
 refine zab ?_
 refine w_o (a := .agg (Enc.cells (x1 : Tr))) ?_
 refine w_o (a := .list (List.length ([x1] : List Tr)) (Enc.cellsL ([x1] : List Tr)) .full) (h := za2 (zcj (α := Tr) (l := [x1]) (cs := Enc.cells (x1 : Tr) ++ []) rfl (by rw [Enc.cons, Enc.nil]))) ?_
 obtain ⟨g4, h⟩ := zh h
 refine zii (a := (zee (List.length ((s1.1 ++ [x1]) : List Tr)) (Enc.cellsL ((s1.1 ++ [x1]) : List Tr)))) (σ'' := (zc0 [(30, (Enc.cells (a : Tr))), (30, (Enc.cells (b : Tr))), (30, [.u 0, .raw (.int .u64 0), .raw (.int .u64 0), .raw (.int .u64 0), .raw (.int .u64 0), .i 0, .i 0, .list 0 [] .full]), (30, (Enc.cells (x1 : Tr)))] 30 (List.length ((s1.1 ++ [x1]) : List Tr)) 8)) rfl rfl rfl (zck rfl rfl rfl rfl (zd2 (α := Tr) (bs := [(30, (Enc.cells (a : Tr))), (30, (Enc.cells (b : Tr))), (30, [.u 0, .raw (.int .u64 0), .raw (.int .u64 0), .raw (.int .u64 0), .raw (.int .u64 0), .i 0, .i 0, .list 0 [] .full]), (30, (Enc.cells (x1 : Tr)))]) (a := s1.1) (b := [x1]) g4 rfl rfl rfl rfl rfl ⟨rfl, by decide⟩)) (by dsimp only [zn, List.set]) rfl ?_
 refine zab ?_
 refine zg (o := or2) ((s1.1 ++ [x1])) h ?_
 exact zb3 (bl 53 9006649498959359) 3 (by kernel_rfl) (Nat.le_of_ble_eq_true rfl) (zba (zv (zo _ _ (Enc.clo _)) (zv (zo _ _ (Enc.clo _)) (zv rfl rfl)))) (by dsimp only [zz, zad, List.foldl, List.set]; exact (zb rfl (zb rfl (zb rfl (zb rfl (zb rfl (zb rfl (zb (by decide) (zb (zbp (Enc.cloL _)) (zb rfl (zb rfl (zb rfl (zb rfl (zb (zah (Enc.cloL _)) (by kernel_rfl))))))))))))))) (by kernel_rfl)
 intro j2 h
 refine zam (by dsimp only [zz, zad, List.foldl, List.set]) rfl ?_
 refine zc (k0 := 0) (id := 9) ?_
 obtain ⟨g5, h⟩ := zh h
 refine w_o (a := .i (s1.2 + 1)) (h := za2 (zgv rfl rfl rfl rfl g5.1 g5.2)) ?_
 refine zab ?_
 refine zbb (p := p1) (j2, (s1.2 + 1)) h ?_
 exact zco (bl 53 28865) (by kernel_rfl) (by kernel_rfl)
 refine zat hc1 rfl ?_
 refine zae h (fun h => ?_)
 refine zg (o := or1) (s1.1) h ?_
 exact zco (bl 53 193) (by kernel_rfl) (by kernel_rfl)
 intro j1 h
 refine zam (by dsimp only [zz, zad, List.foldl, List.set]) rfl ?_
 refine ze ?_
 refine ze (zc ?_)
 refine zab ?_
 refine w_o (a := .i (List.length j1 : Int)) (h := za2 (z7v (α := Tr) (l := j1) rfl rfl rfl rfl rfl rfl)) ?_
 refine zr ?_
 refine ze (zc ?_)
 refine w_o (a := .b ((List.length j1 : Int) == 0)) ?_
 refine zab ?_
 refine zu h (fun hc5 h => ?_) (fun hc5 h => ?_)
 refine zaq hc5 rfl ?_
 refine ze (zc ?_)
 refine zcd (.agg (Enc.cells ((Tr.mk 1 (0#256) 0 0 []) : Tr))) (a0 := (zbf (Tr.mk 1 (0#256) 0 0 []) .full)) rfl rfl rfl (by kernel_rfl) (zi _ _) (by dsimp only [zn, List.set]) ?_
 refine zbc (σ'' := (zc0 [(30, (Enc.cells (a : Tr))), (30, (Enc.cells (b : Tr))), (30, (Enc.cells ((Tr.mk 1 (0#256) 0 0 []) : Tr)))] 30 (List.length (j1 : List Tr)) 8)) (h := zar (n := 8) rfl rfl rfl rfl rfl rfl rfl rfl (by decide)) ?_
 exact zb5 (fun (r : Tr) => (.agg (Enc.cells (r : Tr)) : AV)) h (a := .agg (Enc.cells ((Tr.mk 1 (0#256) 0 0 []) : Tr))) rfl (zm _ _ (zl (Enc.clo _))) (zaf (zl (Enc.clo _)))
 refine zat hc5 rfl ?_
 refine ze (zc ?_)
 refine w_o (a := .b ((List.length j1 : Int) == 1)) ?_
 refine zab ?_
 refine zu h (fun hc6 h => ?_) (fun hc6 h => ?_)
 refine zaq hc6 rfl ?_
 refine ze (zc ?_)
 refine zab ?_
 obtain ⟨g6, h⟩ := zh h
 obtain ⟨x2, hx2, h⟩ := zj h
 refine w_o (a := .iptr (Enc.cells x2 ++ Enc.cellsL (List.drop (Int.toNat (0 : Int) + 1) j1))) (h := za2 (by rw [← hx2]; exact (q_idxO (α := Tr) (l := j1) g6 rfl rfl rfl rfl rfl))) ?_
 refine w_o (a := .agg (Enc.cells (x2 : Tr))) ?_
 refine zbc (σ'' := (zc0 [(30, (Enc.cells (a : Tr))), (30, (Enc.cells (b : Tr))), (30, (Enc.cells (x2 : Tr)))] 30 (List.length (j1 : List Tr)) 8)) (h := zar (n := 8) rfl rfl rfl rfl rfl rfl rfl rfl (by decide)) ?_
 exact zb5 (fun (r : Tr) => (.agg (Enc.cells (r : Tr)) : AV)) h (a := .agg (Enc.cells (x2 : Tr))) rfl (zm _ _ (zl (Enc.clo _))) (zaf (zl (Enc.clo _)))
 refine zat hc6 rfl ?_
 refine ze (zc ?_)
 refine zab ?_
 refine zab ?_
 rw [z3r (l := j1) (pos_of0 hc5)]
 obtain ⟨g7, h⟩ := zh h
 refine zcd (.agg (Enc.cells ((Tr.mk (Int.toNat k) (0#256) 0 0 j1) : Tr))) (a0 := (z6b k (0#256) 0 0 j1 (.own 0))) rfl rfl rfl (by kernel_rfl) (zpq g7 _ _ _ _ _) (by dsimp only [zn, List.set]) ?_
 refine zbc (σ'' := (zc0 [(30, (Enc.cells (a : Tr))), (30, (Enc.cells (b : Tr))), (30, (Enc.cells ((Tr.mk (Int.toNat k) (0#256) 0 0 j1) : Tr)))] 30 (List.length (j1 : List Tr)) 8)) (h := zar (n := 8) rfl rfl rfl rfl rfl rfl rfl rfl (by decide)) ?_
 exact zb5 (fun (r : Tr) => (.agg (Enc.cells (r : Tr)) : AV)) h (a := .agg (Enc.cells ((Tr.mk (Int.toNat k) (0#256) 0 0 j1) : Tr))) rfl (zm _ _ (zl (Enc.clo _))) (zaf (zl (Enc.clo _)))
end Go.Ab
