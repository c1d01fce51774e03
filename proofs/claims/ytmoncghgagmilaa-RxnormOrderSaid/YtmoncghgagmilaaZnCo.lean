/-
  slices.Concat of three lists of nodes; slices.Grow of nothing.
-/
import Derived.Shelf.Spec.SlicesGrow
import Derived.Test.YtmoncghgagmilaaProg
import Derived.Test.YtmoncghgagmilaaZnW9
import Derived.Test.YtmoncghgagmilaaZdQr
import Derived.Test.YtmoncghgagmilaaZnV3
set_option linter.unusedSimpArgs false
set_option linter.unusedVariables false
namespace Go.Proofs
open Go.Shelf
def Try.growL_ren : Go.Shelf.Ren := ⟨fun | 4 => 66 | n => n, fun | 22 => 24 | 25 => 30 | n => n, fun n => n⟩
theorem Try.growL : Go.Proofs.Lays8.n4 Try.prog Try.growL_ren := {
 mixed := by kernel_rfl
 f4 := ⟨Try.f66.name, by decide, Try.func66.trans (congrArg some (by kernel_rfl))⟩
 t0 := Try.underlying0
 a0 := Try.isAgg0
 z0 := Try.sizeOf0
 v0 := Try.zeroValue0
 t3 := Try.underlying3
 a3 := Try.isAgg3
 z3 := Try.sizeOf3
 v3 := Try.zeroValue3
 t4 := Try.underlying4
 a4 := Try.isAgg4
 z4 := Try.sizeOf4
 v4 := Try.zeroValue4
 t9 := Try.underlying9
 a9 := Try.isAgg9
 z9 := Try.sizeOf9
 v9 := Try.zeroValue9
 t20 := Try.underlying20
 a20 := Try.isAgg20
 z20 := Try.sizeOf20
 v20 := Try.zeroValue20
 t22 := Try.underlying24
 a22 := Try.isAgg24
 z22 := Try.sizeOf24
 v22 := Try.zeroValue24 }
end Go.Proofs
set_option linter.unusedSimpArgs false
set_option linter.unusedVariables false
namespace Go.Ab
open Go Go.RowKit Go.Fwd Go.Proofs
section
variable {IT : IterP} {P : Program} {W : Owed} {k0 : Nat}
theorem zyo {x : Code} {Q : AQ} {S : List AV} {σ : St} (m : Nat) (h : awp IT P W k0 x (zng (zia (awp IT P W k0 x) Q k0 m) Q) S σ) : awp IT P W k0 (.loop x) Q S σ := ⟨m + 1, S, σ, Wk.refl _ _ _, h⟩
theorem zmn {x : Code} {Q : AQ} {S : List AV} {σ : St} (m : Nat) (h : awp IT P W k0 x (zng (zia (awp IT P W k0 x) Q k0 m) Q) S σ) : zia (awp IT P W k0 x) Q k0 (m + 1) S σ := ⟨S, σ, Wk.refl _ _ _, h⟩
end
instance : Enc (List Tr) where
 inh := []
 cells x := [.list x.length (Enc.cellsL x) .none]
 cellsL l := l.map fun x => .list x.length (Enc.cellsL x) .none
 sz := 1
 pos := by decide
 nil := rfl
 cons _ _ := rfl
 len _ := rfl
 clo x := zs6 (zcu (Enc.cloL x)) rfl
def zz1 (P : Program) (t : TypeId) (σ : St) (a : AV) (l : List Tr) (σ' : St) (a' : AV) : Prop :=
 ∀ (ρ : Operand → AV) (o : Oper) (c : Call) (p q : Operand), o.op = .call c → c.callee = .builtin .append → c.args.toList = [p, q] → c.argTypes.toList = [t, t] → ρ p = a → ρ q = .list l.length (Enc.cellsL l) .none → AopR P ρ σ o a' σ'
theorem ent66 : Ent Try.prog 66 := enters_of Try.func66 (by kernel_rfl) rfl
theorem ent57 : Ent Try.prog 57 := enters_of Try.func57 (by kernel_rfl) rfl
set_option maxRecDepth 100000 in
set_option maxHeartbeats 4000000 in
theorem zh8 (x y z : List Tr) (a0 a1 a2 a3 : AV) (σ0 σ1 σ2 σ3 : St) (hn : x.length + y.length + z.length < 9223372036854775807)
 (hG : Snd (ITP Try.prog) Try.prog 66 [.list 0 [] .full, .raw (.int .i64 (0 + (x.length : Int) + (y.length : Int) + (z.length : Int)))] ⟨[], [], [], 0, false⟩ a0 σ0) (h0 : σ0.out = 0 ∧ σ0.stop = false)
 (h01 : zz1 Try.prog 24 σ0 a0 x σ1 a1) (h12 : zz1 Try.prog 24 σ1 a1 y σ2 a2) (h23 : zz1 Try.prog 24 σ2 a2 z σ3 a3)
 (hend : zdu (frz σ3.boxes 1) a3 = .list (x ++ y ++ z).length (Enc.cellsL (x ++ y ++ z)) .none) :
 Pure (ITP Try.prog) Try.prog 57 [.list (List.length [x, y, z]) (Enc.cellsL [x, y, z]) .none] (.list (x ++ y ++ z).length (Enc.cellsL (x ++ y ++ z)) .none) := by
 obtain ⟨d, hd⟩ : ∃ d, Try.f57.body = some d := ⟨_, rfl⟩
 refine zh5 mix Try.func57 hd ent57 ?_
 cases hd
 refine zam (by dsimp only [zbq, Try.f57, List.length_cons, List.length_nil, Nat.zero_add, Nat.reduceAdd, Nat.reduceSub, List.replicate, List.cons_append, List.nil_append]) (by dsimp only [St.empty]) ?_
 refine ze (zc ?_)
 refine zez (a := .list 0 [] .full) rfl rfl rfl rfl (by dsimp only [zn, List.set]) ?_
 refine ze (zc ?_)
 refine zez (a := .raw (.int .i64 0)) rfl rfl rfl rfl (by dsimp only [zn, List.set]) ?_
 refine ze ?_
 refine ze (zc ?_)
 refine zab ?_
 refine zez (a := .raw (.int .i64 3)) rfl rfl rfl rfl (by dsimp only [zn, List.set]) ?_
 refine zez (a := .raw (.int .i64 0)) rfl rfl rfl rfl (by dsimp only [zn, List.set]) ?_
 refine zr ?_
 refine zyo 3 ?_
 refine ze (zc ?_)
 refine zez (a := .raw (.bool true)) rfl rfl rfl rfl (by dsimp only [zn, List.set]) ?_
 refine ze ?_
 refine zaq rfl rfl ?_
 refine ze ?_
 refine zr ?_
 refine ze (zc ?_)
 refine zez (a := .iptr (Enc.cells (ix [x, y, z] 0) ++ Enc.cellsL (List.drop (Int.toNat 0 + 1) [x, y, z]))) rfl rfl rfl (za2 (zf7 (α := List Tr) (l := [x, y, z]) ⟨by decide, by simp⟩ rfl rfl rfl rfl rfl)) (by dsimp only [zn, List.set]) ?_
 refine zez (a := .list x.length (Enc.cellsL x) .none) rfl rfl rfl rfl (by dsimp only [zn, List.set]) ?_
 refine zab ?_
 refine ze (zc ?_)
 refine zab ?_
 refine zab ?_
 refine zez (a := .raw (.int .i64 (x.length : Int))) rfl rfl rfl rfl (by dsimp only [zn, List.set]) ?_
 refine zez (a := .raw (.int .i64 (0 + (x.length : Int)))) rfl rfl rfl (za2 (zgv rfl rfl rfl rfl (by omega) (by omega))) (by dsimp only [zn, List.set]) ?_
 refine zab ?_
 refine ze (zc ?_)
 refine zab ?_
 refine zez (a := .raw (.bool (decide ((0 + (x.length : Int)) < 0)))) rfl rfl rfl rfl (by dsimp only [zn, List.set]) ?_
 refine zat (show decide ((0 + (x.length : Int)) < 0) = false from decide_eq_false (by omega)) rfl ?_
 refine zc (k0 := 0) (id := 8) ?_
 refine zez (a := .raw (.int .i64 (0 + 1))) rfl rfl rfl (za2 (zgv rfl rfl rfl rfl (by decide) (by decide))) (by dsimp only [zn, List.set]) ?_
 refine zab ?_
 refine zmn 2 ?_
 refine ze (zc ?_)
 refine zez (a := .raw (.bool true)) rfl rfl rfl rfl (by dsimp only [zn, List.set]) ?_
 refine ze ?_
 refine zaq rfl rfl ?_
 refine ze ?_
 refine zr ?_
 refine ze (zc ?_)
 refine zez (a := .iptr (Enc.cells (ix [x, y, z] 1) ++ Enc.cellsL (List.drop (Int.toNat 1 + 1) [x, y, z]))) rfl rfl rfl (za2 (zf7 (α := List Tr) (l := [x, y, z]) ⟨by decide, by simp⟩ rfl rfl rfl rfl rfl)) (by dsimp only [zn, List.set]) ?_
 refine zez (a := .list y.length (Enc.cellsL y) .none) rfl rfl rfl rfl (by dsimp only [zn, List.set]) ?_
 refine zab ?_
 refine ze (zc ?_)
 refine zab ?_
 refine zab ?_
 refine zez (a := .raw (.int .i64 (y.length : Int))) rfl rfl rfl rfl (by dsimp only [zn, List.set]) ?_
 refine zez (a := .raw (.int .i64 ((0 + (x.length : Int)) + (y.length : Int)))) rfl rfl rfl (za2 (zgv rfl rfl rfl rfl (by omega) (by omega))) (by dsimp only [zn, List.set]) ?_
 refine zab ?_
 refine ze (zc ?_)
 refine zab ?_
 refine zez (a := .raw (.bool (decide (((0 + (x.length : Int)) + (y.length : Int)) < 0)))) rfl rfl rfl rfl (by dsimp only [zn, List.set]) ?_
 refine zat (show decide (((0 + (x.length : Int)) + (y.length : Int)) < 0) = false from decide_eq_false (by omega)) rfl ?_
 refine zc (k0 := 0) (id := 8) ?_
 refine zez (a := .raw (.int .i64 (1 + 1))) rfl rfl rfl (za2 (zgv rfl rfl rfl rfl (by decide) (by decide))) (by dsimp only [zn, List.set]) ?_
 refine zab ?_
 refine zmn 1 ?_
 refine ze (zc ?_)
 refine zez (a := .raw (.bool true)) rfl rfl rfl rfl (by dsimp only [zn, List.set]) ?_
 refine ze ?_
 refine zaq rfl rfl ?_
 refine ze ?_
 refine zr ?_
 refine ze (zc ?_)
 refine zez (a := .iptr (Enc.cells (ix [x, y, z] 2) ++ Enc.cellsL (List.drop (Int.toNat 2 + 1) [x, y, z]))) rfl rfl rfl (za2 (zf7 (α := List Tr) (l := [x, y, z]) ⟨by decide, by simp⟩ rfl rfl rfl rfl rfl)) (by dsimp only [zn, List.set]) ?_
 refine zez (a := .list z.length (Enc.cellsL z) .none) rfl rfl rfl rfl (by dsimp only [zn, List.set]) ?_
 refine zab ?_
 refine ze (zc ?_)
 refine zab ?_
 refine zab ?_
 refine zez (a := .raw (.int .i64 (z.length : Int))) rfl rfl rfl rfl (by dsimp only [zn, List.set]) ?_
 refine zez (a := .raw (.int .i64 (((0 + (x.length : Int)) + (y.length : Int)) + (z.length : Int)))) rfl rfl rfl (za2 (zgv rfl rfl rfl rfl (by omega) (by omega))) (by dsimp only [zn, List.set]) ?_
 refine zab ?_
 refine ze (zc ?_)
 refine zab ?_
 refine zez (a := .raw (.bool (decide ((((0 + (x.length : Int)) + (y.length : Int)) + (z.length : Int)) < 0)))) rfl rfl rfl rfl (by dsimp only [zn, List.set]) ?_
 refine zat (show decide ((((0 + (x.length : Int)) + (y.length : Int)) + (z.length : Int)) < 0) = false from decide_eq_false (by omega)) rfl ?_
 refine zc (k0 := 0) (id := 8) ?_
 refine zez (a := .raw (.int .i64 (2 + 1))) rfl rfl rfl (za2 (zgv rfl rfl rfl rfl (by decide) (by decide))) (by dsimp only [zn, List.set]) ?_
 refine zab ?_
 refine zmn 0 ?_
 refine ze (zc ?_)
 refine zez (a := .raw (.bool false)) rfl rfl rfl rfl (by dsimp only [zn, List.set]) ?_
 refine ze ?_
 refine zat rfl rfl ?_
 refine ze (zc ?_)
 refine zab ?_
 refine zvl (r := a0) (σ' := σ0) hG rfl rfl h0 (by dsimp only [zn, List.set]) ?_
 refine zab ?_
 refine ze ?_
 refine ze (zc ?_)
 refine zab ?_
 refine zez (a := .raw (.int .i64 3)) rfl rfl rfl rfl (by dsimp only [zn, List.set]) ?_
 refine zez (a := .raw (.int .i64 0)) rfl rfl rfl rfl (by dsimp only [zn, List.set]) ?_
 refine zr ?_
 refine zyo 3 ?_
 refine ze (zc ?_)
 refine zez (a := .raw (.bool true)) rfl rfl rfl rfl (by dsimp only [zn, List.set]) ?_
 refine ze ?_
 refine zaq rfl rfl ?_
 refine ze ?_
 refine zr ?_
 refine ze (zc ?_)
 refine zez (a := .iptr (Enc.cells (ix [x, y, z] 0) ++ Enc.cellsL (List.drop (Int.toNat 0 + 1) [x, y, z]))) rfl rfl rfl (za2 (zf7 (α := List Tr) (l := [x, y, z]) ⟨by decide, by simp⟩ rfl rfl rfl rfl rfl)) (by dsimp only [zn, List.set]) ?_
 refine zez (a := .list x.length (Enc.cellsL x) .none) rfl rfl rfl rfl (by dsimp only [zn, List.set]) ?_
 refine zab ?_
 refine zc (k0 := 0) (id := 13) ?_
 refine zab ?_
 refine zab ?_
 refine w_opR rfl rfl rfl (h01 _ _ _ _ _ rfl rfl rfl rfl rfl rfl) (by dsimp only [zn, List.set]) ?_
 refine zab ?_
 refine zc (k0 := 0) (id := 14) ?_
 refine zez (a := .raw (.int .i64 (0 + 1))) rfl rfl rfl (za2 (zgv rfl rfl rfl rfl (by decide) (by decide))) (by dsimp only [zn, List.set]) ?_
 refine zab ?_
 refine zmn 2 ?_
 refine ze (zc ?_)
 refine zez (a := .raw (.bool true)) rfl rfl rfl rfl (by dsimp only [zn, List.set]) ?_
 refine ze ?_
 refine zaq rfl rfl ?_
 refine ze ?_
 refine zr ?_
 refine ze (zc ?_)
 refine zez (a := .iptr (Enc.cells (ix [x, y, z] 1) ++ Enc.cellsL (List.drop (Int.toNat 1 + 1) [x, y, z]))) rfl rfl rfl (za2 (zf7 (α := List Tr) (l := [x, y, z]) ⟨by decide, by simp⟩ rfl rfl rfl rfl rfl)) (by dsimp only [zn, List.set]) ?_
 refine zez (a := .list y.length (Enc.cellsL y) .none) rfl rfl rfl rfl (by dsimp only [zn, List.set]) ?_
 refine zab ?_
 refine zc (k0 := 0) (id := 13) ?_
 refine zab ?_
 refine zab ?_
 refine w_opR rfl rfl rfl (h12 _ _ _ _ _ rfl rfl rfl rfl rfl rfl) (by dsimp only [zn, List.set]) ?_
 refine zab ?_
 refine zc (k0 := 0) (id := 14) ?_
 refine zez (a := .raw (.int .i64 (1 + 1))) rfl rfl rfl (za2 (zgv rfl rfl rfl rfl (by decide) (by decide))) (by dsimp only [zn, List.set]) ?_
 refine zab ?_
 refine zmn 1 ?_
 refine ze (zc ?_)
 refine zez (a := .raw (.bool true)) rfl rfl rfl rfl (by dsimp only [zn, List.set]) ?_
 refine ze ?_
 refine zaq rfl rfl ?_
 refine ze ?_
 refine zr ?_
 refine ze (zc ?_)
 refine zez (a := .iptr (Enc.cells (ix [x, y, z] 2) ++ Enc.cellsL (List.drop (Int.toNat 2 + 1) [x, y, z]))) rfl rfl rfl (za2 (zf7 (α := List Tr) (l := [x, y, z]) ⟨by decide, by simp⟩ rfl rfl rfl rfl rfl)) (by dsimp only [zn, List.set]) ?_
 refine zez (a := .list z.length (Enc.cellsL z) .none) rfl rfl rfl rfl (by dsimp only [zn, List.set]) ?_
 refine zab ?_
 refine zc (k0 := 0) (id := 13) ?_
 refine zab ?_
 refine zab ?_
 refine w_opR rfl rfl rfl (h23 _ _ _ _ _ rfl rfl rfl rfl rfl rfl) (by dsimp only [zn, List.set]) ?_
 refine zab ?_
 refine zc (k0 := 0) (id := 14) ?_
 refine zez (a := .raw (.int .i64 (2 + 1))) rfl rfl rfl (za2 (zgv rfl rfl rfl rfl (by decide) (by decide))) (by dsimp only [zn, List.set]) ?_
 refine zab ?_
 refine zmn 0 ?_
 refine ze (zc ?_)
 refine zez (a := .raw (.bool false)) rfl rfl rfl rfl (by dsimp only [zn, List.set]) ?_
 refine ze ?_
 refine zat rfl rfl ?_
 refine ze (zc ?_)
 refine zab ?_
 refine zab ?_
 exact end_frz 1 rfl hend
set_option maxRecDepth 100000 in
theorem z61 : ∃ i z, Try.prog.info? 30 = some i ∧ i.zero = some z ∧ i.size = 8 ∧ z.cells.size = 8 ∧ i.bytes = 80 ∧ ∀ v ∈ z.cells.toList, v.oneCell' = true :=
 ⟨_, _, rfl, rfl, rfl, rfl, rfl, by decide⟩
theorem zla {zero : Array Value} {n : Nat} (h0 : 0 < zero.size) {v : Value} (h : v ∈ (Builtin.zeroCells zero n).toList) : v ∈ zero.toList := by
 unfold Builtin.zeroCells at h
 rw [Array.mem_toList_iff, Array.mem_map] at h
 obtain ⟨i, _, rfl⟩ := h
 have : i % zero.size < zero.size := Nat.mod_lt _ h0
 rw [getElem!_pos zero _ this]
 exact Array.mem_toList_iff.2 (Array.getElem_mem _)
theorem z2s (n : Nat) (h0 : 0 < n) (hb : n * 80 ≤ 140737488355328) : Snd (ITP Try.prog) Try.prog 66 [.list 0 [] .full, .raw (.int .i64 (n : Int))] ⟨[], [], [], 0, false⟩ (.bsl 0 0 0 8 false) ⟨[(30, [.top])], [], [], 0, false⟩ := by
 obtain ⟨i0, z, hi0, hz, hsz, hzc, hby, hone⟩ := z61
 refine ⟨ent66, fun X us hI hr => ?_⟩
 obtain ⟨v, r1, rfl, hv, u, r2, rfl, hu, hn⟩ := hr
 rw [za9] at hn
 subst hn
 have hu : u = .int .i64 (n : Int) := hu
 subst hu
 rw [Rep] at hv
 obtain ⟨a, cap, rfl, ⟨_, hnil⟩, _, rfl⟩ := hv
 have hmx : n ≤ 4611686018427387904 := by omega
 refine (Any8.slices_Grow_grow Try.growL i0 z hi0 hz (by omega) a 0 0 n [] X.w (by omega) (by omega) (by rw [hby]; omega) (by omega) (by simp) (fun _ => rfl) (by simp)).mono ?_
 rintro e w' ⟨rfl, rfl⟩
 obtain ⟨d1, d2⟩ := zn0 (zas Try.prog) hI
 have hG : n ≤ grownCap X.w (0 + n) 0 (Try.growL_ren.t 25) := by have := grownCap_ge X.w (0 + n) 0 (Try.growL_ren.t 25); omega
 generalize grownCap X.w (0 + n) 0 (Try.growL_ren.t 25) = G at hG ⊢
 have hsize : ∀ k, (Builtin.zeroCells z.cells k).size = k * 8 := fun k => by rw [size_zeroCells, hzc]
 obtain ⟨row, hrow⟩ : ∃ row : List Value, row = (#[] ++ Builtin.zeroCells z.cells (0 + n - 0) ++ Builtin.zeroCells z.cells (G - (0 + n)) : Array Value).toList := ⟨_, rfl⟩
 have hlen : row.length = G * 8 := by
  rw [hrow, Array.length_toList, Array.size_append, Array.size_append, hsize, hsize]
  simp; omega
 have hmem : ∀ v ∈ row, v.oneCell' = true := fun v hv => by
  rw [hrow] at hv
  simp only [Array.toList_append, List.mem_append] at hv
  rcases hv with (hv | hv) | hv
  ·simp at hv
  ·exact hone v (zla (by omega) hv)
  ·exact hone v (zla (by omega) hv)
 have harr : (([] : List Value).toArray ++ Builtin.zeroCells z.cells (0 + n - 0) ++ Builtin.zeroCells z.cells (G - (0 + n)) : Array Value) = row.toArray := by rw [hrow, Array.toArray_toList]
 obtain ⟨v0, rest, rfl⟩ : ∃ v0 rest, row = v0 :: rest := by
  cases row with
  | nil => simp at hlen; omega
  | cons a l => exact ⟨a, l, rfl⟩
 obtain ⟨X', x1, x2, x3, x4⟩ := zrn (zas Try.prog) d2 (t := 30) (cs := [.top]) (vs := [v0]) rest ⟨v0, [], rfl, trivial, rfl⟩ (fun v hv => hmem v (by simp at hv; subst hv; exact List.mem_cons_self))
 refine ⟨_, X', rfl, ?_, d1.trans x2, x3, ?_⟩
 ·rw [x1, harr]; rfl
 ·obtain ⟨b, hb1, hb2⟩ : ∃ b, X'.κ[0]? = some b ∧ Value.pointer (some ⟨X.w.heap.size, 0, none⟩) = .pointer (some ⟨b, 0, none⟩) := x4
  have hb3 : b = X.w.heap.size := by simp at hb2; exact hb2.symm
  subst hb3
  show Bsl X' _ _ _ _ _ _
  refine ⟨_, _, (v0 :: rest).toArray, 30, hb1, rfl, Nat.zero_le _, (fun h => by cases h), ?_, ?_⟩
  ·rw [x1]; exact zem _ _ _ rfl
  ·simp at hlen ⊢; omega
section
variable {t e : TypeId} {i : TypeInfo} {z : Value} {σ : St} {s n : Nat}
theorem zn2 (hu : Try.prog.underlying 24 = some (.slice 30)) (f : Bool) : zz1 Try.prog 24 σ (.bsl s 0 n 8 f) [] σ (.bsl s 0 n 8 f) := by
 intro ρ o c p q ho hc ha ht hp hq
 obtain ⟨i, z, hi, hz, hsz, hzc, hby, hone⟩ := z61
 have hs : z07 Try.prog σ i.size 24 24 (ρ q) = some (0, []) := by rw [hq]; exact zhu ⟨rfl, by simp [Enc.nil], by omega⟩
 have hnn : zlo (.bsl s 0 n 8 f) = false := rfl
 refine .inr (.inr (.inl ?_))
 have k1 : zl0 Try.prog σ 24 24 (.bsl s 0 n 8 f) (ρ q) = none := by
  simp only [zl0, hu, hi, hz, hs]
  rw [if_neg (by omega)]
 have k2 : zsc Try.prog σ 24 24 (.bsl s 0 n 8 f) (ρ q) = some (.bsl s 0 n 8 f, σ) := by
  simp only [zsc, hu, hi, hz, hs, if_true]
 simp only [zp0, ho, hc, ha, ht, hp, hnn, Bool.false_eq_true, if_false, k1, k2]
theorem zt0 {l : List Tr} (hl : 0 < l.length) (hb : l.length * 80 ≤ 140737488355328) (hs : σ.boxes[s]? = some (30, [.top])) :
 zz1 Try.prog 24 σ (.bsl s 0 0 8 false) l { σ with boxes := σ.boxes.set s (30, []) ++ [(30, Enc.cellsL l)] } (.bsl σ.boxes.length 0 l.length 8 false) := by
 intro ρ o c p q ho hc ha ht hp hq
 have hu : Try.prog.underlying 24 = some (.slice 30) := by kernel_rfl
 obtain ⟨i, z, hi, hz, hsz, hzc, hby, hone⟩ := z61
 have hsrc : z07 Try.prog σ i.size 24 24 (ρ q) = some (l.length, Enc.cellsL l) := by rw [hq]; exact zhu ⟨rfl, by rw [hsz, Enc.lenL]; rfl, by omega⟩
 have hnn : zlo (.bsl s 0 0 8 false) = false := rfl
 have hmax : l.length ≤ maxLen := by unfold maxLen; omega
 refine .inr (.inr (.inl ?_))
 have k1 : zl0 Try.prog σ 24 24 (.bsl s 0 0 8 false) (ρ q) = none := by
  simp only [zl0, hu, hi, hz, hsrc, hs]
  rw [if_pos ⟨by omega, by omega, hl⟩]
  simp
 have k2 : zsc Try.prog σ 24 24 (.bsl s 0 0 8 false) (ρ q) = some (.bsl σ.boxes.length 0 l.length 8 false, { σ with boxes := σ.boxes.set s (30, []) ++ [(30, Enc.cellsL l)] }) := by
  simp only [zsc, hu, hi, hz, hsrc, hs]
  rw [if_neg (by omega), if_pos ⟨hsz.symm, by omega, by omega, hmax, by rw [hby]; omega, trivial, trivial, trivial, by simp, trivial⟩]
 simp only [zp0, ho, hc, ha, ht, hp, hnn, Bool.false_eq_true, if_false, k1, k2]
theorem zrv {k l : List Tr} (hk : 0 < k.length) (hl : 0 < l.length) (hb : (k.length + l.length) * 80 ≤ 140737488355328) (hs : σ.boxes[s]? = some (30, Enc.cellsL k)) :
 zz1 Try.prog 24 σ (.bsl s 0 k.length 8 false) l { σ with boxes := σ.boxes.set s (30, []) ++ [(30, Enc.cellsL (k ++ l))] } (.bsl σ.boxes.length 0 (k.length + l.length) 8 false) := by
 intro ρ o c p q ho hc ha ht hp hq
 obtain ⟨i, z, hi, hz, hsz, hzc, hby, hone⟩ := z61
 exact .inr (.inr (.inl (zoo (α := Tr) (by' := 80) ⟨rfl, hk, hl, hb⟩ ho hc ha ht hp hq hs (by kernel_rfl) hi hz hsz hzc ⟨hby, by decide⟩)))
end
theorem zv6 (x y z : List Tr) (g : 0 < y.length ∧ (x.length + y.length + z.length) * 80 ≤ 140737488355328) :
 Pure (ITP Try.prog) Try.prog 57 [.list (List.length [x, y, z]) (Enc.cellsL [x, y, z]) .none] (.list (x ++ y ++ z).length (Enc.cellsL (x ++ y ++ z)) .none) := by
 obtain ⟨hy, g⟩ := g
 have hG := z2s (x.length + y.length + z.length) (by omega) g
 have hi : (((x.length + y.length + z.length : Nat)) : Int) = 0 + (x.length : Int) + (y.length : Int) + (z.length : Int) := by omega
 rw [hi] at hG
 have hu : Try.prog.underlying 24 = some (.slice 30) := by kernel_rfl
 rcases Nat.eq_zero_or_pos x.length with hx | hx
 ·obtain rfl : x = [] := List.length_eq_zero_iff.1 hx
  have h12 := zt0 (σ := ⟨[(30, [.top])], [], [], 0, false⟩) (s := 0) hy (by omega) rfl
  rcases Nat.eq_zero_or_pos z.length with hz | hz
  ·obtain rfl : z = [] := List.length_eq_zero_iff.1 hz
   refine zh8 [] y [] _ _ _ _ _ _ _ _ (by omega) hG ⟨rfl, rfl⟩ (zn2 hu false) h12 (zn2 hu false) ?_
   rw [List.append_nil]
   exact zsl (α := Tr) (t := 30) (l := y) (d := 0) rfl rfl
  ·refine zh8 [] y z _ _ _ _ _ _ _ _ (by omega) hG ⟨rfl, rfl⟩ (zn2 hu false) h12 (zrv (s := 1) (k := y) hy hz (by omega) rfl) ?_
   exact zsl (α := Tr) (t := 30) (l := y ++ z) (d := 0) (List.length_append) rfl
 ·have h01 := zt0 (σ := ⟨[(30, [.top])], [], [], 0, false⟩) (s := 0) hx (by omega) rfl
  have h12 := zrv (σ := ⟨[(30, []), (30, Enc.cellsL x)], [], [], 0, false⟩) (s := 1) (k := x) hx hy (by omega) rfl
  rcases Nat.eq_zero_or_pos z.length with hz | hz
  ·obtain rfl : z = [] := List.length_eq_zero_iff.1 hz
   refine zh8 x y [] _ _ _ _ _ _ _ _ (by omega) hG ⟨rfl, rfl⟩ h01 h12 (zn2 hu false) ?_
   rw [List.append_nil]
   exact zsl (α := Tr) (t := 30) (l := x ++ y) (d := 0) (List.length_append) rfl
  ·have hl : (x ++ y).length = x.length + y.length := List.length_append
   have h23 := zrv (σ := ⟨[(30, []), (30, []), (30, Enc.cellsL (x ++ y))], [], [], 0, false⟩) (s := 2) (k := x ++ y) (l := z) (by omega) hz (by omega) rfl
   rw [hl] at h23
   refine zh8 x y z _ _ _ _ _ _ _ _ (by omega) hG ⟨rfl, rfl⟩ h01 h12 h23 ?_
   exact zsl (α := Tr) (t := 30) (l := x ++ y ++ z) (d := 0) (by simp; omega) rfl
end Go.Ab
