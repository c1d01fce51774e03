/-
  bytes.Clone as a slice that is appended to; append of nothing.
-/
import Derived.Shelf.Spec.SlicesGrow
import Derived.Test.YtblibgbakbhlkaaDoorProg
import Derived.Test.YtblibgbakbhlkaaDoorZuCl
import Derived.Test.YtblibgbakbhlkaaDoorZuSt
import Derived.Test.YtblibgbakbhlkaaDoorZdQp
import Derived.Test.YtblibgbakbhlkaaDoorZdAs
set_option linter.unusedSimpArgs false
set_option linter.unusedVariables false
namespace Go.Proofs
open Go.Shelf
def Tryd.growL_ren : Go.Shelf.Ren := ⟨fun | 4 => 34 | n => n, fun | 22 => 40 | 25 => 47 | n => n, fun n => n⟩
theorem Tryd.growL : Go.Proofs.Lays8.n4 Tryd.prog Tryd.growL_ren := {
  mixed := by kernel_rfl
  f4 := ⟨Tryd.f34.name, by decide, Tryd.func34.trans (congrArg some (by kernel_rfl))⟩
  t0 := Tryd.underlying0
  a0 := Tryd.isAgg0
  z0 := Tryd.sizeOf0
  v0 := Tryd.zeroValue0
  t3 := Tryd.underlying3
  a3 := Tryd.isAgg3
  z3 := Tryd.sizeOf3
  v3 := Tryd.zeroValue3
  t4 := Tryd.underlying4
  a4 := Tryd.isAgg4
  z4 := Tryd.sizeOf4
  v4 := Tryd.zeroValue4
  t9 := Tryd.underlying9
  a9 := Tryd.isAgg9
  z9 := Tryd.sizeOf9
  v9 := Tryd.zeroValue9
  t20 := Tryd.underlying20
  a20 := Tryd.isAgg20
  z20 := Tryd.sizeOf20
  v20 := Tryd.zeroValue20
  t22 := Tryd.underlying40
  a22 := Tryd.isAgg40
  z22 := Tryd.sizeOf40
  v22 := Tryd.zeroValue40 }
end Go.Proofs
set_option linter.unusedSimpArgs false
set_option linter.unusedVariables false
namespace Go.Ab
open Go Go.RowKit Go.Fwd Go.Proofs
section
variable {IT : IterP} {P : Program} {W : Owed} {k0 : Nat}
theorem w_rounds {x : Code} {Q : AQ} {S : List AV} {σ : St} (m : Nat) (h : awp IT P W k0 x (athen (arounds (awp IT P W k0 x) Q k0 m) Q) S σ) : awp IT P W k0 (.loop x) Q S σ := ⟨m + 1, S, σ, Wk.refl _ _ _, h⟩
theorem w_round {x : Code} {Q : AQ} {S : List AV} {σ : St} (m : Nat) (h : awp IT P W k0 x (athen (arounds (awp IT P W k0 x) Q k0 m) Q) S σ) : arounds (awp IT P W k0 x) Q k0 (m + 1) S σ := ⟨S, σ, Wk.refl _ _ _, h⟩
end
instance : Enc (List Ck) where
  inh := []
  cells x := [.list x.length (Enc.cellsL x) .none]
  cellsL l := l.map fun x => .list x.length (Enc.cellsL x) .none
  sz := 1
  pos := by decide
  nil := rfl
  cons _ _ := rfl
  len _ := rfl
  clo x := clo_cons (clo_list (Enc.cloL x)) rfl
def AppTo (P : Program) (t : TypeId) (σ : St) (a : AV) (l : List Ck) (σ' : St) (a' : AV) : Prop :=
  ∀ (ρ : Operand → AV) (o : Oper) (c : Call) (p q : Operand), o.op = .call c → c.callee = .builtin .append → c.args.toList = [p, q] → c.argTypes.toList = [t, t] → ρ p = a → ρ q = .list l.length (Enc.cellsL l) .none → AopR P ρ σ o a' σ'
theorem ent34 : Ent Tryd.prog 34 := enters_of Tryd.func34 (by kernel_rfl) rfl
theorem ent17 : Ent Tryd.prog 17 := enters_of Tryd.func17 (by kernel_rfl) rfl
set_option maxRecDepth 100000 in
set_option maxHeartbeats 4000000 in
theorem concat_walk (x y : List Ck) (a0 a1 a2 : AV) (σ0 σ1 σ2 : St) (hn : x.length + y.length < 9223372036854775807)
    (hG : Snd (ITP Tryd.prog) Tryd.prog 34 [.list 0 [] .full, .raw (.int .i64 (0 + (x.length : Int) + (y.length : Int)))] ⟨[], [], [], 0, false⟩ a0 σ0) (h0 : σ0.out = 0 ∧ σ0.stop = false)
    (h01 : AppTo Tryd.prog 40 σ0 a0 x σ1 a1) (h12 : AppTo Tryd.prog 40 σ1 a1 y σ2 a2)
    (hend : mapPtr (frz σ2.boxes 1) a2 = .list (x ++ y).length (Enc.cellsL (x ++ y)) .none) :
    Pure (ITP Tryd.prog) Tryd.prog 17 [.list (List.length [x, y]) (Enc.cellsL [x, y]) .none] (.list (x ++ y).length (Enc.cellsL (x ++ y)) .none) := by
 obtain ⟨d, hd⟩ : ∃ d, Tryd.f17.body = some d := ⟨_, rfl⟩
 refine pure_of mix Tryd.func17 hd ent17 ?_
 cases hd
 refine w_start (by dsimp only [abeginS, Tryd.f17, List.length_cons, List.length_nil, Nat.zero_add, Nat.reduceAdd, Nat.reduceSub, List.replicate, List.cons_append, List.nil_append]) (by dsimp only [St.empty]) ?_
 refine w_seq (w_region ?_)
 refine w_op (a := .list 0 [] .full) rfl rfl rfl rfl (by dsimp only [aput, List.set]) ?_
 refine w_seq (w_region ?_)
 refine w_op (a := .raw (.int .i64 0)) rfl rfl rfl rfl (by dsimp only [aput, List.set]) ?_
 refine w_seq ?_
 refine w_seq (w_region ?_)
 refine w_mv ?_
 refine w_op (a := .raw (.int .i64 2)) rfl rfl rfl rfl (by dsimp only [aput, List.set]) ?_
 refine w_op (a := .raw (.int .i64 0)) rfl rfl rfl rfl (by dsimp only [aput, List.set]) ?_
 refine w_block ?_
 refine w_rounds 2 ?_
 refine w_seq (w_region ?_)
 refine w_op (a := .raw (.bool true)) rfl rfl rfl rfl (by dsimp only [aput, List.set]) ?_
 refine w_seq ?_
 refine w_condT rfl rfl ?_
 refine w_seq ?_
 refine w_block ?_
 refine w_seq (w_region ?_)
 refine w_op (a := .iptr (Enc.cells (ix [x, y] 0) ++ Enc.cellsL (List.drop (Int.toNat 0 + 1) [x, y]))) rfl rfl rfl (op_q (q_idx (α := List Ck) (l := [x, y]) ⟨by decide, by simp⟩ rfl rfl rfl rfl rfl)) (by dsimp only [aput, List.set]) ?_
 refine w_op (a := .list x.length (Enc.cellsL x) .none) rfl rfl rfl rfl (by dsimp only [aput, List.set]) ?_
 refine w_mv ?_
 refine w_seq (w_region ?_)
 refine w_mv ?_
 refine w_mv ?_
 refine w_op (a := .raw (.int .i64 (x.length : Int))) rfl rfl rfl rfl (by dsimp only [aput, List.set]) ?_
 refine w_op (a := .raw (.int .i64 (0 + (x.length : Int)))) rfl rfl rfl (op_q (q_add rfl rfl rfl rfl (by omega) (by omega))) (by dsimp only [aput, List.set]) ?_
 refine w_mv ?_
 refine w_seq (w_region ?_)
 refine w_mv ?_
 refine w_op (a := .raw (.bool (decide ((0 + (x.length : Int)) < 0)))) rfl rfl rfl rfl (by dsimp only [aput, List.set]) ?_
 refine w_condF (show decide ((0 + (x.length : Int)) < 0) = false from decide_eq_false (by omega)) rfl ?_
 refine w_region (k0 := 0) (id := 8) ?_
 refine w_op (a := .raw (.int .i64 (0 + 1))) rfl rfl rfl (op_q (q_add rfl rfl rfl rfl (by decide) (by decide))) (by dsimp only [aput, List.set]) ?_
 refine w_mv ?_
 refine w_round 1 ?_
 refine w_seq (w_region ?_)
 refine w_op (a := .raw (.bool true)) rfl rfl rfl rfl (by dsimp only [aput, List.set]) ?_
 refine w_seq ?_
 refine w_condT rfl rfl ?_
 refine w_seq ?_
 refine w_block ?_
 refine w_seq (w_region ?_)
 refine w_op (a := .iptr (Enc.cells (ix [x, y] 1) ++ Enc.cellsL (List.drop (Int.toNat 1 + 1) [x, y]))) rfl rfl rfl (op_q (q_idx (α := List Ck) (l := [x, y]) ⟨by decide, by simp⟩ rfl rfl rfl rfl rfl)) (by dsimp only [aput, List.set]) ?_
 refine w_op (a := .list y.length (Enc.cellsL y) .none) rfl rfl rfl rfl (by dsimp only [aput, List.set]) ?_
 refine w_mv ?_
 refine w_seq (w_region ?_)
 refine w_mv ?_
 refine w_mv ?_
 refine w_op (a := .raw (.int .i64 (y.length : Int))) rfl rfl rfl rfl (by dsimp only [aput, List.set]) ?_
 refine w_op (a := .raw (.int .i64 (0 + (x.length : Int) + (y.length : Int)))) rfl rfl rfl (op_q (q_add rfl rfl rfl rfl (by omega) (by omega))) (by dsimp only [aput, List.set]) ?_
 refine w_mv ?_
 refine w_seq (w_region ?_)
 refine w_mv ?_
 refine w_op (a := .raw (.bool (decide ((0 + (x.length : Int) + (y.length : Int)) < 0)))) rfl rfl rfl rfl (by dsimp only [aput, List.set]) ?_
 refine w_condF (show decide ((0 + (x.length : Int) + (y.length : Int)) < 0) = false from decide_eq_false (by omega)) rfl ?_
 refine w_region (k0 := 0) (id := 8) ?_
 refine w_op (a := .raw (.int .i64 (1 + 1))) rfl rfl rfl (op_q (q_add rfl rfl rfl rfl (by decide) (by decide))) (by dsimp only [aput, List.set]) ?_
 refine w_mv ?_
 refine w_round 0 ?_
 refine w_seq (w_region ?_)
 refine w_op (a := .raw (.bool false)) rfl rfl rfl rfl (by dsimp only [aput, List.set]) ?_
 refine w_seq ?_
 refine w_condF rfl rfl ?_
 refine w_seq (w_region ?_)
 refine w_mv ?_
 refine w_snd (r := a0) (σ' := σ0) hG rfl rfl h0 (by dsimp only [aput, List.set]) ?_
 refine w_mv ?_
 refine w_seq ?_
 refine w_seq (w_region ?_)
 refine w_mv ?_
 refine w_op (a := .raw (.int .i64 2)) rfl rfl rfl rfl (by dsimp only [aput, List.set]) ?_
 refine w_op (a := .raw (.int .i64 0)) rfl rfl rfl rfl (by dsimp only [aput, List.set]) ?_
 refine w_block ?_
 refine w_rounds 2 ?_
 refine w_seq (w_region ?_)
 refine w_op (a := .raw (.bool true)) rfl rfl rfl rfl (by dsimp only [aput, List.set]) ?_
 refine w_seq ?_
 refine w_condT rfl rfl ?_
 refine w_seq ?_
 refine w_block ?_
 refine w_seq (w_region ?_)
 refine w_op (a := .iptr (Enc.cells (ix [x, y] 0) ++ Enc.cellsL (List.drop (Int.toNat 0 + 1) [x, y]))) rfl rfl rfl (op_q (q_idx (α := List Ck) (l := [x, y]) ⟨by decide, by simp⟩ rfl rfl rfl rfl rfl)) (by dsimp only [aput, List.set]) ?_
 refine w_op (a := .list x.length (Enc.cellsL x) .none) rfl rfl rfl rfl (by dsimp only [aput, List.set]) ?_
 refine w_mv ?_
 refine w_region (k0 := 0) (id := 13) ?_
 refine w_mv ?_
 refine w_mv ?_
 refine w_opR rfl rfl rfl (h01 _ _ _ _ _ rfl rfl rfl rfl rfl rfl) (by dsimp only [aput, List.set]) ?_
 refine w_mv ?_
 refine w_region (k0 := 0) (id := 14) ?_
 refine w_op (a := .raw (.int .i64 (0 + 1))) rfl rfl rfl (op_q (q_add rfl rfl rfl rfl (by decide) (by decide))) (by dsimp only [aput, List.set]) ?_
 refine w_mv ?_
 refine w_round 1 ?_
 refine w_seq (w_region ?_)
 refine w_op (a := .raw (.bool true)) rfl rfl rfl rfl (by dsimp only [aput, List.set]) ?_
 refine w_seq ?_
 refine w_condT rfl rfl ?_
 refine w_seq ?_
 refine w_block ?_
 refine w_seq (w_region ?_)
 refine w_op (a := .iptr (Enc.cells (ix [x, y] 1) ++ Enc.cellsL (List.drop (Int.toNat 1 + 1) [x, y]))) rfl rfl rfl (op_q (q_idx (α := List Ck) (l := [x, y]) ⟨by decide, by simp⟩ rfl rfl rfl rfl rfl)) (by dsimp only [aput, List.set]) ?_
 refine w_op (a := .list y.length (Enc.cellsL y) .none) rfl rfl rfl rfl (by dsimp only [aput, List.set]) ?_
 refine w_mv ?_
 refine w_region (k0 := 0) (id := 13) ?_
 refine w_mv ?_
 refine w_mv ?_
 refine w_opR rfl rfl rfl (h12 _ _ _ _ _ rfl rfl rfl rfl rfl rfl) (by dsimp only [aput, List.set]) ?_
 refine w_mv ?_
 refine w_region (k0 := 0) (id := 14) ?_
 refine w_op (a := .raw (.int .i64 (1 + 1))) rfl rfl rfl (op_q (q_add rfl rfl rfl rfl (by decide) (by decide))) (by dsimp only [aput, List.set]) ?_
 refine w_mv ?_
 refine w_round 0 ?_
 refine w_seq (w_region ?_)
 refine w_op (a := .raw (.bool false)) rfl rfl rfl rfl (by dsimp only [aput, List.set]) ?_
 refine w_seq ?_
 refine w_condF rfl rfl ?_
 refine w_seq (w_region ?_)
 refine w_mv ?_
 refine w_mv ?_
 exact end_frz 1 rfl hend
theorem grow_zero : Pure (ITP Tryd.prog) Tryd.prog 34 [.list 0 [] .full, .raw (.int .i64 0)] (.list 0 [] .full) := by
  refine ⟨ent34, fun X us hI hr => ?_⟩
  obtain ⟨v, r1, rfl, hv, u, r2, rfl, hu, hn⟩ := hr
  rw [RepL] at hn
  subst hn
  have hu : u = .int .i64 0 := hu
  subst hu
  have hv0 := hv
  rw [Rep] at hv
  obtain ⟨a, cap, rfl, ⟨_, hnil⟩, _, rfl⟩ := hv
  refine (Any8.slices_Grow_room Tryd.growL a 0 0 0 X.w (by omega) (by omega) (by omega) (by omega)).mono ?_
  rintro e w' ⟨rfl, rfl⟩
  exact ⟨_, X, rfl, rfl, Ext.refl X, hI, hv0⟩
set_option maxRecDepth 100000 in
theorem inf47 : ∃ i z, Tryd.prog.info? 47 = some i ∧ i.zero = some z ∧ i.size = 2 ∧ z.cells.size = 2 ∧ i.bytes = 32 ∧ ∀ v ∈ z.cells.toList, v.oneCell' = true :=
  ⟨_, _, rfl, rfl, rfl, rfl, rfl, by decide⟩
theorem mem_zeroCells {zero : Array Value} {n : Nat} (h0 : 0 < zero.size) {v : Value} (h : v ∈ (Builtin.zeroCells zero n).toList) : v ∈ zero.toList := by
  unfold Builtin.zeroCells at h
  rw [Array.mem_toList_iff, Array.mem_map] at h
  obtain ⟨i, _, rfl⟩ := h
  have : i % zero.size < zero.size := Nat.mod_lt _ h0
  rw [getElem!_pos zero _ this]
  exact Array.mem_toList_iff.2 (Array.getElem_mem _)
theorem grow_some (n : Nat) (h0 : 0 < n) (hb : n * 32 ≤ 140737488355328) : Snd (ITP Tryd.prog) Tryd.prog 34 [.list 0 [] .full, .raw (.int .i64 (n : Int))] ⟨[], [], [], 0, false⟩ (.bsl 0 0 0 2 false) ⟨[(47, [.top])], [], [], 0, false⟩ := by
  obtain ⟨i0, z, hi0, hz, hsz, hzc, hby, hone⟩ := inf47
  refine ⟨ent34, fun X us hI hr => ?_⟩
  obtain ⟨v, r1, rfl, hv, u, r2, rfl, hu, hn⟩ := hr
  rw [RepL] at hn
  subst hn
  have hu : u = .int .i64 (n : Int) := hu
  subst hu
  rw [Rep] at hv
  obtain ⟨a, cap, rfl, ⟨_, hnil⟩, _, rfl⟩ := hv
  have hmx : n ≤ 4611686018427387904 := by omega
  refine (Any8.slices_Grow_grow Tryd.growL i0 z hi0 hz (by omega) a 0 0 n [] X.w (by omega) (by omega) (by rw [hby]; omega) (by omega) (by simp) (fun _ => rfl) (by simp)).mono ?_
  rintro e w' ⟨rfl, rfl⟩
  obtain ⟨d1, d2⟩ := inv_drew (itp_mono Tryd.prog) hI
  have hG : n ≤ grownCap X.w (0 + n) 0 (Tryd.growL_ren.t 25) := by have := grownCap_ge X.w (0 + n) 0 (Tryd.growL_ren.t 25); omega
  generalize grownCap X.w (0 + n) 0 (Tryd.growL_ren.t 25) = G at hG ⊢
  have hsize : ∀ k, (Builtin.zeroCells z.cells k).size = k * 2 := fun k => by rw [size_zeroCells, hzc]
  obtain ⟨row, hrow⟩ : ∃ row : List Value, row = (#[] ++ Builtin.zeroCells z.cells (0 + n - 0) ++ Builtin.zeroCells z.cells (G - (0 + n)) : Array Value).toList := ⟨_, rfl⟩
  have hlen : row.length = G * 2 := by
    rw [hrow, Array.length_toList, Array.size_append, Array.size_append, hsize, hsize]
    simp; omega
  have hmem : ∀ v ∈ row, v.oneCell' = true := fun v hv => by
    rw [hrow] at hv
    simp only [Array.toList_append, List.mem_append] at hv
    rcases hv with (hv | hv) | hv
    · simp at hv
    · exact hone v (mem_zeroCells (by omega) hv)
    · exact hone v (mem_zeroCells (by omega) hv)
  have harr : (([] : List Value).toArray ++ Builtin.zeroCells z.cells (0 + n - 0) ++ Builtin.zeroCells z.cells (G - (0 + n)) : Array Value) = row.toArray := by rw [hrow, Array.toArray_toList]
  obtain ⟨v0, rest, rfl⟩ : ∃ v0 rest, row = v0 :: rest := by
    cases row with
    | nil => simp at hlen; omega
    | cons a l => exact ⟨a, l, rfl⟩
  obtain ⟨X', x1, x2, x3, x4⟩ := inv_box' (itp_mono Tryd.prog) d2 (t := 47) (cs := [.top]) (vs := [v0]) rest ⟨v0, [], rfl, trivial, rfl⟩ (fun v hv => hmem v (by simp at hv; subst hv; exact List.mem_cons_self))
  refine ⟨_, X', rfl, ?_, d1.trans x2, x3, ?_⟩
  · rw [x1, harr]; rfl
  · obtain ⟨b, hb1, hb2⟩ : ∃ b, X'.κ[0]? = some b ∧ Value.pointer (some ⟨X.w.heap.size, 0, none⟩) = .pointer (some ⟨b, 0, none⟩) := x4
    have hb3 : b = X.w.heap.size := by simp at hb2; exact hb2.symm
    subst hb3
    show Bsl X' _ _ _ _ _ _
    refine ⟨_, _, (v0 :: rest).toArray, 47, hb1, rfl, Nat.zero_le _, (fun h => by cases h), ?_, ?_⟩
    · rw [x1]; exact heap_new _ _ _ rfl
    · simp at hlen ⊢; omega
section
variable {t e : TypeId} {i : TypeInfo} {z : Value} {σ : St} {s n : Nat}
theorem app_none (hu : Tryd.prog.underlying 40 = some (.slice 47)) (f : Bool) : AppTo Tryd.prog 40 σ (.bsl s 0 n 2 f) [] σ (.bsl s 0 n 2 f) := by
  intro ρ o c p q ho hc ha ht hp hq
  obtain ⟨i, z, hi, hz, hsz, hzc, hby, hone⟩ := inf47
  have hs : aSrc Tryd.prog σ i.size 40 40 (ρ q) = some (0, []) := by rw [hq]; exact aSrc_list ⟨rfl, by simp [Enc.nil], by omega⟩
  have hnn : isNilS (.bsl s 0 n 2 f) = false := rfl
  refine .inr (.inr (.inl ?_))
  have k1 : aAppB Tryd.prog σ 40 40 (.bsl s 0 n 2 f) (ρ q) = none := by
    simp only [aAppB, hu, hi, hz, hs]
    rw [if_neg (by omega)]
  have k2 : aAppG Tryd.prog σ 40 40 (.bsl s 0 n 2 f) (ρ q) = some (.bsl s 0 n 2 f, σ) := by
    simp only [aAppG, hu, hi, hz, hs, if_true]
  simp only [aopB, ho, hc, ha, ht, hp, hnn, Bool.false_eq_true, if_false, k1, k2]
theorem app_first {l : List Ck} (hl : 0 < l.length) (hb : l.length * 32 ≤ 140737488355328) (hs : σ.boxes[s]? = some (47, [.top])) :
    AppTo Tryd.prog 40 σ (.bsl s 0 0 2 false) l { σ with boxes := σ.boxes.set s (47, []) ++ [(47, Enc.cellsL l)] } (.bsl σ.boxes.length 0 l.length 2 false) := by
  intro ρ o c p q ho hc ha ht hp hq
  have hu : Tryd.prog.underlying 40 = some (.slice 47) := by kernel_rfl
  obtain ⟨i, z, hi, hz, hsz, hzc, hby, hone⟩ := inf47
  have hsrc : aSrc Tryd.prog σ i.size 40 40 (ρ q) = some (l.length, Enc.cellsL l) := by rw [hq]; exact aSrc_list ⟨rfl, by rw [hsz, Enc.lenL]; rfl, by omega⟩
  have hnn : isNilS (.bsl s 0 0 2 false) = false := rfl
  have hmax : l.length ≤ maxLen := by unfold maxLen; omega
  refine .inr (.inr (.inl ?_))
  have k1 : aAppB Tryd.prog σ 40 40 (.bsl s 0 0 2 false) (ρ q) = none := by
    simp only [aAppB, hu, hi, hz, hsrc, hs]
    rw [if_pos ⟨by omega, by omega, hl⟩]
    simp
  have k2 : aAppG Tryd.prog σ 40 40 (.bsl s 0 0 2 false) (ρ q) = some (.bsl σ.boxes.length 0 l.length 2 false, { σ with boxes := σ.boxes.set s (47, []) ++ [(47, Enc.cellsL l)] }) := by
    simp only [aAppG, hu, hi, hz, hsrc, hs]
    rw [if_neg (by omega), if_pos ⟨hsz.symm, by omega, by omega, hmax, by rw [hby]; omega, trivial, trivial, trivial, by simp, trivial⟩]
  simp only [aopB, ho, hc, ha, ht, hp, hnn, Bool.false_eq_true, if_false, k1, k2]
theorem app_more {k l : List Ck} (hk : 0 < k.length) (hl : 0 < l.length) (hb : (k.length + l.length) * 32 ≤ 140737488355328) (hs : σ.boxes[s]? = some (47, Enc.cellsL k)) :
    AppTo Tryd.prog 40 σ (.bsl s 0 k.length 2 false) l { σ with boxes := σ.boxes.set s (47, []) ++ [(47, Enc.cellsL (k ++ l))] } (.bsl σ.boxes.length 0 (k.length + l.length) 2 false) := by
  intro ρ o c p q ho hc ha ht hp hq
  obtain ⟨i, z, hi, hz, hsz, hzc, hby, hone⟩ := inf47
  exact .inr (.inr (.inl (opB_bsl (α := Ck) (by' := 32) ⟨rfl, hk, hl, hb⟩ ho hc ha ht hp hq hs (by kernel_rfl) hi hz hsz hzc ⟨hby, by decide⟩)))
theorem app_nil : AppTo Tryd.prog 40 σ (.list 0 [] .full) [] σ (.list 0 [] .full) := by
  intro ρ o c p q ho hc ha ht hp hq
  have hu : Tryd.prog.underlying 40 = some (.slice 47) := by kernel_rfl
  obtain ⟨i, z, hi, hz, hsz, hzc, hby, hone⟩ := inf47
  refine .inl (op_append ho hc ha ht ?_)
  rw [hp, hq]
  simp only [aAppend, hu, hi, hz]
  rfl
end
theorem concat_pure (x y : List Ck) (g : (x.length + y.length) * 32 ≤ 140737488355328) :
    Pure (ITP Tryd.prog) Tryd.prog 17 [.list (List.length [x, y]) (Enc.cellsL [x, y]) .none] (.list (x ++ y).length (Enc.cellsL (x ++ y)) .none) := by
  rcases Nat.eq_zero_or_pos (x.length + y.length) with h0 | h0
  · obtain rfl : x = [] := List.length_eq_zero_iff.1 (by omega)
    obtain rfl : y = [] := List.length_eq_zero_iff.1 (by omega)
    exact concat_walk [] [] (.list 0 [] .full) (.list 0 [] .full) (.list 0 [] .full) _ _ _ (by decide) grow_zero ⟨rfl, rfl⟩ app_nil app_nil rfl
  · have hG := grow_some (x.length + y.length) h0 g
    have hi : (((x.length + y.length : Nat)) : Int) = 0 + (x.length : Int) + (y.length : Int) := by omega
    rw [hi] at hG
    have hu : Tryd.prog.underlying 40 = some (.slice 47) := by kernel_rfl
    rcases Nat.eq_zero_or_pos x.length with hx | hx
    · obtain rfl : x = [] := List.length_eq_zero_iff.1 hx
      refine concat_walk [] y _ _ _ _ _ _ (by omega) hG ⟨rfl, rfl⟩ (app_none hu false) (app_first (s := 0) (by simpa using h0) (by simpa using g) rfl) ?_
      exact frz_bsl (α := Ck) (t := 47) (l := y) (d := 0) rfl rfl
    · have h01 := app_first (σ := ⟨[(47, [.top])], [], [], 0, false⟩) (s := 0) hx (by omega) rfl
      rcases Nat.eq_zero_or_pos y.length with hy | hy
      · obtain rfl : y = [] := List.length_eq_zero_iff.1 hy
        refine concat_walk x [] _ _ _ _ _ _ (by omega) hG ⟨rfl, rfl⟩ h01 (app_none hu false) ?_
        rw [List.append_nil]
        exact frz_bsl (α := Ck) (t := 47) (l := x) (d := 0) rfl rfl
      · refine concat_walk x y _ _ _ _ _ _ (by omega) hG ⟨rfl, rfl⟩ h01 (app_more (s := 1) (k := x) hx hy g rfl) ?_
        exact frz_bsl (α := Ck) (t := 47) (l := x ++ y) (d := 0) (List.length_append) rfl
end Go.Ab
set_option linter.unusedSimpArgs false
set_option linter.unusedVariables false
namespace Go.Ab
open Go Go.RowKit Go.Fwd Go.Proofs
theorem appR_none {α : Type} [Enc α] {P : Program} {ρ : Operand → AV} {σ : St} {o : Oper} {c : Call} {p q : Operand} {t e : TypeId} {i : TypeInfo} {z : Value} {s off n sz : Nat} {f : Bool} {y : List α} {st : Room} (hy0 : List.isEmpty y = true) (ho : o.op = .call c) (hc : c.callee = .builtin .append) (ha : c.args.toList = [p, q])
    (ht : c.argTypes.toList = [t, t]) (hx : ρ p = .bsl s off n sz f) (hy : ρ q = .list (List.length y) (Enc.cellsL y) st) (hu : P.underlying t = some (.slice e)) (hi : P.info? e = some i) (hz : i.zero = some z) (hsz : i.size = Enc.sz α) : AopR P ρ σ o (.bsl s off n sz f) σ := by
  obtain rfl : y = [] := List.isEmpty_iff.1 hy0
  have hp := Enc.pos (α := α)
  have hs : aSrc P σ i.size t t (ρ q) = some (0, []) := by rw [hy, Enc.nil]; exact aSrc_list ⟨rfl, by simp, by omega⟩
  have hnn : isNilS (.bsl s off n sz f) = false := rfl
  refine .inr (.inr (.inl ?_))
  have k1 : aAppB P σ t t (.bsl s off n sz f) (ρ q) = none := by
    simp only [aAppB, hu, hi, hz, hs]
    rw [if_neg (by omega)]
  have k2 : aAppG P σ t t (.bsl s off n sz f) (ρ q) = some (.bsl s off n sz f, σ) := by
    simp only [aAppG, hu, hi, hz, hs, if_true]
  simp only [aopB, ho, hc, ha, ht, hx, hnn, Bool.false_eq_true, if_false, k1, k2]
set_option maxRecDepth 100000 in
set_option maxHeartbeats 4000000 in
theorem bclone_nil (l : List UInt8) (hl : List.isEmpty l = true) : Snd (ITP Tryd.prog) Tryd.prog 21 [.list (List.length l) (Enc.cellsL l) .none] ⟨[], [], [], 0, false⟩ (.list 0 [] .full) ⟨[], [], [], 0, false⟩ := by
  obtain rfl : l = [] := List.isEmpty_iff.1 hl
  obtain ⟨d, hd⟩ : ∃ d, Tryd.f21.body = some d := ⟨_, rfl⟩
  refine snd_of mix Tryd.func21 hd ent21 ?_
  cases hd
  refine w_start (by dsimp only [abeginS, Tryd.f21, List.length_cons, List.length_nil, Nat.zero_add, Nat.reduceAdd, Nat.reduceSub, List.replicate, List.cons_append, List.nil_append]) rfl ?_
  refine w_seq (w_region ?_)
  refine w_op (a := .list 0 [] .full) rfl rfl rfl rfl (by dsimp only [aput, List.set]) ?_
  refine w_seq ?_
  refine w_seq (w_region ?_)
  refine w_op (a := .list 0 [] .none) rfl rfl rfl rfl (by dsimp only [aput, List.set]) ?_
  refine w_nil 0 false rfl rfl rfl ⟨_, _, _, _, _, rfl, .inl ⟨rfl, rfl⟩, rfl, .inl ⟨_, _, rfl⟩⟩ (by dsimp only [aput, List.set]) (by dsimp only [aput, List.set]) (fun h1 => ?_) ?_
  · refine w_true rfl ?_
    refine w_seq (w_region ?_)
    refine w_op (a := .list 0 [] .full) rfl rfl rfl rfl (by dsimp only [aput, List.set]) ?_
    exact end_keep (n := 0) (m := 0) [] [] 1 rfl rfl rfl rfl
  · refine w_false rfl ?_
    refine w_seq (w_region ?_)
    refine w_op (a := .list 0 [] .full) rfl rfl rfl rfl (by dsimp only [aput, List.set]) ?_
    refine w_op (a := .list 0 [] .none) rfl rfl rfl rfl (by dsimp only [aput, List.set]) ?_
    refine w_op (a := .list 0 [] .full) rfl rfl rfl rfl (by dsimp only [aput, List.set]) ?_
    refine w_op (a := .list 0 [] .full) rfl rfl rfl rfl (by dsimp only [aput, List.set]) ?_
    exact end_keep (n := 0) (m := 0) [] [] 1 rfl rfl rfl rfl
set_option maxRecDepth 100000 in
set_option maxHeartbeats 4000000 in
theorem bclone_some (l : List UInt8) (g : List.length l ≤ 140737488355328) (hl : List.isEmpty l = false) : Snd (ITP Tryd.prog) Tryd.prog 21 [.list (List.length l) (Enc.cellsL l) .none] ⟨[], [], [], 0, false⟩ (.bsl 0 0 (List.length l) 1 false) ⟨[(5, Enc.cellsL l)], [], [], 0, false⟩ := by
  have h0 : l ≠ [] := fun e => by rw [e] at hl; cases hl
  have hp := List.length_pos_iff.2 h0
  obtain ⟨d, hd⟩ : ∃ d, Tryd.f21.body = some d := ⟨_, rfl⟩
  refine snd_of mix Tryd.func21 hd ent21 ?_
  cases hd
  refine w_start (by dsimp only [abeginS, Tryd.f21, List.length_cons, List.length_nil, Nat.zero_add, Nat.reduceAdd, Nat.reduceSub, List.replicate, List.cons_append, List.nil_append]) rfl ?_
  refine w_seq (w_region ?_)
  refine w_op (a := .list 0 [] .full) rfl rfl rfl rfl (by dsimp only [aput, List.set]) ?_
  refine w_seq ?_
  refine w_seq (w_region ?_)
  refine w_op (a := .list l.length (Enc.cellsL l) .none) rfl rfl rfl rfl (by dsimp only [aput, List.set]) ?_
  refine w_nil l.length false rfl rfl rfl ⟨_, _, _, _, _, rfl, .inl ⟨rfl, rfl⟩, rfl, .inl ⟨_, _, rfl⟩⟩ (by dsimp only [aput, List.set]) (by dsimp only [aput, List.set]) (fun h1 => ?_) ?_
  · omega
  · refine w_false rfl ?_
    refine w_seq (w_region ?_)
    refine w_op (a := .list 0 [] .full) rfl rfl rfl rfl (by dsimp only [aput, List.set]) ?_
    refine w_op (a := .list l.length (Enc.cellsL l) .none) rfl rfl rfl rfl (by dsimp only [aput, List.set]) ?_
    refine w_opB rfl rfl rfl (opB_list rfl rfl rfl rfl rfl rfl rfl rfl rfl (aSrc_list ⟨rfl, Enc.lenL l, by decide⟩) ⟨by decide, rfl, hp⟩ ⟨rfl, by unfold maxLen; omega, by show (0 + l.length) * 1 ≤ _; omega⟩) (by dsimp only [aput, List.set]) rfl ?_
    refine w_op rfl rfl rfl rfl (by dsimp only [aput, List.set, aval, List.getElem?_cons_zero, List.getElem?_cons_succ, Option.getD]) ?_
    refine end_keep (n := 0) (m := 0) [] [0] 1 rfl rfl ?_ ?_
    · rw [Nat.zero_add]; rfl
    · exact keep_of (keep_cons (cs := Enc.cellsL l) rfl (mapKL_clo _ _ _ (Enc.cloL _)) keep_nil) rfl
end Go.Ab

