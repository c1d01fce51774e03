/-
  slices.Insert and slices.Clone at their types.
-/
import Derived.Test.YtcdmdnadilafhaaDoorZtCl
import Derived.Test.YtcdmdnadilafhaaDoorZtW8
import Derived.Test.YtcdmdnadilafhaaDoorZtQs
import Derived.Test.YtcdmdnadilafhaaDoorZdIn
set_option linter.unusedSimpArgs false
set_option linter.unusedVariables false
namespace Go.Ab
open Go Go.RowKit Go.Fwd Go.Proofs
def insL {α : Type} (l r : List α) (k : Int) : List α := l.take k.toNat ++ r ++ l.drop k.toNat
set_option maxHeartbeats 4000000 in
set_option maxRecDepth 100000 in
theorem insT_room (b n c i vb voff m vc : Nat) (R V : List Value) (t0 : TypeId) (tA : TypeId) (kA : Nat) (w : World) (hi : i < n) (hm : 0 < m) (hroom : n + m ≤ c) (hc63 : n + m ≤ 4611686018427387904) (hvb : vb ≠ b)
    (hrow : w.heap[b]? = some (.cells R.toArray t0 (0, 0))) (hR : c * 4 ≤ R.length) (hone : ∀ v ∈ R.take (n * 4), v.oneCell' = true) (hVl : V.length = m * 4) (hV : ∀ j v, V[j]? = some v → w.cell? ⟨vb, voff + j, none⟩ = some v) (h1v : ∀ v ∈ V, v.oneCell' = true)
    (hsa : w.shape? vb = some (tA, kA)) (hkA : kA ≠ 0) :
    Calls Tryd.prog 27 #[.slice (some ⟨b, 0, none⟩) n c, .int .i64 i, .slice (some ⟨vb, voff, none⟩) m vc] w fun e w' =>
      e = .returned (.slice (some ⟨b, 0, none⟩) (n + m) c) ∧ w' = w.drew.setRow b (R.take (i * 4) ++ V ++ (R.drop (i * 4)).take ((n - i) * 4) ++ R.drop ((n + m) * 4)).toArray := by
  have hz1 : ¬ ((m : Int) = 0) := by omega
  have hz2 : ¬ ((i : Int) = (n : Int)) := by omega
  have hz3 : ¬ ((c : Int) < (n : Int) + (m : Int)) := by omega
  have hsb : w.shape? b = some (t0, R.length) := by simp [World.shape?, hrow]
  have hfa : ∀ o, w.frozen? ⟨b, o, none⟩ = false := fun o => by simp [World.frozen?, hrow]
  have hov : ∀ lb cb, (callFunc 47 #[.slice (some ⟨vb, voff, none⟩) m vc, .slice (some ⟨b, (i + m) * 4, none⟩) lb cb]).run Tryd.prog w = .ok (.value (.bool false)) w := fun lb cb => by
    rw [run_callFunc_extern Tryd.func47 (by kernel_rfl) (by kernel_rfl) (by kernel_rfl) (e := Extern.SlicesOverlaps.overlaps #[22, 22] #[4]) (by kernel_rfl),
      run_overlapsF w 22 4 43 (by kernel_rfl) 4 Tryd.sizeOf43 ⟨vb, voff, none⟩ ⟨b, (i + m) * 4, none⟩ m vc lb cb hvb tA t0 kA R.length hsa hkA hsb (hfa _) (hfa _)]
    rfl
  have hw1 : IntKind.i64.wrap ((i : Int) + (m : Int)) = (i : Int) + (m : Int) := by rw [IntKind.wrap_i64]; omega
  have hw2 : IntKind.i64.wrap ((n : Int) + (m : Int)) = (n : Int) + (m : Int) := by rw [IntKind.wrap_i64]; omega
  have hb1 : (0 : Int) ≤ (i : Int) + (m : Int) := by omega
  have hin : i ≤ n := by omega
  have htn : ((i : Int) + (m : Int)).toNat = i + m := by omega
  have htn2 : ((n : Int) + (m : Int)).toNat = n + m := by omega
  have hb2 : ¬ (c = i + m) := by omega
  have hb3 : (i : Int) ≤ (n : Int) + (m : Int) := by omega
  have hb4 : ¬ (c = i) := by omega
  have hRl : (n + m) * 4 ≤ R.length := by omega
  obtain ⟨M, hM⟩ : ∃ M, M = (R.drop (i * 4)).take ((n - i) * 4) := ⟨_, rfl⟩
  have hMl : M.length = (n - i) * 4 := by rw [hM, List.length_take, List.length_drop]; omega
  have hMc : ∀ j v, M[j]? = some v → R[i * 4 + j]? = some v ∧ j < (n - i) * 4 := fun j v hj => by
    rw [hM, List.getElem?_take] at hj
    split at hj
    · rw [List.getElem?_drop] at hj; exact ⟨hj, by assumption⟩
    · cases hj
  have hMo : ∀ v ∈ M, v.oneCell' = true := fun v hv => by
    obtain ⟨j, hj⟩ := List.mem_iff_getElem?.1 hv
    obtain ⟨h1, h2⟩ := hMc j v hj
    exact hone v (List.mem_of_getElem? (i := i * 4 + j) (by rw [List.getElem?_take, if_pos (by omega)]; exact h1))
  have hcell : ∀ W : World, W.heap = w.heap → ∀ j v, M[j]? = some v → W.cell? ((⟨b, i * 4, none⟩ : Addr).add j) = some v := fun W hW j v hj => by
    rw [add_mk]
    simp [World.cell?, hW, hrow, (hMc j v hj).1]
  obtain ⟨ie, z, hie, hsz⟩ : ∃ ie z, Tryd.prog.info? 43 = some ie ∧ ie.size = 4 ∧ z = 0 := ⟨_, 0, rfl, rfl, rfl⟩
  have huS : Tryd.prog.underlying 22 = some (.slice 43) := by kernel_rfl
  have hcp1 : ∀ ty dc sc, (Builtin.copy_ #[22, 22] ty #[.slice (some ⟨b, (i + m) * 4, none⟩) (n + m - (i + m)) dc, .slice (some ⟨b, i * 4, none⟩) (n + m - i) sc]).run Tryd.prog w.drew = .ok (goInt ((n - i : Nat) : Int)) (w.drew.setRow b (R.take ((i + m) * 4) ++ M ++ R.drop ((i + m) * 4 + M.length)).toArray) := fun ty dc sc => by
    have h := run_copyM (P := Tryd.prog) w.drew 22 ty 43 ie huS hie b ((i + m) * 4) (n + m - (i + m)) dc (n - i) (n + m - i) sc ⟨b, i * 4, none⟩ M R.toArray t0 hrow (by simp only [Nat.min_def]; split <;> omega) (by rw [hsz.1]; exact hMl) (hcell w.drew rfl) (by rw [hsz.1]; simp; omega) hMo
    exact h
  obtain ⟨R1, hR1⟩ : ∃ R1, R1 = R.take ((i + m) * 4) ++ M ++ R.drop ((i + m) * 4 + M.length) := ⟨_, rfl⟩
  rw [← hR1] at hcp1
  have hR1l : R1.length = R.length := by rw [hR1]; simp; omega
  have hcp2 : ∀ W : World, W.heap = (w.drew.setRow b R1.toArray).heap → ∀ ty dc, (Builtin.copy_ #[22, 22] ty #[.slice (some ⟨b, i * 4, none⟩) (n + m - i) dc, .slice (some ⟨vb, voff, none⟩) m vc]).run Tryd.prog W = .ok (goInt m) (W.setRow b (R1.take (i * 4) ++ V ++ R1.drop (i * 4 + V.length)).toArray) := fun W hW ty dc => by
    have hb1 : W.heap[b]? = some (.cells R1.toArray t0 (0, 0)) := by rw [hW]; exact setRow_heap w.drew b _ _ t0 (0, 0) hrow
    have h := run_copyM (P := Tryd.prog) W 22 ty 43 ie huS hie b (i * 4) (n + m - i) dc m m vc ⟨vb, voff, none⟩ V R1.toArray t0 hb1 (by simp only [Nat.min_def]; split <;> omega) (by rw [hsz.1]; exact hVl) (fun j v hj => by
      rw [add_mk]
      have := hV j v hj
      simp only [World.cell?] at this ⊢
      rw [hW]
      have hne : (w.drew.setRow b R1.toArray).heap[vb]? = w.heap[vb]? := setRow_other _ _ _ _ hvb
      rw [hne]; exact this) (by rw [hsz.1]; simp; omega) h1v
    exact h
  have hfin : R1.take (i * 4) ++ V ++ R1.drop (i * 4 + V.length) = R.take (i * 4) ++ V ++ M ++ R.drop ((n + m) * 4) := by
    rw [hR1]
    have h1 : (R.take ((i + m) * 4)).length = (i + m) * 4 := by rw [List.length_take]; omega
    have e1 : i * 4 + V.length = (i + m) * 4 := by omega
    have e2 : (i + m) * 4 + M.length = (n + m) * 4 := by omega
    rw [e1, e2, List.append_assoc (R.take ((i + m) * 4)), List.take_append_of_le_length (by omega), List.take_take, Nat.min_eq_left (by omega), List.drop_append_of_le_length (by omega), List.drop_of_length_le (by omega), List.nil_append]
    simp only [List.append_assoc]
  obtain ⟨R2, hR2⟩ : ∃ R2, R2 = R1.take (i * 4) ++ V ++ R1.drop (i * 4 + V.length) := ⟨_, rfl⟩
  rw [← hR2] at hcp2 hfin
  rw [← hM, ← hfin]
  clear hM hMc hMl hMo hcell hfin hR2 hR1 hR1l
  have mixed : Tryd.prog.follows .mixedOrders = true := by kernel_rfl
  go_enter Tryd.func27, Tryd.ntmps27
  go_wp2_with (simp only [hov])
  go_region_law_o (refine step_copy_runI rfl _ _ 22 22 rfl _ _ (by simp [Act.eval, Act.put]) (by simp [Act.eval, Act.put]) (hcp1 _ _ _) ?_)
  go_wp2_with (at_builtin; refine wpList_copy_runI _ rfl _ _ 22 22 rfl _ _ rfl rfl (hcp2 _ rfl _ _) ?_)
  go_ret
  exact ⟨rfl, by rw [setRow_setRow]⟩
set_option maxHeartbeats 4000000 in
set_option maxRecDepth 100000 in
theorem insT_end (base : Option Addr) (n c m vc : Nat) (va : Option Addr) (r : Value) (w w1 : World) (hm : 0 < m) (hnc : n ≤ c) (hc63 : n + m ≤ 4611686018427387904) (hnil : base = none → c = 0)
    (hrun : (Builtin.append_ #[22, 22] 22 #[.slice base n c, .slice va m vc]).run Tryd.prog w = .ok r w1) :
    Calls Tryd.prog 27 #[.slice base n c, .int .i64 n, .slice va m vc] w fun e w' => e = .returned r ∧ w' = w1 := by
  have hz1 : ¬ ((m : Int) = 0) := by omega
  have mixed : Tryd.prog.follows .mixedOrders = true := by kernel_rfl
  go_enter Tryd.func27, Tryd.ntmps27
  cases base with
  | none =>
    have h0 := hnil rfl
    subst h0
    obtain rfl : n = 0 := by omega
    go_wp2_with (at_builtin; refine Lib.wpList_append_run _ rfl _ _ _ _ rfl _ _ rfl rfl _ _ hrun ?_)
    go_ret
    exact ⟨rfl, rfl⟩
  | some a =>
    obtain ⟨ab, ao, asp⟩ := a
    go_wp2_with (at_builtin; refine Lib.wpList_append_run _ rfl _ _ _ _ rfl _ _ rfl rfl _ _ hrun ?_)
    all_goals (go_ret; exact ⟨rfl, rfl⟩)
set_option maxHeartbeats 4000000 in
set_option maxRecDepth 100000 in
theorem insT_grow (b n c i vb voff m vc : Nat) (R V : List Value) (t0 : TypeId) (tA : TypeId) (kA : Nat) (w : World) (hi : i < n) (hm : 0 < m) (hnc : n ≤ c) (hroom : c < n + m) (hbig : (n + m) * 40 ≤ 140737488355328) (hvb : vb < w.heap.size)
    (hrow : w.heap[b]? = some (.cells R.toArray t0 (0, 0))) (hR : c * 4 ≤ R.length) (hone : ∀ v ∈ R.take (n * 4), v.oneCell' = true) (hVl : V.length = m * 4) (hV : ∀ j v, V[j]? = some v → w.cell? ⟨vb, voff + j, none⟩ = some v) (h1v : ∀ v ∈ V, v.oneCell' = true) :
    Calls Tryd.prog 27 #[.slice (some ⟨b, 0, none⟩) n c, .int .i64 i, .slice (some ⟨vb, voff, none⟩) m vc] w fun e w' =>
      ∃ G Z, n + m ≤ G ∧ e = .returned (.slice (some ⟨w.heap.size, 0, none⟩) (n + m) G) ∧ Z.length + (n + m) * 4 = G * 4 ∧ w' = w.drew.drew.alloc (.cells (R.take (i * 4) ++ V ++ (R.drop (i * 4)).take ((n - i) * 4) ++ Z : List Value).toArray 43) := by
  have hz1 : ¬ ((m : Int) = 0) := by omega
  have hz2 : ¬ ((i : Int) = (n : Int)) := by omega
  have hz3 : (c : Int) < (n : Int) + (m : Int) := by omega
  obtain ⟨i0, z, hi0, hz0, hzs, hzc, hzb⟩ : ∃ i0 z, Tryd.prog.info? 43 = some i0 ∧ i0.zero = some z ∧ i0.size = 4 ∧ z.cells.size = 4 ∧ i0.bytes = 40 := ⟨_, _, rfl, rfl, rfl, rfl, rfl⟩
  have huS : Tryd.prog.underlying 22 = some (.slice 43) := by kernel_rfl
  have hu3 : Tryd.prog.underlying 3 = some (.int .i64) := by kernel_rfl
  have hbw : b < w.heap.size := (Array.getElem?_eq_some_iff.1 hrow).1
  have hkk : (n : Int) + (m : Int) - (i : Int) = ((n + m - i : Nat) : Int) := by omega
  have hik : i + (n + m - i) = n + m := by omega
  have hA : (R.take (i * 4)).length = i * 4 := by rw [List.length_take]; omega
  have hrow' : w.drew.heap[b]? = some (.cells R.toArray t0 (0, 0)) := hrow
  have hold : (Builtin.firstCells i0.size i (.slice (some ⟨b, 0, none⟩) i c)).run Tryd.prog w.drew = .ok (R.take (i * 4)).toArray w.drew := by
    rw [hzs]
    exact run_firstCells_some w.drew 4 i ⟨b, 0, none⟩ i c (R.take (i * 4)) hA (fun j v hj => by
      rw [add_mk, Nat.zero_add]
      rw [List.getElem?_take] at hj
      split at hj
      · simp [World.cell?, hrow', hj]
      · cases hj)
  obtain ⟨G, hG⟩ : ∃ G, G = grownCap w (n + m) c 43 := ⟨_, rfl⟩
  have hGn : n + m ≤ G := by rw [hG]; exact grownCap_ge w _ _ _
  obtain ⟨ROW, hROW⟩ : ∃ ROW : Array Value, ROW = (R.take (i * 4)).toArray ++ Builtin.zeroCells z.cells (n + m - i) ++ Builtin.zeroCells z.cells (G - (n + m)) := ⟨_, rfl⟩
  have hRl : ROW.size = G * 4 := by
    rw [hROW]
    simp only [Array.size_append, List.size_toArray, size_zeroCells, hzc, hA]
    omega
  have hrz : ∀ ty, (Builtin.append_ #[22, 3] ty #[.slice (some ⟨b, 0, none⟩) i c, .int .i64 ((n : Int) + (m : Int) - (i : Int))]).run Tryd.prog w =
      .ok (.slice (some ⟨w.heap.size, 0, none⟩) (n + m) G) (w.drew.alloc (.cells ROW 43)) := fun ty => by
    have h := Lib.run_append_grow_zeros w 22 3 ty 43 i0 z .i64 .i64 huS hu3 hi0 hz0 (some ⟨b, 0, none⟩) i c (R.take (i * 4)) hold (n + m - i) (by omega) (by omega) (by omega) (by omega) (by rw [hzb]; omega) (by rw [hzb, hik]; exact growslice_fits hroom hbig)
    rw [hik, ← hG, ← hROW] at h
    rw [hkk]
    exact h
  have hG63 : G ≤ 9223372036854775807 := by
    have := grownCap_le_maxLen w (n + m) c 43 (by unfold maxLen; omega)
    rw [← hG] at this
    unfold maxLen at this
    omega
  obtain ⟨M, hM⟩ : ∃ M, M = (R.drop (i * 4)).take ((n - i) * 4) := ⟨_, rfl⟩
  have hMl : M.length = (n - i) * 4 := by rw [hM, List.length_take, List.length_drop]; omega
  have hMc : ∀ j v, M[j]? = some v → R[i * 4 + j]? = some v ∧ j < (n - i) * 4 := fun j v hj => by
    rw [hM, List.getElem?_take] at hj
    split at hj
    · rw [List.getElem?_drop] at hj; exact ⟨hj, by assumption⟩
    · cases hj
  have hMo : ∀ v ∈ M, v.oneCell' = true := fun v hv => by
    obtain ⟨j, hj⟩ := List.mem_iff_getElem?.1 hv
    obtain ⟨h1, h2⟩ := hMc j v hj
    exact hone v (List.mem_of_getElem? (i := i * 4 + j) (by rw [List.getElem?_take, if_pos (by omega)]; exact h1))
  obtain ⟨N, hN⟩ : ∃ N, N = w.heap.size := ⟨_, rfl⟩
  obtain ⟨W1, hW1⟩ : ∃ W1, W1 = w.drew.alloc (.cells ROW 43) := ⟨_, rfl⟩
  have h1n : W1.heap[N]? = some (.cells ROW 43 (0, 0)) := by rw [hW1, hN]; exact heap_alloc_new w.drew _
  have h1o : ∀ k, k < N → W1.heap[k]? = w.heap[k]? := fun k hk => by rw [hW1]; rw [hN] at hk; show (w.heap.push _)[k]? = _; rw [Array.getElem?_push, if_neg (Nat.ne_of_lt hk)]
  rw [← hN] at hrz hbw hvb
  have hcpA : ∀ W : World, W.heap = W1.heap → ∀ ty dc, (Builtin.copy_ #[22, 22] ty #[.slice (some ⟨N, i * 4, none⟩) (n + m - i) dc, .slice (some ⟨vb, voff, none⟩) m vc]).run Tryd.prog W = .ok (goInt m) (W.setRow N (ROW.toList.take (i * 4) ++ V ++ ROW.toList.drop (i * 4 + V.length)).toArray) := fun W hW ty dc => by
    have hb1 : W.heap[N]? = some (.cells ROW 43 (0, 0)) := by rw [hW]; exact h1n
    exact run_copyM (P := Tryd.prog) W 22 ty 43 i0 huS hi0 N (i * 4) (n + m - i) dc m m vc ⟨vb, voff, none⟩ V ROW 43 hb1 (by simp only [Nat.min_def]; split <;> omega) (by rw [hzs]; exact hVl) (fun j v hj => by
      rw [add_mk]
      have := hV j v hj
      simp only [World.cell?] at this ⊢
      rw [hW, h1o vb hvb]; exact this) (by rw [hzs]; omega) h1v
  obtain ⟨R1, hR1⟩ : ∃ R1, R1 = ROW.toList.take (i * 4) ++ V ++ ROW.toList.drop (i * 4 + V.length) := ⟨_, rfl⟩
  rw [← hR1] at hcpA
  have hRTl : ROW.toList.length = G * 4 := by simpa using hRl
  have hR1l : R1.length = G * 4 := by rw [hR1]; simp only [List.length_append, List.length_take, List.length_drop, hRTl]; omega
  have hcpB : ∀ W : World, W.heap = (W1.setRow N R1.toArray).heap → ∀ ty dc sc, (Builtin.copy_ #[22, 22] ty #[.slice (some ⟨N, (i + m) * 4, none⟩) (n + m - (i + m)) dc, .slice (some ⟨b, i * 4, none⟩) (n - i) sc]).run Tryd.prog W = .ok (goInt ((n - i : Nat) : Int)) (W.setRow N (R1.take ((i + m) * 4) ++ M ++ R1.drop ((i + m) * 4 + M.length)).toArray) := fun W hW ty dc sc => by
    have hb1 : W.heap[N]? = some (.cells R1.toArray 43 (0, 0)) := by rw [hW]; exact setRow_heap W1 N _ _ 43 (0, 0) h1n
    exact run_copyM (P := Tryd.prog) W 22 ty 43 i0 huS hi0 N ((i + m) * 4) (n + m - (i + m)) dc (n - i) (n - i) sc ⟨b, i * 4, none⟩ M R1.toArray 43 hb1 (by simp only [Nat.min_def]; split <;> omega) (by rw [hzs]; exact hMl) (fun j v hj => by
      rw [add_mk]
      simp only [World.cell?]
      have hne : (W1.setRow N R1.toArray).heap[b]? = w.heap[b]? := (setRow_other _ _ _ _ (Nat.ne_of_lt hbw)).trans (h1o b hbw)
      rw [hW, hne, hrow]
      simpa using (hMc j v hj).1) (by rw [hzs]; simp; omega) hMo
  obtain ⟨R2, hR2⟩ : ∃ R2, R2 = R1.take ((i + m) * 4) ++ M ++ R1.drop ((i + m) * 4 + M.length) := ⟨_, rfl⟩
  rw [← hR2] at hcpB
  have hfin : ∃ Z, R2 = R.take (i * 4) ++ V ++ M ++ Z ∧ Z.length + (n + m) * 4 = G * 4 := by
    refine ⟨R1.drop ((i + m) * 4 + M.length), ?_, ?_⟩
    · have hT : ROW.toList.take (i * 4) = R.take (i * 4) := by
        rw [hROW]
        simp only [Array.toList_append]
        rw [List.append_assoc, List.take_append_of_le_length (by omega), List.take_of_length_le (by omega)]
      have h1 : R1.take ((i + m) * 4) = R.take (i * 4) ++ V := by
        rw [hR1, hT]
        exact List.take_left' (by rw [List.length_append]; omega)
      rw [h1] at hR2
      exact hR2
    · rw [List.length_drop]; omega
  rw [← hM]
  obtain ⟨Z, hf1, hf2⟩ := hfin
  have hE1 : ∀ x : World, x = (w.alloc (.cells ROW 43)).drew → x.heap = W1.heap := fun x hx => by rw [hx, hW1]; rfl
  have hGi : ¬ (G = i) := by omega
  have hGim : ¬ (G = i + m) := by omega
  have hci : ¬ (c = i) := by omega
  have hw1 : IntKind.i64.wrap ((i : Int) + (m : Int)) = (i : Int) + (m : Int) := by rw [IntKind.wrap_i64]; omega
  have hw2 : IntKind.i64.wrap ((n : Int) + (m : Int)) = (n : Int) + (m : Int) := by rw [IntKind.wrap_i64]; omega
  have hw3 : IntKind.i64.wrap ((n : Int) + (m : Int) - (i : Int)) = (n : Int) + (m : Int) - (i : Int) := by rw [IntKind.wrap_i64]; omega
  have hb1 : (0 : Int) ≤ (i : Int) + (m : Int) := by omega
  have hin : i ≤ n := by omega
  have hnm : i ≤ n + m := by omega
  have htn : ((i : Int) + (m : Int)).toNat = i + m := by omega
  have hb3 : (i : Int) ≤ (n : Int) := by omega
  subst hW1
  subst hN
  have hEA : ((w.alloc (.cells ROW 43)).drew).heap = (w.drew.alloc (.cells ROW 43)).heap := rfl
  have hEB : (((w.alloc (.cells ROW 43)).drew.setRow w.heap.size R1.toArray).drew).heap = ((w.drew.alloc (.cells ROW 43)).setRow w.heap.size R1.toArray).heap := rfl
  clear hkk hik hold hROW hG hRl hM hMl hMc hMo hR1 hR2 hRTl hR1l hA h1n h1o hzc hzb hzs hz0 hi0 hE1
  have mixed : Tryd.prog.follows .mixedOrders = true := by kernel_rfl
  go_enter Tryd.func27, Tryd.ntmps27
  go_wp2_with (first
    | (at_builtin; refine Lib.wpList_append_run _ rfl _ _ _ _ rfl _ _ rfl rfl _ _ (hrz _) ?_)
    | (at_builtin; refine wpList_copy_runI _ rfl _ _ 22 22 rfl _ _ rfl rfl (hcpA _ hEA _ _) ?_))
  go_region_law_o (refine step_copy_runI rfl _ _ 22 22 rfl (.slice (some ⟨w.heap.size, (i + m) * 4, none⟩) (n + m - (i + m)) (G - (i + m))) (.slice (some ⟨b, i * 4, none⟩) (n - i) (c - i)) (by simp [Act.eval, Act.put]) (by simp [Act.eval, Act.put]) (hcpB _ hEB 3 (G - (i + m)) (c - i)) ?_)
  go_wp2
  go_ret
  refine ⟨G, Z, hGn, rfl, hf2, ?_⟩
  show ((w.drew.drew.alloc (.cells ROW 43)).setRow w.drew.drew.heap.size R1.toArray).setRow w.drew.drew.heap.size (R.take (i * 4) ++ (V ++ (M ++ Z))).toArray = _
  rw [setRow_setRow, alloc_setRow]
  simp only [List.append_assoc]
theorem insT_law : InsLaw Tryd.prog 27 22 43 4 40 := ⟨insT_room, insT_end, fun b n c i vb voff m vc R V t0 tA kA w => insT_grow b n c i vb voff m vc R V t0 tA kA w⟩
set_option maxRecDepth 100000 in
theorem infT : ∃ i z, Tryd.prog.info? 43 = some i ∧ i.zero = some z ∧ i.size = 4 ∧ z.cells.size = 4 ∧ i.bytes = 40 := ⟨_, _, rfl, rfl, rfl, rfl, rfl⟩
theorem ent27 : Ent Tryd.prog 27 := enters_of Tryd.func27 (by kernel_rfl) rfl
theorem insT_snd (l r : List En) (k : Int) (st : Room) (σ : St) (s nb : Nat) (x : List En) (hx : insL l r k = x) (g : 0 ≤ k ∧ k ≤ (l.length : Int) ∧ 0 < l.length ∧ 0 < r.length ∧ (l.length + r.length) * 40 ≤ 140737488355328) (hb : σ.boxes[s]? = some (43, Enc.cellsL l)) (hn : σ.boxes.length = nb) :
    Snd (ITP Tryd.prog) Tryd.prog 27 [.bsl s 0 (List.length l) 4 false, .raw (.int .i64 k), .list (List.length r) (Enc.cellsL r) st] σ (.bsl nb 0 (List.length x) 4 false)
      { σ with boxes := σ.boxes.set s (43, []) ++ [(43, Enc.cellsL x)] } := by
  obtain ⟨i, z, h1, h2, h3, h4, h5⟩ := infT
  have h := ins_snd (α := En) ent27 (by kernel_rfl) h1 h2 h3 h4 h5 (by decide) insT_law l r k.toNat σ s st hb g.2.2.1 g.2.2.2.1 (by omega) g.2.2.2.2
  have hl : x.length = l.length + r.length := by rw [← hx]; simp [insL]; omega
  rw [hn, Int.toNat_of_nonneg g.1, ← hl] at h
  rw [← hx] at h ⊢
  exact h
theorem insT_nil (r : List En) (k : Int) (st : Room) (σ : St) (nb : Nat) (g : k = 0 ∧ 0 < r.length ∧ r.length * 40 ≤ 140737488355328) (hn : σ.boxes.length = nb) :
    Snd (ITP Tryd.prog) Tryd.prog 27 [.list 0 [] .full, .raw (.int .i64 k), .list (List.length r) (Enc.cellsL r) st] σ (.bsl nb 0 (List.length r) 4 false) { σ with boxes := σ.boxes ++ [(43, Enc.cellsL r)] } := by
  obtain ⟨i, z, h1, h2, h3, h4, h5⟩ := infT
  have h := ins_nil (α := En) ent27 (by kernel_rfl) h1 h2 h3 h4 h5 (by decide) insT_law r σ st g.2.1 g.2.2
  rw [hn] at h
  rw [g.1]
  exact h
set_option maxRecDepth 100000 in
set_option maxHeartbeats 4000000 in
theorem cloneT_nil0 (l : List En) (hl : List.isEmpty l = true) : Snd (ITP Tryd.prog) Tryd.prog 19 [.list (List.length l) (Enc.cellsL l) .none] St.empty (.list 0 [] .full) ⟨[], [], [], 0, false⟩ := by
  obtain rfl : l = [] := List.isEmpty_iff.1 hl
  obtain ⟨d, hd⟩ : ∃ d, Tryd.f19.body = some d := ⟨_, rfl⟩
  refine snd_of mix Tryd.func19 hd ent19 ?_
  cases hd
  refine w_start (by dsimp only [abeginS, Tryd.f19, List.length_cons, List.length_nil, Nat.zero_add, Nat.reduceAdd, Nat.reduceSub, List.replicate, List.cons_append, List.nil_append]) (by dsimp only [St.empty]) ?_
  refine w_seq (w_region ?_)
  refine w_op (a := .list 0 [] .full) rfl rfl rfl rfl (by dsimp only [aput, List.set]) ?_
  refine w_seq ?_
  refine w_seq (w_region ?_)
  refine w_op (a := .list 0 [] .none) rfl rfl rfl rfl (by dsimp only [aput, List.set]) ?_
  refine w_nil 0 false rfl rfl rfl ⟨_, _, _, _, _, rfl, .inl ⟨rfl, rfl⟩, rfl, .inl ⟨_, _, rfl⟩⟩ (by dsimp only [aput, List.set]) (by dsimp only [aput, List.set]) (fun h1 => ?_) ?_
  · refine w_true rfl ?_
    refine w_seq (w_region ?_)
    refine w_op (a := .list 0 [] .full) rfl rfl rfl rfl (by dsimp only [aput, List.set]) ?_
    exact end_keep (n := 0) (m := 0) [] [] 1 rfl rfl rfl rfl
  · refine w_false rfl ?_
    refine w_seq (w_region ?_)
    refine w_op (a := .list 0 [] .full) rfl rfl rfl rfl (by dsimp only [aput, List.set]) ?_
    refine w_op (a := .list 0 [] .none) rfl rfl rfl rfl (by dsimp only [aput, List.set]) ?_
    refine w_op (a := .list 0 [] .full) rfl rfl rfl rfl (by dsimp only [aput, List.set]) ?_
    refine w_op (a := .list 0 [] .full) rfl rfl rfl rfl (by dsimp only [aput, List.set]) ?_
    exact end_keep (n := 0) (m := 0) [] [] 1 rfl rfl rfl rfl
set_option maxRecDepth 100000 in
set_option maxHeartbeats 4000000 in
theorem cloneT_some0 (l : List En) (g : List.length l * 40 ≤ 140737488355328) (hl : List.isEmpty l = false) : Snd (ITP Tryd.prog) Tryd.prog 19 [.list (List.length l) (Enc.cellsL l) .none] St.empty (.bsl 0 0 (List.length l) 4 false) ⟨[(43, Enc.cellsL l)], [], [], 0, false⟩ := by
  have h0 : l ≠ [] := fun e => by rw [e] at hl; cases hl
  have hp := List.length_pos_iff.2 h0
  obtain ⟨d, hd⟩ : ∃ d, Tryd.f19.body = some d := ⟨_, rfl⟩
  refine snd_of mix Tryd.func19 hd ent19 ?_
  cases hd
  refine w_start (by dsimp only [abeginS, Tryd.f19, List.length_cons, List.length_nil, Nat.zero_add, Nat.reduceAdd, Nat.reduceSub, List.replicate, List.cons_append, List.nil_append]) (by dsimp only [St.empty]) ?_
  refine w_seq (w_region ?_)
  refine w_op (a := .list 0 [] .full) rfl rfl rfl rfl (by dsimp only [aput, List.set]) ?_
  refine w_seq ?_
  refine w_seq (w_region ?_)
  refine w_op (a := .list l.length (Enc.cellsL l) .none) rfl rfl rfl rfl (by dsimp only [aput, List.set]) ?_
  refine w_nil l.length false rfl rfl rfl ⟨_, _, _, _, _, rfl, .inl ⟨rfl, rfl⟩, rfl, .inl ⟨_, _, rfl⟩⟩ (by dsimp only [aput, List.set]) (by dsimp only [aput, List.set]) (fun h1 => ?_) ?_
  · omega
  · refine w_false rfl ?_
    refine w_seq (w_region ?_)
    refine w_op (a := .list 0 [] .full) rfl rfl rfl rfl (by dsimp only [aput, List.set]) ?_
    refine w_op (a := .list l.length (Enc.cellsL l) .none) rfl rfl rfl rfl (by dsimp only [aput, List.set]) ?_
    refine w_opB rfl rfl rfl (opB_list rfl rfl rfl rfl rfl rfl rfl rfl rfl (aSrc_list ⟨rfl, Enc.lenL l, by decide⟩) ⟨by decide, rfl, hp⟩ ⟨rfl, by unfold maxLen; omega, by show (0 + l.length) * 40 ≤ _; omega⟩) (by dsimp only [aput, List.set]) rfl ?_
    refine w_op rfl rfl rfl rfl (by dsimp only [aput, List.set, aval, List.getElem?_cons_zero, List.getElem?_cons_succ, Option.getD]) ?_
    refine end_keep (n := 0) (m := 0) [] [0] 1 rfl rfl ?_ ?_
    · rw [Nat.zero_add]; rfl
    · exact keep_of (keep_cons (cs := Enc.cellsL l) rfl (mapKL_clo _ _ _ (Enc.cloL _)) keep_nil) rfl
theorem cloneT_nil (l : List En) (hl : List.isEmpty l = true) (σ : St) : Snd (ITP Tryd.prog) Tryd.prog 19 [.list (List.length l) (Enc.cellsL l) .none] σ (.list 0 [] .full) σ := by
  have h := snd_lift (itp_mono _) (cloneT_nil0 l hl) (args := [.list l.length (Enc.cellsL l) .none]) (by rw [stripL, strip, Enc.stripL]; rfl) (by rw [okTrimL, okTrim, okTrimL_clo _ _ (Enc.cloL l)]; rfl) σ
  simpa [mapK, mapKL, roomK, shz, shBoxes] using h
theorem cloneT_some (l : List En) (g : List.length l * 40 ≤ 140737488355328) (hl : List.isEmpty l = false) (n : Nat) (σ : St) (hσ : σ.boxes.length = n) : Snd (ITP Tryd.prog) Tryd.prog 19 [.list (List.length l) (Enc.cellsL l) .none] σ (.bsl n 0 (List.length l) 4 false) { σ with boxes := σ.boxes ++ [(43, Enc.cellsL l)] } := by
  subst hσ
  have h := snd_lift (itp_mono _) (cloneT_some0 l g hl) (args := [.list l.length (Enc.cellsL l) .none]) (by rw [stripL, strip, Enc.stripL]; rfl) (by rw [okTrimL, okTrim, okTrimL_clo _ _ (Enc.cloL l)]; rfl) σ
  simpa [mapK, mapKL, roomK, shz, shBoxes, mapKL_clo _ _ _ (Enc.cloL l)] using h
end Go.Ab

