/-
  The contract of sets.FromSpans.
-/
import Derived.Test.YtjmhbbbpjbgmjaaZseSpans
set_option linter.unusedSimpArgs false
set_option linter.unusedVariables false
namespace Go.Proofs.Ytjmhbbbpjbgmjaa
open Go.RowKit Go.Fwd Go.Shelf

/-- The set of all bytes in spans. -/
def fromS (L : List (Nat × Nat)) : BS := L.foldl (fun S p => S ||| rangeS p.1 p.2) 0#256
theorem fromS_snoc (L : List (Nat × Nat)) (p : Nat × Nat) : fromS (L ++ [p]) = fromS L ||| rangeS p.1 p.2 := by simp [fromS]
theorem spc_get (L : List (Nat × Nat)) (k : Nat) (h : k < L.length) : (spc L)[k * 2]? = some (.int .u8 (L[k].1 : Int)) ∧ (spc L)[k * 2 + 1]? = some (.int .u8 (L[k].2 : Int)) := by
  have e : L = L.take k ++ ([L[k]] ++ L.drop (k + 1)) := by simp
  have hl : (spc (L.take k)).length = k * 2 := by rw [spc_len, List.length_take]; omega
  generalize hx : L[k] = x at *
  rw [e, spc_app, spc_app]
  constructor
  · rw [List.getElem?_append_right (by omega), hl]; simp [spc]
  · rw [List.getElem?_append_right (by omega), hl, show k * 2 + 1 - k * 2 = 1 by omega]; simp [spc]

set_option maxRecDepth 100000 in
set_option maxHeartbeats 2000000 in
theorem fromSpans_any (L : List (Nat × Nat)) (hL : ∀ p ∈ L, p.1 < 256 ∧ p.2 < 256) (hlen : L.length ≤ 1099511627776) (v : Value) (w : World) (hv : SlAt L.length (spc L) v w) :
    Calls Try.prog 28 #[v] w (Ret (sv (fromS L)) w) := by
  rcases hv with ⟨rfl, h1, h2⟩ | ⟨b, o, cap, rfl, hb, hc⟩
  · have hb : L = [] := by simpa using h1
    subst hb
    go_enter Try.func28, Try.ntmps28
    go_wp2
    refine wp_loop_rounds 1 ?_
    rw [rounds_succ]
    go_wp2
    refine bodyPost_ret (v := sv 0#256) (by simp [results, Try.results28, go_sem, sv, wd_zero]) rfl ⟨rfl, ?_⟩
    repeat (first | exact Ex.refl _ _ | refine Ex.alloc ?_ (by simp) _ | refine Ex.setCell ?_ (by simp) _)
  · go_enter Try.func28, Try.ntmps28
    go_wp2
    go_loopw [8] (fun i wr => ∃ (k : Nat), k ≤ L.length ∧ i = .int .i64 k ∧ wr.heap[w.heap.size + 1]? = some (.cells (sc (fromS (L.take k))) 24 (0, 0)) ∧
        wr.heap[w.heap.size]? = some (.cells #[.int .u64 0, .int .u64 0, .int .u64 0, .int .u64 0] 24 (0, 0)) ∧ Ex w.heap.size w wr) (fun i _ => L.length - (intOf i).toNat)
    case atStart =>
      refine ⟨0, Nat.zero_le _, rfl, ?_, ?_, ?_⟩
      · rw [heap_new _ _ _ (by simp)]; simp [sc, wd_zero, fromS]
      · exact (Below.heap_alloc _ _ _ (by simp)).trans (heap_new _ _ _ rfl)
      · exact ((Ex.refl _ _).alloc (Nat.le_refl _) _).alloc (by simp) _
    case round =>
      obtain ⟨k, hk1, rfl, hb1, hb0, hbel⟩ := hrel
      by_cases hlt : k < L.length
      · obtain ⟨q1, q2⟩ := spc_get L k hlt
        have hp := hL L[k] (List.getElem_mem hlt)
        have hs := fromS_snoc (L.take k) L[k]
        rw [List.take_append_getElem hlt] at hs
        have c1 : wr.cell? ⟨b, o + k * 2, none⟩ = some (.int .u8 (L[k].1 : Int)) := (hbel.cell (p := ⟨b, o + k * 2, none⟩) hb).trans (hc _ _ q1)
        have c2 : wr.cell? ⟨b, o + k * 2 + 1, none⟩ = some (.int .u8 (L[k].2 : Int)) := (hbel.cell (p := ⟨b, o + k * 2 + 1, none⟩) hb).trans (hc _ _ q2)
        generalize hx : L[k] = x at *
        obtain ⟨lo, hi⟩ := x
        simp only at c1 c2 hp hs
        have HS := Lib.hid hs
        clear hs q1 q2 hx hL hc
        generalize fromS (L.take k) = S at *
        have hR : ∀ W, Calls Try.prog 30 #[.int .u8 lo, .int .u8 hi] W (Ret (sv (rangeS lo hi)) W) := range_any lo hi hp.1 hp.2
        have hO : ∀ W, Calls Try.prog 16 #[sv S, sv (rangeS lo hi)] W (Ret (sv (S ||| rangeS lo hi)) W) := or_any _ _
        go_wp2_with fail
        obtain ⟨w0, hw0⟩ : ∃ w0, w0 = wr.alloc (.cells #[.int .u8 (lo : Int), .int .u8 (hi : Int)] 49) := ⟨_, rfl⟩
        rw [← hw0]
        have d1 : w0.cell? ⟨wr.heap.size, 0, none⟩ = some (.int .u8 (lo : Int)) := by rw [hw0, cell_of_row _ _ _ _ _ _ (heap_new _ _ _ rfl)]; rfl
        have d2 : w0.cell? ⟨wr.heap.size, 1, none⟩ = some (.int .u8 (hi : Int)) := by rw [hw0, cell_of_row _ _ _ _ _ _ (heap_new _ _ _ rfl)]; rfl
        have hsz : wr.heap.size < w0.heap.size := by rw [hw0]; simp
        have hw10 : w.heap.size + 1 < wr.heap.size := (Array.getElem?_eq_some_iff.1 hb1).1
        have hb1' : w0.heap[w.heap.size + 1]? = some (.cells (sc S) 24 (0, 0)) := by rw [hw0]; exact (Below.heap_alloc _ _ _ (by omega)).trans hb1
        have hb0' : w0.heap[w.heap.size]? = some (.cells #[.int .u64 0, .int .u64 0, .int .u64 0, .int .u64 0] 24 (0, 0)) := by rw [hw0]; exact (Below.heap_alloc _ _ _ (by omega)).trans hb0
        have hbel' : Ex w.heap.size w w0 := by rw [hw0]; exact hbel.alloc hbel.size _
        clear hw0 c1 c2
        refine wp_region_fwd 7 (by kernel_rfl) (by kernel_rfl) ?_
        simp only [List.take_succ_cons, List.take_zero, List.drop_succ_cons, List.drop_zero]
        refine fwd_load rfl rfl (by rintro ρ W ⟨_, _, _, hr⟩; simp [Op.operands, Call.operands, readsOf, All, env, Is, Act.eval, accOf] at hr; exact hr) hb1' Try.underlying24 rfl info24 ?_
        refine fwd_is (e := ?_) rfl ?_ ?_
        rotate_left
        · rintro ρ W ⟨h1, h2, hW, hr⟩
          try simp [Op.operands, Call.operands, readsOf, All, env, Is, Act.eval, accOf] at hr
          go_simp
          try go_bits
          try rfl
        refine fwd_is (e := ?_) rfl ?_ ?_
        rotate_left
        · rintro ρ W ⟨h1, h2, hW, hr⟩
          try simp [Op.operands, Call.operands, readsOf, All, env, Is, Act.eval, accOf] at hr
          obtain ⟨hcW, hfW⟩ := bcell hW
          go_simp
          try rfl
        refine fwd_is (e := ?_) rfl ?_ ?_
        rotate_left
        · rintro ρ W ⟨h1, h2, hW, hr⟩
          try simp [Op.operands, Call.operands, readsOf, All, env, Is, Act.eval, accOf] at hr
          go_simp
          try go_bits
          try rfl
        refine fwd_is (e := ?_) rfl ?_ ?_
        rotate_left
        · rintro ρ W ⟨h1, h2, hW, hr⟩
          try simp [Op.operands, Call.operands, readsOf, All, env, Is, Act.eval, accOf] at hr
          obtain ⟨hcW, hfW⟩ := bcell hW
          go_simp
          try rfl
        refine fwd_call (e := ?_) (f := ?_) (args := ?_) rfl ?_ ?_ ?_
        rotate_left 3
        · rintro ρ W ⟨h1, h2, hW, hr⟩
          try simp [Op.operands, Call.operands, readsOf, All, env, Is, Act.eval, accOf] at hr
          go_simp
          try go_bits
          refine ⟨?_, ?_⟩ <;> rfl
        · exact hR
        refine fwd_call (e := ?_) (f := ?_) (args := ?_) rfl ?_ ?_ ?_
        rotate_left 3
        · rintro ρ W ⟨h1, h2, hW, hr⟩
          try simp [Op.operands, Call.operands, readsOf, All, env, Is, Act.eval, accOf] at hr
          go_simp
          try go_bits
          refine ⟨?_, ?_⟩ <;> rfl
        · exact hO
        refine fwd_nil ?_
        intro w9 hg9
        simp [EndAt, accOf, Is, Act.put]
        have hb1'' : w9.heap[w.heap.size + 1]? = some (.cells (sc S) 24 (0, 0)) := (hg9.block _ (by omega)).trans hb1'
        have hb0'' := (hg9.block w.heap.size (by omega)).trans hb0'
        have hbel'' := hbel'.trans (Ex.mono hg9 (by omega))
        refine wpList_store_rowTo' rfl 24 (.tmp 3) (.tmp 18) rfl rfl (w.heap.size + 1) (sc (S ||| rangeS lo hi)) rfl rfl 24 _ hb1'' info24 rfl (sc_one _) ?_
        go_wp2
        refine ⟨⟨k + 1, by omega, by go_num, ?_, ?_, ?_⟩, by simp [intOf]; omega⟩
        · rw [HS.out]; exact setRow_heap _ _ _ _ _ _ hb1''
        · exact (Ex.setRow (B := w.heap.size + 1) (Ex.refl _ _) (Nat.le_refl _) _).block w.heap.size (by omega) |>.trans hb0''
        · exact Ex.setRow hbel'' (by omega) _
      · obtain rfl : k = L.length := by omega
        rw [List.take_length] at hb1
        go_wp2_with (first | (refine wpList_load_row rfl 24 (.tmp 3) rfl (w.heap.size + 1) rfl 24 (sc (fromS L)) (0, 0) _ hb1 Try.underlying24 rfl info24 ?_) | (refine wpList_store_rowTo' rfl 24 (.tmp 2) (.tmp 20) rfl rfl w.heap.size (sc (fromS L)) rfl rfl 24 _ hb0 info24 rfl (sc_one _) ?_))
        refine bodyPost_ret (v := sv (fromS L)) (results_cell_row rfl _ _ w.heap.size 24 _ (0, 0) _ rfl (setRow_heap _ _ _ _ _ _ hb0) Try.underlying24 rfl info24) rfl ?_
        exact ⟨rfl, Ex.setRow hbel (Nat.le_refl _) _⟩
end Go.Proofs.Ytjmhbbbpjbgmjaa
