/-
  The contracts of sets.Range and sets.Of.
-/
import Derived.Test.YtjmhbbbpjbgmjaaZseOps
import Derived.LoopTactic
import Derived.Lib.Hide
set_option linter.unusedSimpArgs false
set_option linter.unusedVariables false
namespace Go.Proofs.Ytjmhbbbpjbgmjaa
open Go.RowKit Go.Fwd Go.Shelf

/-- The set of the bytes of which p holds. -/
def setOf (p : Nat → Bool) : BS := (List.range 256).foldl (fun S c => if p c then S ||| (1#256 <<< c) else S) 0#256
theorem setOf_get (p : Nat → Bool) (i : Nat) : (setOf p).getLsbD i = (decide (i < 256) && p i) := by
  have key : ∀ n, n ≤ 256 → ((List.range n).foldl (fun S c => if p c then S ||| (1#256 <<< c) else S) 0#256).getLsbD i = (decide (i < n) && p i) := by
    intro n
    induction n with
    | zero => intro _; simp
    | succ n ih =>
      intro hn
      rw [List.range_succ, List.foldl_append]
      simp only [List.foldl_cons, List.foldl_nil]
      by_cases hp : p n = true
      · rw [if_pos hp, BitVec.getLsbD_or, ih (by omega)]
        simp only [BitVec.getLsbD_shiftLeft, BitVec.getLsbD_one]
        by_cases hin : i = n
        · subst hin; simp [hp]; omega
        · by_cases hlt : i < n
          · simp [hlt]; omega
          · have h1 : i - n ≠ 0 := by omega
            have h2 : ¬ i < n + 1 := by omega
            simp [hlt, h1, h2]
      · rw [if_neg hp, ih (by omega)]
        by_cases hin : i = n
        · subst hin; simp [hp]
        · have : (i < n) = (i < n + 1) := by simp; omega
          simp [this]
  exact key 256 (Nat.le_refl _)
def rangeS (lo hi : Nat) : BS := setOf fun c => decide (lo ≤ c ∧ c ≤ hi)

theorem bit_get (c i : Nat) : (1#256 <<< c).getLsbD i = (decide (i < 256) && decide (i = c)) := by
  simp only [BitVec.getLsbD_shiftLeft, BitVec.getLsbD_one]
  by_cases h : i = c
  · subst h; simp
  · by_cases h2 : i < c
    · simp [h, h2]
    · have : i - c ≠ 0 := by omega
      simp [h, h2, this]

theorem sc_get (S : BS) (i : Nat) (h : i < 4) : (sc S)[i]? = some (.int .u64 (wd S i)) := by
  have := look4 S i h
  simpa [sc] using this
theorem sc_bit (S : BS) (c : Nat) (hc : c < 256) (x : Int) (hx : x = wn (W S (c / 64) ||| 1#64 <<< (c % 64))) : (sc S).setIfInBounds (c / 64) (.int .u64 x) = sc (S ||| 1#256 <<< c) := by
  subst hx
  have h4 : c / 64 < 4 := by omega
  have e : ∀ i, i < 4 → W (S ||| 1#256 <<< c) i = if i = c / 64 then W S i ||| 1#64 <<< (c % 64) else W S i := by
    intro i hi
    rw [W_or, W_bit c i hc hi]; split <;> simp
  have f : ∀ i, i < 4 → wd (S ||| 1#256 <<< c) i = if i = c / 64 then wn (W S (c / 64) ||| 1#64 <<< (c % 64)) else wd S i := by
    intro i hi
    unfold wd; rw [e i hi]; split
    · rename_i h; rw [h]
    · rfl
  generalize c / 64 = q at *
  unfold sc
  rw [f 0 (by omega), f 1 (by omega), f 2 (by omega), f 3 (by omega)]
  match q, h4 with
  | 0, _ => rfl
  | 1, _ => rfl
  | 2, _ => rfl
  | 3, _ => rfl

theorem or_shl (S : BS) (k : Nat) : bits .or .u64 (wd S (k / 64)) (IntKind.u64.wrap (2 ^ (k % 64))) = wn (W S (k / 64) ||| 1#64 <<< (k % 64)) := by
  have e : IntKind.u64.wrap (2 ^ (k % 64)) = wn (1#64 <<< (k % 64)) := by
    unfold wn
    rw [IntKind.wrap_u64, BitVec.toNat_shiftLeft, Nat.shiftLeft_eq]
    have : 2 ^ (k % 64) < 2 ^ 64 := Nat.pow_lt_pow_right (by omega) (by omega)
    simp
  rw [e]; exact bits_or' _ _
theorem and63_i64 (k : Nat) (hk : k < 256) : bits .and .i64 (k : Int) 63 = ((k % 64 : Nat) : Int) := by
  unfold bits
  simp only [IntKind.bits]
  have e1 : BitVec.ofInt 64 (k : Int) = BitVec.ofNat 64 k := by simp
  have e2 : BitVec.ofInt 64 63 = BitVec.ofNat 64 63 := by decide
  rw [e1, e2]
  have e3 : (BitVec.ofNat 64 k &&& BitVec.ofNat 64 63).toNat = k % 64 := by
    rw [BitVec.toNat_and, BitVec.toNat_ofNat, BitVec.toNat_ofNat, Nat.mod_eq_of_lt (by omega : k < 2 ^ 64)]
    exact Nat.and_two_pow_sub_one_eq_mod k 6
  refine (congrArg (fun n : Nat => IntKind.i64.wrap (n : Int)) e3).trans ?_
  simp [IntKind.wrap, IntKind.bits, IntKind.signed]; omega

set_option maxRecDepth 100000 in
set_option maxHeartbeats 1000000 in
theorem range_any (lo hi : Nat) (hlo : lo < 256) (hhi : hi < 256) (w : World) : Calls Try.prog 30 #[.int .u8 lo, .int .u8 hi] w (Ret (sv (rangeS lo hi)) w) := by
  go_enter Try.func30, Try.ntmps30
  go_wp2
  go_loopw [6] (fun i wr => ∃ (k : Nat) (S : BS), lo ≤ k ∧ k ≤ 256 ∧ (k ≤ hi + 1 ∨ k = lo) ∧ i = .int .i64 k ∧ (∀ c, S.getLsbD c = decide (lo ≤ c ∧ c < k)) ∧ wr.heap[w.heap.size + 1]? = some (.cells (sc S) 24 (0, 0)) ∧
      wr.heap[w.heap.size]? = some (.cells #[.int .u64 0, .int .u64 0, .int .u64 0, .int .u64 0] 24 (0, 0)) ∧ Ex w.heap.size w wr) (fun i _ => 256 - (intOf i).toNat)
  case atStart =>
    refine ⟨lo, 0#256, Nat.le_refl _, by omega, .inr rfl, rfl, fun c => by simp, ?_, ?_, ?_⟩
    · rw [heap_new _ _ _ (by simp)]; simp [sc, wd_zero]
    · exact (Below.heap_alloc _ _ _ (by simp)).trans (heap_new _ _ _ rfl)
    · exact ((Ex.refl _ _).alloc (Nat.le_refl _) _).alloc (by simp) _
  case round =>
    obtain ⟨k, S, hk1, hk2, hk3, rfl, hS, hb1, hb0, hbel⟩ := hrel
    by_cases hle : k ≤ hi
    · have hi4 : (k : Int) / 64 < 4 := by omega
      have hi0 : 0 ≤ (k : Int) / 64 := by omega
      go_wp2_with fail
      have hcell : wr.cell? ⟨w.heap.size + 1, ((k : Int) / 64).toNat, none⟩ = some (.int .u64 (wd S (k / 64))) := by rw [cell_of_row _ _ _ _ _ _ hb1, show ((k : Int) / 64).toNat = k / 64 by omega]; exact sc_get S _ (by omega)
      have hfz : wr.frozen? ⟨w.heap.size + 1, ((k : Int) / 64).toNat, none⟩ = false := frozen_of_row _ _ _ _ _ hb1
      have hb63 := and63_i64 k (by omega)
      refine region_tail 9 (by kernel_rfl) (by kernel_rfl) ?_
      simp only [List.take_succ_cons, List.take_zero, List.drop_succ_cons, List.drop_zero]
      repeat still_step
      refine wpStill_nil ?_
      go_wp2
      refine ⟨⟨k + 1, S ||| 1#256 <<< k, by omega, by omega, .inl (by omega), by go_num, fun c => ?_, ?_, ?_, ?_⟩, by simp [intOf]; omega⟩
      · rw [BitVec.getLsbD_or, hS, bit_get, Bool.eq_iff_iff]; simp only [decide_eq_true_eq, Bool.and_eq_true, Bool.or_eq_true]; omega
      · rw [← sc_bit S k (by omega) _ (or_shl S k)]; exact heap_setCell_same _ _ _ _ _ _ hb1
      · exact (heap_setCell_other _ _ _ _ (by simp)).trans hb0
      · exact (hbel.setCell (by simp) _).drew
    · go_wp2_with (first | (refine wpList_load_row rfl 24 (.tmp 5) rfl (w.heap.size + 1) rfl 24 (sc S) (0, 0) _ hb1 Try.underlying24 rfl info24 ?_) | (refine wpList_store_rowTo' rfl 24 (.tmp 4) (.tmp 24) rfl rfl w.heap.size (sc S) rfl rfl 24 _ hb0 info24 rfl (sc_one _) ?_))
      refine bodyPost_ret (v := sv S) (results_cell_row rfl _ _ w.heap.size 24 _ (0, 0) _ rfl (setRow_heap _ _ _ _ _ _ hb0) Try.underlying24 rfl info24) rfl ?_
      have e : S = rangeS lo hi := by
        apply BitVec.eq_of_getLsbD_eq; intro j hj
        rw [hS, rangeS, setOf_get]
        rw [Bool.eq_iff_iff]; simp only [decide_eq_true_eq, Bool.and_eq_true, hj, true_and]; omega
      rw [e]
      exact ⟨rfl, Ex.setRow hbel (Nat.le_refl _) _⟩

def u8s (bs : List Nat) : List Value := bs.map fun x : Nat => .int .u8 (x : Int)
def ofS (bs : List Nat) : BS := setOf fun c => bs.contains c
theorem setOf_nil : (setOf fun _ => false) = 0#256 := by
  apply BitVec.eq_of_getLsbD_eq; intro j hj; rw [setOf_get]; simp

set_option maxRecDepth 100000 in
set_option maxHeartbeats 1000000 in
theorem of_any (bs : List Nat) (hbs : ∀ x ∈ bs, x < 256) (hlen : bs.length ≤ 1099511627776) (v : Value) (w : World) (hv : SlAt bs.length (u8s bs) v w) : Calls Try.prog 13 #[v] w (Ret (sv (ofS bs)) w) := by
  rcases hv with ⟨rfl, h1, h2⟩ | ⟨b, o, cap, rfl, hb, hc⟩
  · have hb : bs = [] := by simpa using h1
    subst hb
    go_enter Try.func13, Try.ntmps13
    go_wp2
    refine wp_loop_rounds 1 ?_
    rw [rounds_succ]
    go_wp2
    refine bodyPost_ret (v := sv (ofS [])) (by simp [results, Try.results13, go_sem, sv, ofS, setOf_nil, wd_zero]) rfl ⟨rfl, ?_⟩
    repeat (first | exact Ex.refl _ _ | refine Ex.alloc ?_ (by simp) _ | refine Ex.setCell ?_ (by simp) _)
  · go_enter Try.func13, Try.ntmps13
    go_wp2
    go_loopw [8] (fun i wr => ∃ (k : Nat) (S : BS), k ≤ bs.length ∧ i = .int .i64 k ∧ (∀ c, S.getLsbD c = decide (c < 256 ∧ c ∈ bs.take k)) ∧ wr.heap[w.heap.size + 1]? = some (.cells (sc S) 24 (0, 0)) ∧
        wr.heap[w.heap.size]? = some (.cells #[.int .u64 0, .int .u64 0, .int .u64 0, .int .u64 0] 24 (0, 0)) ∧ Ex w.heap.size w wr) (fun i _ => bs.length - (intOf i).toNat)
    case atStart =>
      refine ⟨0, 0#256, Nat.zero_le _, rfl, fun c => by simp, ?_, ?_, ?_⟩
      · rw [heap_new _ _ _ (by simp)]; simp [sc, wd_zero]
      · exact (Below.heap_alloc _ _ _ (by simp)).trans (heap_new _ _ _ rfl)
      · exact ((Ex.refl _ _).alloc (Nat.le_refl _) _).alloc (by simp) _
    case round =>
      obtain ⟨k, S, hk1, rfl, hS, hb1, hb0, hbel⟩ := hrel
      by_cases hlt : k < bs.length
      · have hx := hbs bs[k] (List.getElem_mem hlt)
        have hcb : wr.cell? ⟨b, o + k, none⟩ = some (.int .u8 (bs[k] : Nat)) := (hbel.cell (p := ⟨b, o + k, none⟩) hb).trans (hc k _ (by simp [u8s, hlt]))
        generalize hxe : bs[k] = x at *
        have HX := Lib.hid hxe
        clear hxe
        have hcell : wr.cell? ⟨w.heap.size + 1, x / 64, none⟩ = some (.int .u64 (wd S (x / 64))) := by rw [cell_of_row _ _ _ _ _ _ hb1]; exact sc_get S _ (by omega)
        have hfz : wr.frozen? ⟨w.heap.size + 1, x / 64, none⟩ = false := frozen_of_row _ _ _ _ _ hb1
        go_wp2
        refine ⟨⟨k + 1, S ||| 1#256 <<< x, by omega, by go_num, fun c => ?_, ?_, ?_, ?_⟩, by simp [intOf]; omega⟩
        · rw [BitVec.getLsbD_or, hS, bit_get, Bool.eq_iff_iff, List.take_succ_eq_append_getElem hlt, HX.out]; simp only [decide_eq_true_eq, Bool.and_eq_true, Bool.or_eq_true, List.mem_append, List.mem_singleton]; exact and_or_left.symm
        · rw [← sc_bit S x (by omega) _ (or_shl S x)]; exact heap_setCell_same _ _ _ _ _ _ hb1
        · exact (heap_setCell_other _ _ _ _ (by simp)).trans hb0
        · exact hbel.setCell (by simp) _
      · obtain rfl : k = bs.length := by omega
        go_wp2_with (first | (refine wpList_load_row rfl 24 (.tmp 3) rfl (w.heap.size + 1) rfl 24 (sc S) (0, 0) _ hb1 Try.underlying24 rfl info24 ?_) | (refine wpList_store_rowTo' rfl 24 (.tmp 2) (.tmp 22) rfl rfl w.heap.size (sc S) rfl rfl 24 _ hb0 info24 rfl (sc_one _) ?_))
        refine bodyPost_ret (v := sv S) (results_cell_row rfl _ _ w.heap.size 24 _ (0, 0) _ rfl (setRow_heap _ _ _ _ _ _ hb0) Try.underlying24 rfl info24) rfl ?_
        have e : S = ofS bs := by
          apply BitVec.eq_of_getLsbD_eq; intro j hj
          rw [hS, ofS, setOf_get]
          simp [hj]
        rw [e]
        exact ⟨rfl, Ex.setRow hbel (Nat.le_refl _) _⟩
end Go.Proofs.Ytjmhbbbpjbgmjaa
