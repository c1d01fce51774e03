/-
  The contract of reparteelaw01.awake: the examples of the chapter hold.
-/
import Derived.Test.YtjmhbbbpjbgmjaaZseFacts
import Derived.Test.YtjmhbbbpjbgmjaaZabSteps2
set_option linter.unusedSimpArgs false
set_option linter.unusedVariables false
namespace Go.Proofs.Ytjmhbbbpjbgmjaa
open Go.RowKit Go.Fwd Go.Shelf Go.Proofs

theorem eqSelf (a b c d : Int) (W : World) : (Op.equalIn 10000 24 (.agg #[.int .u64 a, .int .u64 b, .int .u64 c, .int .u64 d]) (.agg #[.int .u64 a, .int .u64 b, .int .u64 c, .int .u64 d])).run Try.prog W = .ok true W := by rw [eqIn24]; simp
theorem run_sizeOf5 (w : World) : (Go.sizeOf 5).run Try.prog w = .ok 1 w := by kernel_rfl
theorem eqSpan (a b : Int) (W : World) : (Op.equalIn 10000 49 (.agg #[.int .u8 a, .int .u8 b]) (.agg #[.int .u8 a, .int .u8 b])).run Try.prog W = .ok true W := by
  rw [show (10000 : Nat) = 9998 + 1 + 1 from rfl, Op.equalIn]
  have hq : ∀ (a : Int) (w : World), (Op.equalIn (9998 + 1) 5 (.int .u8 a) (.int .u8 a)).run Try.prog w = .ok true w := fun a w => by rw [run_equalIn_int w 9998 5 .u8 .u8 a a Try.underlying5]; simp
  have hn : ∀ w : World, (isAgg 5).run Try.prog w = .ok false w := fun w => by kernel_rfl
  simp only [Sem.run_bind, run_underlying Try.underlying49, Result.andThen_ok, run_sizeOf5]
  simp [part, hn, Sem.run_bind, hq, run_sizeOf5, Result.andThen]

set_option maxRecDepth 100000 in
set_option maxHeartbeats 8000000 in
theorem awake_any (w : World) : Calls Try.prog 10 #[] w (Ret (.bool true) w) := by
  have eqS := eqSelf
  have eqP := eqSpan
  have h30a : ∀ W, Calls Try.prog 30 #[.int .u8 97, .int .u8 99] W (Ret (sv (rangeS 97 99)) W) := range_any 97 99 (by omega) (by omega)
  have h30b : ∀ W, Calls Try.prog 30 #[.int .u8 98, .int .u8 100] W (Ret (sv (rangeS 98 100)) W) := range_any 98 100 (by omega) (by omega)
  have h30c : ∀ W, Calls Try.prog 30 #[.int .u8 0, .int .u8 96] W (Ret (sv (rangeS 0 96)) W) := range_any 0 96 (by omega) (by omega)
  have h30d : ∀ W, Calls Try.prog 30 #[.int .u8 101, .int .u8 255] W (Ret (sv (rangeS 101 255)) W) := range_any 101 255 (by omega) (by omega)
  have h13b : ∀ v W, SlAt 1 [.int .u8 98] v W → Calls Try.prog 13 #[v] W (Ret (sv (ofS [98])) W) := fun v W h => of_any [98] (by decide) (by decide) v W h
  have h13c : ∀ v W, SlAt 3 [.int .u8 99, .int .u8 97, .int .u8 99] v W → Calls Try.prog 13 #[v] W (Ret (sv (ofS [99, 97, 99])) W) := fun v W h => of_any [99, 97, 99] (by decide) (by decide) v W h
  have h13a : ∀ v W, SlAt 1 [.int .u8 97] v W → Calls Try.prog 13 #[v] W (Ret (sv (ofS [97])) W) := fun v W h => of_any [97] (by decide) (by decide) v W h
  have h13d : ∀ v W, SlAt 1 [.int .u8 100] v W → Calls Try.prog 13 #[v] W (Ret (sv (ofS [100])) W) := fun v W h => of_any [100] (by decide) (by decide) v W h
  have h13ab : ∀ v W, SlAt 2 [.int .u8 97, .int .u8 98] v W → Calls Try.prog 13 #[v] W (Ret (sv (ofS [97, 98])) W) := fun v W h => of_any [97, 98] (by decide) (by decide) v W h
  have h13bc : ∀ v W, SlAt 2 [.int .u8 98, .int .u8 99] v W → Calls Try.prog 13 #[v] W (Ret (sv (ofS [98, 99])) W) := fun v W h => of_any [98, 99] (by decide) (by decide) v W h
  have h12 : ∀ W, Calls Try.prog 12 #[sv (rangeS 97 99), sv (ofS [98])] W (Ret (sv (rangeS 97 99 &&& ~~~ofS [98])) W) := less_any _ _
  have h27a : ∀ W, Calls Try.prog 27 #[sv (rangeS 97 99)] W (RetV (SlAt 1 [.int .u8 97, .int .u8 99]) W) := fun W => by have := spans_any (rangeS 97 99) W; rw [ex_spans1] at this; exact this
  have h27b : ∀ W, Calls Try.prog 27 #[sv (rangeS 97 99 &&& ~~~ofS [98])] W (RetV (SlAt 2 [.int .u8 97, .int .u8 97, .int .u8 99, .int .u8 99]) W) := fun W => by have := spans_any (rangeS 97 99 &&& ~~~ofS [98]) W; rw [ex_spans2] at this; exact this
  have h29a : ∀ W, Calls Try.prog 29 #[sv (ofS [99, 97, 99]), .int .u8 97] W (Ret (.tuple #[.int .u8 99, .bool true]) W) := fun W => by have := next_any (ofS [99, 97, 99]) 97 (by omega) W; rw [if_neg (by omega), ex_next1] at this; exact this
  have h29b : ∀ W, Calls Try.prog 29 #[sv (ofS [99, 97, 99]), .int .u8 99] W (Ret (.tuple #[.int .u8 0, .bool false]) W) := fun W => by have := next_any (ofS [99, 97, 99]) 99 (by omega) W; rw [if_neg (by omega), ex_next2] at this; exact this
  have h23 : ∀ v W, SlAt 2 (setC [rangeS 97 99, rangeS 98 100]) v W → Calls Try.prog 23 #[v] W (RetV (SlAt 4 (setC [rangeS 0 96 ||| rangeS 101 255, ofS [97], ofS [98, 99], ofS [100]])) W) := fun v W h => by have := parts_any [rangeS 97 99, rangeS 98 100] (by decide) v W h; rw [ex_parts] at this; exact this
  have h22 : ∀ W, Calls Try.prog 22 #[sv (rangeS 97 99)] W (Ret (.int .i64 3) W) := fun W => by have := size_any (rangeS 97 99) W; rw [ex_size] at this; exact this
  have h19 : ∀ W, Calls Try.prog 19 #[] W (Ret (sv (BitVec.allOnes 256)) W) := all_any
  have h18 : ∀ W, Calls Try.prog 18 #[sv (BitVec.allOnes 256)] W (Ret (.agg #[.int .u64 0, .int .u64 0, .int .u64 0, .int .u64 0]) W) := fun W => by have := not_any (BitVec.allOnes 256) W; rw [ex_not, sv_zero] at this; exact this
  have h26 : ∀ W, Calls Try.prog 26 #[sv (ofS [99, 97, 99])] W (RetV (SlAt 2 [.int .u8 97, .int .u8 99]) W) := fun W => by have := bytes_any (ofS [99, 97, 99]) W; rw [ex_bytes] at this; exact this
  have h11a : ∀ W, Calls Try.prog 11 #[sv (ofS [97]), sv (ofS [98])] W (Ret (.int .i64 (-1)) W) := fun W => by have := compare_any (ofS [97]) (ofS [98]) W; rw [ex_cmp1] at this; exact this
  have h11b : ∀ W, Calls Try.prog 11 #[sv (ofS [97, 98]), sv (ofS [97])] W (Ret (.int .i64 (-1)) W) := fun W => by have := compare_any (ofS [97, 98]) (ofS [97]) W; rw [ex_cmp2] at this; exact this
  have h11c : ∀ W, Calls Try.prog 11 #[.agg #[.int .u64 0, .int .u64 0, .int .u64 0, .int .u64 0], sv (ofS [97])] W (Ret (.int .i64 1) W) := fun W => by have := compare_any 0#256 (ofS [97]) W; rw [ex_cmp3, sv_zero] at this; exact this
  have h16 : ∀ W, Calls Try.prog 16 #[sv (rangeS 0 96), sv (rangeS 101 255)] W (Ret (sv (rangeS 0 96 ||| rangeS 101 255)) W) := or_any _ _
  generalize rangeS 0 96 ||| rangeS 101 255 = P0 at *
  generalize rangeS 97 99 &&& ~~~ofS [98] = sAC at *
  generalize rangeS 97 99 = abc at *
  generalize rangeS 98 100 = bcd at *
  generalize rangeS 0 96 = lo at *
  generalize rangeS 101 255 = hi at *
  generalize ofS [98] = sB at *
  generalize ofS [99, 97, 99] = cac at *
  generalize ofS [97] = sA at *
  generalize ofS [100] = sD at *
  generalize ofS [97, 98] = sAB at *
  generalize ofS [98, 99] = sBC at *
  generalize BitVec.allOnes 256 = ALL at *
  go_enter Try.func10, Try.ntmps10
  go_wp2_with (go_at_call 30; refine (h30a _).mono ?_; rintro e w1 ⟨rfl, hb1⟩; simp only [sv])
  obtain ⟨w2, hw2⟩ : ∃ w2, w2 = w1.alloc (.cells (sc abc) 24) := ⟨_, rfl⟩
  have hrow : w2.heap[w1.heap.size]? = some (.cells (sc abc) 24 (0, 0)) := by rw [hw2]; exact heap_new _ _ _ rfl
  have hE : Ex w.heap.size w w2 := by rw [hw2]; exact hb1.alloc hb1.size _
  show Code.wp _ _ _ _ (w1.alloc (.cells (sc abc) 24))
  rw [← hw2]
  clear hw2
  refine wp_region_fwd 6 (by kernel_rfl) (by kernel_rfl) ?_
  simp only [List.take_succ_cons, List.take_zero, List.drop_succ_cons, List.drop_zero]

  refine fwd_l rfl ?_ rfl ?_ hrow Try.underlying24 rfl info24 ?_
  · exact trivial
  · rintro ρ W ⟨_, _, _, hr⟩
    simp [Op.operands, Call.operands, readsOf, All, env, Is, Act.eval] at hr
    exact hr
  refine fwd_s #[.int .u8 98] 1 5 rfl trivial ?_ ?_
  · rintro ρ W ⟨h1, h2, hW, hr⟩
    try simp [Op.operands, Call.operands, readsOf, All, env, Is, Act.eval] at hr
    go_simp
    try rfl
  refine fwd_ce (e := sv sB) rfl trivial ?_ ?_
  · rintro ρ W ⟨h1, h2, hW, hr⟩
    try simp [Op.operands, Call.operands, readsOf, All, env, Is, Act.eval] at hr
    refine ⟨13, #[ρ (.tmp 10)], ?_, h13b _ _ hr⟩
    go_simp
    try rfl
  refine fwd_ce (e := sv sAC) rfl trivial ?_ ?_
  · rintro ρ W ⟨h1, h2, hW, hr⟩
    try simp [Op.operands, Call.operands, readsOf, All, env, Is, Act.eval] at hr
    refine ⟨12, #[sv abc, sv sB], ?_, h12 _⟩
    go_simp
    try rfl
  refine fwd_c (SlAt 2 [.int .u8 97, .int .u8 97, .int .u8 99, .int .u8 99]) (SlAt.mono _ _) rfl trivial ?_ ?_
  · rintro ρ W ⟨h1, h2, hW, hr⟩
    try simp [Op.operands, Call.operands, readsOf, All, env, Is, Act.eval] at hr
    refine ⟨27, #[sv sAC], ?_, h27b _⟩
    go_simp
    try rfl
  refine fwd_m (SlAt 2 [.int .u8 97, .int .u8 97, .int .u8 99, .int .u8 99]) (SlAt.mono _ _) rfl trivial ?_ ?_
  · rintro ρ W ⟨h1, h2, hW, hr⟩
    try simp [Op.operands, Call.operands, readsOf, All, env, Is, Act.eval] at hr
    refine ⟨ρ (.tmp 13), ?_, hr⟩
    go_simp
    try rfl
  refine fwd_nil ?_
  intro w3 hg3
  simp [EndAt, Is, Act.put]
  rintro v10 - v13 - v2 hv2
  have hrow3 := (hg3.block _ (Array.getElem?_eq_some_iff.1 hrow).1).trans hrow
  have hE3 := hE.trans (Ex.mono hg3 hE.size)
  clear hrow hE
  go_wp2_with fail
  refine (h13c _ _ (slAt_new #[.int .u8 99, .int .u8 97, .int .u8 99] 3 5 _)).mono ?_
  rintro e w4 ⟨rfl, hb4⟩
  go_wp2_with fail
  refine (h29a _).mono ?_
  rintro e w5 ⟨rfl, hb5⟩
  go_wp2_with fail
  refine (h13c _ _ (slAt_new #[.int .u8 99, .int .u8 97, .int .u8 99] 3 5 _)).mono ?_
  rintro e w6 ⟨rfl, hb6⟩
  go_wp2_with fail
  refine (h29b _).mono ?_
  rintro e w7 ⟨rfl, hb7⟩
  go_wp2_with fail
  have g37 : Ex w3.heap.size w3 w7 := by
    have s4 := hb4.size; have s5 := hb5.size; have s6 := hb6.size
    simp at s4 s6
    refine Ex.trans (b := w4) (((Ex.refl _ _).alloc (Nat.le_refl _) _).trans (hb4.mono (by simp))) ?_
    refine Ex.trans (b := w5) (hb5.mono (by omega)) ?_
    exact Ex.trans (b := w6) (((Ex.refl _ _).alloc (by omega) _).trans (hb6.mono (by simp; omega))) (hb7.mono (by omega))
  have hrow := (g37.block _ (Array.getElem?_eq_some_iff.1 hrow3).1).trans hrow3
  have hv2' := SlAt.mono _ _ _ _ _ g37 hv2
  have hE7 := hE3.trans (g37.mono hE3.size)
  clear hrow3 hv2 hE3 g37 hb4 hb5 hb6 hb7
  refine wp_region_fwd 5 (by kernel_rfl) (by kernel_rfl) ?_
  simp only [List.take_succ_cons, List.take_zero, List.drop_succ_cons, List.drop_zero]

  refine fwd_l rfl ?_ rfl ?_ hrow Try.underlying24 rfl info24 ?_
  · exact trivial
  · rintro ρ W ⟨_, _, _, hr⟩
    simp [Op.operands, Call.operands, readsOf, All, env, Is, Act.eval] at hr
    exact hr
  refine fwd_ce (e := sv bcd) rfl trivial ?_ ?_
  · rintro ρ W ⟨h1, h2, hW, hr⟩
    try simp [Op.operands, Call.operands, readsOf, All, env, Is, Act.eval] at hr
    refine ⟨30, #[.int .u8 98, .int .u8 100], ?_, h30b _⟩
    go_simp
    try rfl
  refine fwd_s (setC [abc, bcd]).toArray 2 24 rfl trivial ?_ ?_
  · rintro ρ W ⟨h1, h2, hW, hr⟩
    try simp [Op.operands, Call.operands, readsOf, All, env, Is, Act.eval] at hr
    simp only [sv, sc] at hr
    go_simp
    try rfl
  refine fwd_c (SlAt 4 (setC [P0, sA, sBC, sD])) (SlAt.mono _ _) rfl trivial ?_ ?_
  · rintro ρ W ⟨h1, h2, hW, hr⟩
    try simp [Op.operands, Call.operands, readsOf, All, env, Is, Act.eval] at hr
    refine ⟨23, #[ρ (.tmp 28)], ?_, h23 _ _ hr⟩
    go_simp
    try rfl
  refine fwd_m (SlAt 4 (setC [P0, sA, sBC, sD])) (SlAt.mono _ _) rfl trivial ?_ ?_
  · rintro ρ W ⟨h1, h2, hW, hr⟩
    try simp [Op.operands, Call.operands, readsOf, All, env, Is, Act.eval] at hr
    refine ⟨ρ (.tmp 29), ?_, hr⟩
    go_simp
    try rfl
  refine fwd_nil ?_
  intro w8 hg8
  simp [EndAt, Is, Act.put]
  rintro v28 - v29 - v7 hv7
  have hrow8 := (hg8.block _ (Array.getElem?_eq_some_iff.1 hrow).1).trans hrow
  have hv28 := SlAt.mono _ _ _ _ _ hg8 hv2'
  have hE8 := hE7.trans (Ex.mono hg8 hE7.size)
  clear hrow hv2' hE7
  have hrow := hrow8
  go_wp2_with fail
  refine wp_region_slot 122 0 (.bool true) (by kernel_rfl) (by kernel_rfl) (by simp) ?_ ?_
  · intro a' w9 ha1 ha2 he' hg9
    show wpList _ _ _ ([] : List Oper) a' w9
    go_wp2
    refine bodyPost_ret (v := .bool true) ?_ ?_ ⟨rfl, hE8.trans (Ex.mono hg9 hE8.size)⟩
    · rw [← he']; exact results_tmp rfl _ _ _
    · exact ha2
  refine fwd_open [(3, 33), (9, 39), (17, 47), (22, 52), (29, 59), (36, 66), (42, 72), (49, 79), (53, 83), (56, 86), (60, 90), (68, 98), (76, 106), (83, 113), (88, 118), (97, 127), (105, 135), (113, 143)] [(1, .pointer (some ⟨w1.heap.size, 0, none⟩)), (2, v2), (3, .int .u8 99), (4, .bool true), (6, .bool false), (7, v7)] 0 (.bool true) (fun _ h => h) (by kernel_rfl) (by simp [Act.eval]) ?_
  intro ops a acc fin hD hN hfin
  simp only [List.forall_mem_cons] at hD hN
  obtain ⟨D3, D9, D17, D22, D29, D36, D42, D49, D53, D56, D60, D68, D76, D83, D88, D97, D105, D113, -⟩ := hD
  obtain ⟨N1, N2, N3, N4, N6, N7, -⟩ := hN
  refine fwd_l rfl ?_ rfl ?_ hrow Try.underlying24 rfl info24 ?_
  · exact trivial
  · rintro ρ W ⟨_, _, _, hr⟩
    simp [Op.operands, Call.operands, readsOf, All, env, Is, Act.eval, N1, N2, N3, N4, N6, N7] at hr
    exact hr
  refine fwd_ce (e := .int .i64 3) rfl trivial ?_ ?_
  · rintro ρ W ⟨h1, h2, hW, hr⟩
    try simp [Op.operands, Call.operands, readsOf, All, env, Is, Act.eval, N1, N2, N3, N4, N6, N7] at hr
    refine ⟨22, #[sv abc], ?_, h22 _⟩
    go_simp
    try rfl
  refine fwd_e (e := .bool true) rfl trivial ?_ ?_
  · rintro ρ W ⟨h1, h2, hW, hr⟩
    try simp [Op.operands, Call.operands, readsOf, All, env, Is, Act.eval, N1, N2, N3, N4, N6, N7] at hr
    go_simp
    try rfl
  refine fwd_e (e := .bool true) rfl trivial ?_ ?_
  · rintro ρ W ⟨h1, h2, hW, hr⟩
    try simp [Op.operands, Call.operands, readsOf, All, env, Is, Act.eval, N1, N2, N3, N4, N6, N7] at hr
    go_simp
    try rfl
  refine fwd_forget [(1, .pointer (some ⟨w1.heap.size, 0, none⟩)), (2, v2), (3, .int .u8 99), (4, .bool true), (6, .bool false), (7, v7), (33, .bool true)] (by simp [env, N1, N2, N3, N4, N6, N7]) ?_
  clear N1 N2 N3 N4 N6 N7
  intro acc hN
  simp only [List.forall_mem_cons] at hN
  obtain ⟨N1, N2, N3, N4, N6, N7, N33, -⟩ := hN
  refine fwd_l rfl ?_ rfl ?_ hrow Try.underlying24 rfl info24 ?_
  · exact ⟨_, D3, by rintro g W h; simp [env, Is, N1, N2, N3, N4, N6, N7, N33] at h; exact h⟩
  · rintro ρ W ⟨_, _, _, hr⟩
    simp [Op.operands, Call.operands, readsOf, All, env, Is, Act.eval, N1, N2, N3, N4, N6, N7, N33] at hr
    exact hr
  refine fwd_c (SlAt 1 [.int .u8 97, .int .u8 99]) (SlAt.mono _ _) rfl ⟨_, D3, by rintro g W h; simp [env, Is, N1, N2, N3, N4, N6, N7, N33] at h; exact h⟩ ?_ ?_
  · rintro ρ W ⟨h1, h2, hW, hr⟩
    try simp [Op.operands, Call.operands, readsOf, All, env, Is, Act.eval, N1, N2, N3, N4, N6, N7, N33] at hr
    refine ⟨27, #[sv abc], ?_, h27a _⟩
    go_simp
    try rfl
  refine fwd_e (e := .int .i64 1) rfl ⟨_, D3, by rintro g W h; simp [env, Is, N1, N2, N3, N4, N6, N7, N33] at h; exact h⟩ ?_ ?_
  · rintro ρ W ⟨h1, h2, hW, hr⟩
    try simp [Op.operands, Call.operands, readsOf, All, env, Is, Act.eval, N1, N2, N3, N4, N6, N7, N33] at hr
    obtain ⟨a, cap, hv, -⟩ := SlAt.shape hr
    go_simp
    try rfl
  refine fwd_e (e := .bool true) rfl ⟨_, D3, by rintro g W h; simp [env, Is, N1, N2, N3, N4, N6, N7, N33] at h; exact h⟩ ?_ ?_
  · rintro ρ W ⟨h1, h2, hW, hr⟩
    try simp [Op.operands, Call.operands, readsOf, All, env, Is, Act.eval, N1, N2, N3, N4, N6, N7, N33] at hr
    go_simp
    try rfl
  refine fwd_e (e := .bool true) rfl trivial ?_ ?_
  · rintro ρ W ⟨h1, h2, hW, hr⟩
    try simp [Op.operands, Call.operands, readsOf, All, env, Is, Act.eval, N1, N2, N3, N4, N6, N7, N33] at hr
    go_simp
    try rfl
  refine fwd_e (e := .bool true) rfl trivial ?_ ?_
  · rintro ρ W ⟨h1, h2, hW, hr⟩
    try simp [Op.operands, Call.operands, readsOf, All, env, Is, Act.eval, N1, N2, N3, N4, N6, N7, N33] at hr
    go_simp
    try rfl
  refine fwd_forget [(1, .pointer (some ⟨w1.heap.size, 0, none⟩)), (2, v2), (3, .int .u8 99), (4, .bool true), (6, .bool false), (7, v7), (39, .bool true)] (by simp [env, N1, N2, N3, N4, N6, N7, N33]) ?_
  clear N1 N2 N3 N4 N6 N7 N33
  intro acc hN
  simp only [List.forall_mem_cons] at hN
  obtain ⟨N1, N2, N3, N4, N6, N7, N39, -⟩ := hN
  refine fwd_l rfl ?_ rfl ?_ hrow Try.underlying24 rfl info24 ?_
  · exact ⟨_, D9, by rintro g W h; simp [env, Is, N1, N2, N3, N4, N6, N7, N39] at h; exact h⟩
  · rintro ρ W ⟨_, _, _, hr⟩
    simp [Op.operands, Call.operands, readsOf, All, env, Is, Act.eval, N1, N2, N3, N4, N6, N7, N39] at hr
    exact hr
  refine fwd_c (SlAt 1 [.int .u8 97, .int .u8 99]) (SlAt.mono _ _) rfl ⟨_, D9, by rintro g W h; simp [env, Is, N1, N2, N3, N4, N6, N7, N39] at h; exact h⟩ ?_ ?_
  · rintro ρ W ⟨h1, h2, hW, hr⟩
    try simp [Op.operands, Call.operands, readsOf, All, env, Is, Act.eval, N1, N2, N3, N4, N6, N7, N39] at hr
    refine ⟨27, #[sv abc], ?_, h27a _⟩
    go_simp
    try rfl
  refine fwd_m (PtrAt ((List.drop 0 [.int .u8 97, .int .u8 99]).take 2)) (PtrAt.mono _) rfl ⟨_, D9, by rintro g W h; simp [env, Is, N1, N2, N3, N4, N6, N7, N39] at h; exact h⟩ ?_ ?_
  · rintro ρ W ⟨h1, h2, hW, hr⟩
    try simp [Op.operands, Call.operands, readsOf, All, env, Is, Act.eval, N1, N2, N3, N4, N6, N7, N39] at hr
    obtain ⟨a, cap, hv, hz⟩ := SlAt.shape hr
    obtain ⟨b, o, rfl, hb, hc⟩ := hz (by omega)
    refine ⟨.pointer (some ⟨b, o + 0, none⟩), ?_, ptr_of hb hc 0 2⟩
    go_simp
    try rfl
  refine fwd_e (e := .agg #[.int .u8 97, .int .u8 99]) rfl ⟨_, D9, by rintro g W h; simp [env, Is, N1, N2, N3, N4, N6, N7, N39] at h; exact h⟩ ?_ ?_
  · rintro ρ W ⟨h1, h2, hW, hr⟩
    try simp [Op.operands, Call.operands, readsOf, All, env, Is, Act.eval, N1, N2, N3, N4, N6, N7, N39] at hr
    obtain ⟨b, o, hv, hb, hc⟩ := hr
    have c0 := hc 0 _ rfl
    have c1 := hc 1 _ rfl
    rw [Nat.add_zero] at c0
    go_simp
    try rfl
  refine fwd_e (e := .agg #[.int .u8 97, .int .u8 99]) rfl ⟨_, D9, by rintro g W h; simp [env, Is, N1, N2, N3, N4, N6, N7, N39] at h; exact h⟩ ?_ ?_
  · rintro ρ W ⟨h1, h2, hW, hr⟩
    try simp [Op.operands, Call.operands, readsOf, All, env, Is, Act.eval, N1, N2, N3, N4, N6, N7, N39] at hr
    go_simp
    try rfl
  refine fwd_e (e := .bool true) rfl ⟨_, D9, by rintro g W h; simp [env, Is, N1, N2, N3, N4, N6, N7, N39] at h; exact h⟩ ?_ ?_
  · rintro ρ W ⟨h1, h2, hW, hr⟩
    try simp [Op.operands, Call.operands, readsOf, All, env, Is, Act.eval, N1, N2, N3, N4, N6, N7, N39] at hr
    go_simp
    try rfl
  refine fwd_e (e := .bool true) rfl trivial ?_ ?_
  · rintro ρ W ⟨h1, h2, hW, hr⟩
    try simp [Op.operands, Call.operands, readsOf, All, env, Is, Act.eval, N1, N2, N3, N4, N6, N7, N39] at hr
    go_simp
    try rfl
  refine fwd_e (e := .bool true) rfl trivial ?_ ?_
  · rintro ρ W ⟨h1, h2, hW, hr⟩
    try simp [Op.operands, Call.operands, readsOf, All, env, Is, Act.eval, N1, N2, N3, N4, N6, N7, N39] at hr
    go_simp
    try rfl
  refine fwd_forget [(1, .pointer (some ⟨w1.heap.size, 0, none⟩)), (2, v2), (3, .int .u8 99), (4, .bool true), (6, .bool false), (7, v7), (47, .bool true)] (by simp [env, N1, N2, N3, N4, N6, N7, N39]) ?_
  clear N1 N2 N3 N4 N6 N7 N39
  intro acc hN
  simp only [List.forall_mem_cons] at hN
  obtain ⟨N1, N2, N3, N4, N6, N7, N47, -⟩ := hN
  refine fwd_m (SlAt 2 [.int .u8 97, .int .u8 97, .int .u8 99, .int .u8 99]) (SlAt.mono _ _) rfl ⟨_, D17, by rintro g W h; simp [env, Is, N1, N2, N3, N4, N6, N7, N47] at h; exact h⟩ ?_ ?_
  · rintro ρ W ⟨h1, h2, hW, hr⟩
    try simp [Op.operands, Call.operands, readsOf, All, env, Is, Act.eval, N1, N2, N3, N4, N6, N7, N47] at hr
    refine ⟨v2, ?_, SlAt.mono _ _ _ _ _ hW hv28⟩
    go_simp
    try rfl
  refine fwd_e (e := .int .i64 2) rfl ⟨_, D17, by rintro g W h; simp [env, Is, N1, N2, N3, N4, N6, N7, N47] at h; exact h⟩ ?_ ?_
  · rintro ρ W ⟨h1, h2, hW, hr⟩
    try simp [Op.operands, Call.operands, readsOf, All, env, Is, Act.eval, N1, N2, N3, N4, N6, N7, N47] at hr
    obtain ⟨a, cap, hv, -⟩ := SlAt.shape hr
    go_simp
    try rfl
  refine fwd_e (e := .bool true) rfl ⟨_, D17, by rintro g W h; simp [env, Is, N1, N2, N3, N4, N6, N7, N47] at h; exact h⟩ ?_ ?_
  · rintro ρ W ⟨h1, h2, hW, hr⟩
    try simp [Op.operands, Call.operands, readsOf, All, env, Is, Act.eval, N1, N2, N3, N4, N6, N7, N47] at hr
    go_simp
    try rfl
  refine fwd_e (e := .bool true) rfl trivial ?_ ?_
  · rintro ρ W ⟨h1, h2, hW, hr⟩
    try simp [Op.operands, Call.operands, readsOf, All, env, Is, Act.eval, N1, N2, N3, N4, N6, N7, N47] at hr
    go_simp
    try rfl
  refine fwd_e (e := .bool true) rfl trivial ?_ ?_
  · rintro ρ W ⟨h1, h2, hW, hr⟩
    try simp [Op.operands, Call.operands, readsOf, All, env, Is, Act.eval, N1, N2, N3, N4, N6, N7, N47] at hr
    go_simp
    try rfl
  refine fwd_forget [(1, .pointer (some ⟨w1.heap.size, 0, none⟩)), (2, v2), (3, .int .u8 99), (4, .bool true), (6, .bool false), (7, v7), (52, .bool true)] (by simp [env, N1, N2, N3, N4, N6, N7, N47]) ?_
  clear N1 N2 N3 N4 N6 N7 N47
  intro acc hN
  simp only [List.forall_mem_cons] at hN
  obtain ⟨N1, N2, N3, N4, N6, N7, N52, -⟩ := hN
  refine fwd_m (SlAt 2 [.int .u8 97, .int .u8 97, .int .u8 99, .int .u8 99]) (SlAt.mono _ _) rfl ⟨_, D22, by rintro g W h; simp [env, Is, N1, N2, N3, N4, N6, N7, N52] at h; exact h⟩ ?_ ?_
  · rintro ρ W ⟨h1, h2, hW, hr⟩
    try simp [Op.operands, Call.operands, readsOf, All, env, Is, Act.eval, N1, N2, N3, N4, N6, N7, N52] at hr
    refine ⟨v2, ?_, SlAt.mono _ _ _ _ _ hW hv28⟩
    go_simp
    try rfl
  refine fwd_m (PtrAt ((List.drop 0 [.int .u8 97, .int .u8 97, .int .u8 99, .int .u8 99]).take 2)) (PtrAt.mono _) rfl ⟨_, D22, by rintro g W h; simp [env, Is, N1, N2, N3, N4, N6, N7, N52] at h; exact h⟩ ?_ ?_
  · rintro ρ W ⟨h1, h2, hW, hr⟩
    try simp [Op.operands, Call.operands, readsOf, All, env, Is, Act.eval, N1, N2, N3, N4, N6, N7, N52] at hr
    obtain ⟨a, cap, hv, hz⟩ := SlAt.shape hr
    obtain ⟨b, o, rfl, hb, hc⟩ := hz (by omega)
    refine ⟨.pointer (some ⟨b, o + 0, none⟩), ?_, ptr_of hb hc 0 2⟩
    go_simp
    try rfl
  refine fwd_e (e := .agg #[.int .u8 97, .int .u8 97]) rfl ⟨_, D22, by rintro g W h; simp [env, Is, N1, N2, N3, N4, N6, N7, N52] at h; exact h⟩ ?_ ?_
  · rintro ρ W ⟨h1, h2, hW, hr⟩
    try simp [Op.operands, Call.operands, readsOf, All, env, Is, Act.eval, N1, N2, N3, N4, N6, N7, N52] at hr
    obtain ⟨b, o, hv, hb, hc⟩ := hr
    have c0 := hc 0 _ rfl
    have c1 := hc 1 _ rfl
    rw [Nat.add_zero] at c0
    go_simp
    try rfl
  refine fwd_e (e := .agg #[.int .u8 97, .int .u8 97]) rfl ⟨_, D22, by rintro g W h; simp [env, Is, N1, N2, N3, N4, N6, N7, N52] at h; exact h⟩ ?_ ?_
  · rintro ρ W ⟨h1, h2, hW, hr⟩
    try simp [Op.operands, Call.operands, readsOf, All, env, Is, Act.eval, N1, N2, N3, N4, N6, N7, N52] at hr
    go_simp
    try rfl
  refine fwd_e (e := .bool true) rfl ⟨_, D22, by rintro g W h; simp [env, Is, N1, N2, N3, N4, N6, N7, N52] at h; exact h⟩ ?_ ?_
  · rintro ρ W ⟨h1, h2, hW, hr⟩
    try simp [Op.operands, Call.operands, readsOf, All, env, Is, Act.eval, N1, N2, N3, N4, N6, N7, N52] at hr
    go_simp
    try rfl
  refine fwd_e (e := .bool true) rfl trivial ?_ ?_
  · rintro ρ W ⟨h1, h2, hW, hr⟩
    try simp [Op.operands, Call.operands, readsOf, All, env, Is, Act.eval, N1, N2, N3, N4, N6, N7, N52] at hr
    go_simp
    try rfl
  refine fwd_e (e := .bool true) rfl trivial ?_ ?_
  · rintro ρ W ⟨h1, h2, hW, hr⟩
    try simp [Op.operands, Call.operands, readsOf, All, env, Is, Act.eval, N1, N2, N3, N4, N6, N7, N52] at hr
    go_simp
    try rfl
  refine fwd_forget [(1, .pointer (some ⟨w1.heap.size, 0, none⟩)), (2, v2), (3, .int .u8 99), (4, .bool true), (6, .bool false), (7, v7), (59, .bool true)] (by simp [env, N1, N2, N3, N4, N6, N7, N52]) ?_
  clear N1 N2 N3 N4 N6 N7 N52
  intro acc hN
  simp only [List.forall_mem_cons] at hN
  obtain ⟨N1, N2, N3, N4, N6, N7, N59, -⟩ := hN
  refine fwd_m (SlAt 2 [.int .u8 97, .int .u8 97, .int .u8 99, .int .u8 99]) (SlAt.mono _ _) rfl ⟨_, D29, by rintro g W h; simp [env, Is, N1, N2, N3, N4, N6, N7, N59] at h; exact h⟩ ?_ ?_
  · rintro ρ W ⟨h1, h2, hW, hr⟩
    try simp [Op.operands, Call.operands, readsOf, All, env, Is, Act.eval, N1, N2, N3, N4, N6, N7, N59] at hr
    refine ⟨v2, ?_, SlAt.mono _ _ _ _ _ hW hv28⟩
    go_simp
    try rfl
  refine fwd_m (PtrAt ((List.drop 2 [.int .u8 97, .int .u8 97, .int .u8 99, .int .u8 99]).take 2)) (PtrAt.mono _) rfl ⟨_, D29, by rintro g W h; simp [env, Is, N1, N2, N3, N4, N6, N7, N59] at h; exact h⟩ ?_ ?_
  · rintro ρ W ⟨h1, h2, hW, hr⟩
    try simp [Op.operands, Call.operands, readsOf, All, env, Is, Act.eval, N1, N2, N3, N4, N6, N7, N59] at hr
    obtain ⟨a, cap, hv, hz⟩ := SlAt.shape hr
    obtain ⟨b, o, rfl, hb, hc⟩ := hz (by omega)
    refine ⟨.pointer (some ⟨b, o + 2, none⟩), ?_, ptr_of hb hc 2 2⟩
    go_simp
    try rfl
  refine fwd_e (e := .agg #[.int .u8 99, .int .u8 99]) rfl ⟨_, D29, by rintro g W h; simp [env, Is, N1, N2, N3, N4, N6, N7, N59] at h; exact h⟩ ?_ ?_
  · rintro ρ W ⟨h1, h2, hW, hr⟩
    try simp [Op.operands, Call.operands, readsOf, All, env, Is, Act.eval, N1, N2, N3, N4, N6, N7, N59] at hr
    obtain ⟨b, o, hv, hb, hc⟩ := hr
    have c0 := hc 0 _ rfl
    have c1 := hc 1 _ rfl
    rw [Nat.add_zero] at c0
    go_simp
    try rfl
  refine fwd_e (e := .agg #[.int .u8 99, .int .u8 99]) rfl ⟨_, D29, by rintro g W h; simp [env, Is, N1, N2, N3, N4, N6, N7, N59] at h; exact h⟩ ?_ ?_
  · rintro ρ W ⟨h1, h2, hW, hr⟩
    try simp [Op.operands, Call.operands, readsOf, All, env, Is, Act.eval, N1, N2, N3, N4, N6, N7, N59] at hr
    go_simp
    try rfl
  refine fwd_e (e := .bool true) rfl ⟨_, D29, by rintro g W h; simp [env, Is, N1, N2, N3, N4, N6, N7, N59] at h; exact h⟩ ?_ ?_
  · rintro ρ W ⟨h1, h2, hW, hr⟩
    try simp [Op.operands, Call.operands, readsOf, All, env, Is, Act.eval, N1, N2, N3, N4, N6, N7, N59] at hr
    go_simp
    try rfl
  refine fwd_e (e := .bool true) rfl trivial ?_ ?_
  · rintro ρ W ⟨h1, h2, hW, hr⟩
    try simp [Op.operands, Call.operands, readsOf, All, env, Is, Act.eval, N1, N2, N3, N4, N6, N7, N59] at hr
    go_simp
    try rfl
  refine fwd_e (e := .bool true) rfl trivial ?_ ?_
  · rintro ρ W ⟨h1, h2, hW, hr⟩
    try simp [Op.operands, Call.operands, readsOf, All, env, Is, Act.eval, N1, N2, N3, N4, N6, N7, N59] at hr
    go_simp
    try rfl
  refine fwd_forget [(1, .pointer (some ⟨w1.heap.size, 0, none⟩)), (2, v2), (3, .int .u8 99), (4, .bool true), (6, .bool false), (7, v7), (66, .bool true)] (by simp [env, N1, N2, N3, N4, N6, N7, N59]) ?_
  clear N1 N2 N3 N4 N6 N7 N59
  intro acc hN
  simp only [List.forall_mem_cons] at hN
  obtain ⟨N1, N2, N3, N4, N6, N7, N66, -⟩ := hN
  refine fwd_ce (e := sv ALL) rfl ⟨_, D36, by rintro g W h; simp [env, Is, N1, N2, N3, N4, N6, N7, N66] at h; exact h⟩ ?_ ?_
  · rintro ρ W ⟨h1, h2, hW, hr⟩
    try simp [Op.operands, Call.operands, readsOf, All, env, Is, Act.eval, N1, N2, N3, N4, N6, N7, N66] at hr
    refine ⟨19, #[], ?_, h19 _⟩
    go_simp
    try rfl
  refine fwd_ce (e := .agg #[.int .u64 0, .int .u64 0, .int .u64 0, .int .u64 0]) rfl ⟨_, D36, by rintro g W h; simp [env, Is, N1, N2, N3, N4, N6, N7, N66] at h; exact h⟩ ?_ ?_
  · rintro ρ W ⟨h1, h2, hW, hr⟩
    try simp [Op.operands, Call.operands, readsOf, All, env, Is, Act.eval, N1, N2, N3, N4, N6, N7, N66] at hr
    refine ⟨18, #[sv ALL], ?_, h18 _⟩
    go_simp
    try rfl
  refine fwd_e (e := .agg #[.int .u64 0, .int .u64 0, .int .u64 0, .int .u64 0]) rfl ⟨_, D36, by rintro g W h; simp [env, Is, N1, N2, N3, N4, N6, N7, N66] at h; exact h⟩ ?_ ?_
  · rintro ρ W ⟨h1, h2, hW, hr⟩
    try simp [Op.operands, Call.operands, readsOf, All, env, Is, Act.eval, N1, N2, N3, N4, N6, N7, N66] at hr
    go_simp
    try rfl
  refine fwd_e (e := .bool true) rfl ⟨_, D36, by rintro g W h; simp [env, Is, N1, N2, N3, N4, N6, N7, N66] at h; exact h⟩ ?_ ?_
  · rintro ρ W ⟨h1, h2, hW, hr⟩
    try simp [Op.operands, Call.operands, readsOf, All, env, Is, Act.eval, N1, N2, N3, N4, N6, N7, N66] at hr
    go_simp
    try rfl
  refine fwd_e (e := .bool true) rfl trivial ?_ ?_
  · rintro ρ W ⟨h1, h2, hW, hr⟩
    try simp [Op.operands, Call.operands, readsOf, All, env, Is, Act.eval, N1, N2, N3, N4, N6, N7, N66] at hr
    go_simp
    try rfl
  refine fwd_e (e := .bool true) rfl trivial ?_ ?_
  · rintro ρ W ⟨h1, h2, hW, hr⟩
    try simp [Op.operands, Call.operands, readsOf, All, env, Is, Act.eval, N1, N2, N3, N4, N6, N7, N66] at hr
    go_simp
    try rfl
  refine fwd_forget [(1, .pointer (some ⟨w1.heap.size, 0, none⟩)), (2, v2), (3, .int .u8 99), (4, .bool true), (6, .bool false), (7, v7), (72, .bool true)] (by simp [env, N1, N2, N3, N4, N6, N7, N66]) ?_
  clear N1 N2 N3 N4 N6 N7 N66
  intro acc hN
  simp only [List.forall_mem_cons] at hN
  obtain ⟨N1, N2, N3, N4, N6, N7, N72, -⟩ := hN
  refine fwd_s #[.int .u8 99, .int .u8 97, .int .u8 99] 3 5 rfl ⟨_, D42, by rintro g W h; simp [env, Is, N1, N2, N3, N4, N6, N7, N72] at h; exact h⟩ ?_ ?_
  · rintro ρ W ⟨h1, h2, hW, hr⟩
    try simp [Op.operands, Call.operands, readsOf, All, env, Is, Act.eval, N1, N2, N3, N4, N6, N7, N72] at hr
    go_simp
    try rfl
  refine fwd_ce (e := sv cac) rfl ⟨_, D42, by rintro g W h; simp [env, Is, N1, N2, N3, N4, N6, N7, N72] at h; exact h⟩ ?_ ?_
  · rintro ρ W ⟨h1, h2, hW, hr⟩
    try simp [Op.operands, Call.operands, readsOf, All, env, Is, Act.eval, N1, N2, N3, N4, N6, N7, N72] at hr
    refine ⟨13, #[ρ (.tmp 73)], ?_, h13c _ _ hr⟩
    go_simp
    try rfl
  refine fwd_c (SlAt 2 [.int .u8 97, .int .u8 99]) (SlAt.mono _ _) rfl ⟨_, D42, by rintro g W h; simp [env, Is, N1, N2, N3, N4, N6, N7, N72] at h; exact h⟩ ?_ ?_
  · rintro ρ W ⟨h1, h2, hW, hr⟩
    try simp [Op.operands, Call.operands, readsOf, All, env, Is, Act.eval, N1, N2, N3, N4, N6, N7, N72] at hr
    refine ⟨26, #[sv cac], ?_, h26 _⟩
    go_simp
    try rfl
  refine fwd_e (e := .string ⟨#[97, 99]⟩) rfl ⟨_, D42, by rintro g W h; simp [env, Is, N1, N2, N3, N4, N6, N7, N72] at h; exact h⟩ ?_ ?_
  · rintro ρ W ⟨h1, h2, hW, hr⟩
    try simp [Op.operands, Call.operands, readsOf, All, env, Is, Act.eval, N1, N2, N3, N4, N6, N7, N72] at hr
    obtain ⟨a, cap, hv, hz⟩ := SlAt.shape hr
    obtain ⟨b, o, rfl, hb, hc⟩ := hz (by omega)
    have hcv := run_convert_bytes_arg (P := Try.prog) W 44 5 Try.underlying44 Try.underlying5 b o 2 cap [97, 99] rfl (fun i hi => by match i, hi with | 0, _ => exact hc 0 _ rfl | 1, _ => exact hc 1 _ rfl) 9 Try.underlying9
    go_simp
    try rfl
  refine fwd_e (e := .bool true) rfl ⟨_, D42, by rintro g W h; simp [env, Is, N1, N2, N3, N4, N6, N7, N72] at h; exact h⟩ ?_ ?_
  · rintro ρ W ⟨h1, h2, hW, hr⟩
    try simp [Op.operands, Call.operands, readsOf, All, env, Is, Act.eval, N1, N2, N3, N4, N6, N7, N72] at hr
    go_simp
    try rfl
  refine fwd_e (e := .bool true) rfl trivial ?_ ?_
  · rintro ρ W ⟨h1, h2, hW, hr⟩
    try simp [Op.operands, Call.operands, readsOf, All, env, Is, Act.eval, N1, N2, N3, N4, N6, N7, N72] at hr
    go_simp
    try rfl
  refine fwd_e (e := .bool true) rfl trivial ?_ ?_
  · rintro ρ W ⟨h1, h2, hW, hr⟩
    try simp [Op.operands, Call.operands, readsOf, All, env, Is, Act.eval, N1, N2, N3, N4, N6, N7, N72] at hr
    go_simp
    try rfl
  refine fwd_forget [(1, .pointer (some ⟨w1.heap.size, 0, none⟩)), (2, v2), (3, .int .u8 99), (4, .bool true), (6, .bool false), (7, v7), (79, .bool true)] (by simp [env, N1, N2, N3, N4, N6, N7, N72]) ?_
  clear N1 N2 N3 N4 N6 N7 N72
  intro acc hN
  simp only [List.forall_mem_cons] at hN
  obtain ⟨N1, N2, N3, N4, N6, N7, N79, -⟩ := hN
  refine fwd_e (e := .int .u8 99) rfl ⟨_, D49, by rintro g W h; simp [env, Is, N1, N2, N3, N4, N6, N7, N79] at h; exact h⟩ ?_ ?_
  · rintro ρ W ⟨h1, h2, hW, hr⟩
    try simp [Op.operands, Call.operands, readsOf, All, env, Is, Act.eval, N1, N2, N3, N4, N6, N7, N79] at hr
    go_simp
    try rfl
  refine fwd_e (e := .bool true) rfl ⟨_, D49, by rintro g W h; simp [env, Is, N1, N2, N3, N4, N6, N7, N79] at h; exact h⟩ ?_ ?_
  · rintro ρ W ⟨h1, h2, hW, hr⟩
    try simp [Op.operands, Call.operands, readsOf, All, env, Is, Act.eval, N1, N2, N3, N4, N6, N7, N79] at hr
    go_simp
    try rfl
  refine fwd_e (e := .bool true) rfl trivial ?_ ?_
  · rintro ρ W ⟨h1, h2, hW, hr⟩
    try simp [Op.operands, Call.operands, readsOf, All, env, Is, Act.eval, N1, N2, N3, N4, N6, N7, N79] at hr
    go_simp
    try rfl
  refine fwd_e (e := .bool true) rfl trivial ?_ ?_
  · rintro ρ W ⟨h1, h2, hW, hr⟩
    try simp [Op.operands, Call.operands, readsOf, All, env, Is, Act.eval, N1, N2, N3, N4, N6, N7, N79] at hr
    go_simp
    try rfl
  refine fwd_forget [(1, .pointer (some ⟨w1.heap.size, 0, none⟩)), (2, v2), (3, .int .u8 99), (4, .bool true), (6, .bool false), (7, v7), (83, .bool true)] (by simp [env, N1, N2, N3, N4, N6, N7, N79]) ?_
  clear N1 N2 N3 N4 N6 N7 N79
  intro acc hN
  simp only [List.forall_mem_cons] at hN
  obtain ⟨N1, N2, N3, N4, N6, N7, N83, -⟩ := hN
  refine fwd_e (e := .bool true) rfl ⟨_, D53, by rintro g W h; simp [env, Is, N1, N2, N3, N4, N6, N7, N83] at h; exact h⟩ ?_ ?_
  · rintro ρ W ⟨h1, h2, hW, hr⟩
    try simp [Op.operands, Call.operands, readsOf, All, env, Is, Act.eval, N1, N2, N3, N4, N6, N7, N83] at hr
    go_simp
    try rfl
  refine fwd_e (e := .bool true) rfl trivial ?_ ?_
  · rintro ρ W ⟨h1, h2, hW, hr⟩
    try simp [Op.operands, Call.operands, readsOf, All, env, Is, Act.eval, N1, N2, N3, N4, N6, N7, N83] at hr
    go_simp
    try rfl
  refine fwd_e (e := .bool true) rfl trivial ?_ ?_
  · rintro ρ W ⟨h1, h2, hW, hr⟩
    try simp [Op.operands, Call.operands, readsOf, All, env, Is, Act.eval, N1, N2, N3, N4, N6, N7, N83] at hr
    go_simp
    try rfl
  refine fwd_forget [(1, .pointer (some ⟨w1.heap.size, 0, none⟩)), (2, v2), (3, .int .u8 99), (4, .bool true), (6, .bool false), (7, v7), (86, .bool true)] (by simp [env, N1, N2, N3, N4, N6, N7, N83]) ?_
  clear N1 N2 N3 N4 N6 N7 N83
  intro acc hN
  simp only [List.forall_mem_cons] at hN
  obtain ⟨N1, N2, N3, N4, N6, N7, N86, -⟩ := hN
  refine fwd_e (e := .bool false) rfl ⟨_, D56, by rintro g W h; simp [env, Is, N1, N2, N3, N4, N6, N7, N86] at h; exact h⟩ ?_ ?_
  · rintro ρ W ⟨h1, h2, hW, hr⟩
    try simp [Op.operands, Call.operands, readsOf, All, env, Is, Act.eval, N1, N2, N3, N4, N6, N7, N86] at hr
    go_simp
    try rfl
  refine fwd_e (e := .bool true) rfl ⟨_, D56, by rintro g W h; simp [env, Is, N1, N2, N3, N4, N6, N7, N86] at h; exact h⟩ ?_ ?_
  · rintro ρ W ⟨h1, h2, hW, hr⟩
    try simp [Op.operands, Call.operands, readsOf, All, env, Is, Act.eval, N1, N2, N3, N4, N6, N7, N86] at hr
    go_simp
    try rfl
  refine fwd_e (e := .bool true) rfl trivial ?_ ?_
  · rintro ρ W ⟨h1, h2, hW, hr⟩
    try simp [Op.operands, Call.operands, readsOf, All, env, Is, Act.eval, N1, N2, N3, N4, N6, N7, N86] at hr
    go_simp
    try rfl
  refine fwd_e (e := .bool true) rfl trivial ?_ ?_
  · rintro ρ W ⟨h1, h2, hW, hr⟩
    try simp [Op.operands, Call.operands, readsOf, All, env, Is, Act.eval, N1, N2, N3, N4, N6, N7, N86] at hr
    go_simp
    try rfl
  refine fwd_forget [(1, .pointer (some ⟨w1.heap.size, 0, none⟩)), (2, v2), (3, .int .u8 99), (4, .bool true), (6, .bool false), (7, v7), (90, .bool true)] (by simp [env, N1, N2, N3, N4, N6, N7, N86]) ?_
  clear N1 N2 N3 N4 N6 N7 N86
  intro acc hN
  simp only [List.forall_mem_cons] at hN
  obtain ⟨N1, N2, N3, N4, N6, N7, N90, -⟩ := hN
  refine fwd_s #[.int .u8 97] 1 5 rfl ⟨_, D60, by rintro g W h; simp [env, Is, N1, N2, N3, N4, N6, N7, N90] at h; exact h⟩ ?_ ?_
  · rintro ρ W ⟨h1, h2, hW, hr⟩
    try simp [Op.operands, Call.operands, readsOf, All, env, Is, Act.eval, N1, N2, N3, N4, N6, N7, N90] at hr
    go_simp
    try rfl
  refine fwd_ce (e := sv sA) rfl ⟨_, D60, by rintro g W h; simp [env, Is, N1, N2, N3, N4, N6, N7, N90] at h; exact h⟩ ?_ ?_
  · rintro ρ W ⟨h1, h2, hW, hr⟩
    try simp [Op.operands, Call.operands, readsOf, All, env, Is, Act.eval, N1, N2, N3, N4, N6, N7, N90] at hr
    refine ⟨13, #[ρ (.tmp 91)], ?_, h13a _ _ hr⟩
    go_simp
    try rfl
  refine fwd_s #[.int .u8 98] 1 5 rfl ⟨_, D60, by rintro g W h; simp [env, Is, N1, N2, N3, N4, N6, N7, N90] at h; exact h⟩ ?_ ?_
  · rintro ρ W ⟨h1, h2, hW, hr⟩
    try simp [Op.operands, Call.operands, readsOf, All, env, Is, Act.eval, N1, N2, N3, N4, N6, N7, N90] at hr
    go_simp
    try rfl
  refine fwd_ce (e := sv sB) rfl ⟨_, D60, by rintro g W h; simp [env, Is, N1, N2, N3, N4, N6, N7, N90] at h; exact h⟩ ?_ ?_
  · rintro ρ W ⟨h1, h2, hW, hr⟩
    try simp [Op.operands, Call.operands, readsOf, All, env, Is, Act.eval, N1, N2, N3, N4, N6, N7, N90] at hr
    refine ⟨13, #[ρ (.tmp 93)], ?_, h13b _ _ hr⟩
    go_simp
    try rfl
  refine fwd_ce (e := .int .i64 (-1)) rfl ⟨_, D60, by rintro g W h; simp [env, Is, N1, N2, N3, N4, N6, N7, N90] at h; exact h⟩ ?_ ?_
  · rintro ρ W ⟨h1, h2, hW, hr⟩
    try simp [Op.operands, Call.operands, readsOf, All, env, Is, Act.eval, N1, N2, N3, N4, N6, N7, N90] at hr
    refine ⟨11, #[sv sA, sv sB], ?_, h11a _⟩
    go_simp
    try rfl
  refine fwd_e (e := .bool true) rfl ⟨_, D60, by rintro g W h; simp [env, Is, N1, N2, N3, N4, N6, N7, N90] at h; exact h⟩ ?_ ?_
  · rintro ρ W ⟨h1, h2, hW, hr⟩
    try simp [Op.operands, Call.operands, readsOf, All, env, Is, Act.eval, N1, N2, N3, N4, N6, N7, N90] at hr
    go_simp
    try rfl
  refine fwd_e (e := .bool true) rfl trivial ?_ ?_
  · rintro ρ W ⟨h1, h2, hW, hr⟩
    try simp [Op.operands, Call.operands, readsOf, All, env, Is, Act.eval, N1, N2, N3, N4, N6, N7, N90] at hr
    go_simp
    try rfl
  refine fwd_e (e := .bool true) rfl trivial ?_ ?_
  · rintro ρ W ⟨h1, h2, hW, hr⟩
    try simp [Op.operands, Call.operands, readsOf, All, env, Is, Act.eval, N1, N2, N3, N4, N6, N7, N90] at hr
    go_simp
    try rfl
  refine fwd_forget [(1, .pointer (some ⟨w1.heap.size, 0, none⟩)), (2, v2), (3, .int .u8 99), (4, .bool true), (6, .bool false), (7, v7), (98, .bool true)] (by simp [env, N1, N2, N3, N4, N6, N7, N90]) ?_
  clear N1 N2 N3 N4 N6 N7 N90
  intro acc hN
  simp only [List.forall_mem_cons] at hN
  obtain ⟨N1, N2, N3, N4, N6, N7, N98, -⟩ := hN
  refine fwd_s #[.int .u8 97, .int .u8 98] 2 5 rfl ⟨_, D68, by rintro g W h; simp [env, Is, N1, N2, N3, N4, N6, N7, N98] at h; exact h⟩ ?_ ?_
  · rintro ρ W ⟨h1, h2, hW, hr⟩
    try simp [Op.operands, Call.operands, readsOf, All, env, Is, Act.eval, N1, N2, N3, N4, N6, N7, N98] at hr
    go_simp
    try rfl
  refine fwd_ce (e := sv sAB) rfl ⟨_, D68, by rintro g W h; simp [env, Is, N1, N2, N3, N4, N6, N7, N98] at h; exact h⟩ ?_ ?_
  · rintro ρ W ⟨h1, h2, hW, hr⟩
    try simp [Op.operands, Call.operands, readsOf, All, env, Is, Act.eval, N1, N2, N3, N4, N6, N7, N98] at hr
    refine ⟨13, #[ρ (.tmp 99)], ?_, h13ab _ _ hr⟩
    go_simp
    try rfl
  refine fwd_s #[.int .u8 97] 1 5 rfl ⟨_, D68, by rintro g W h; simp [env, Is, N1, N2, N3, N4, N6, N7, N98] at h; exact h⟩ ?_ ?_
  · rintro ρ W ⟨h1, h2, hW, hr⟩
    try simp [Op.operands, Call.operands, readsOf, All, env, Is, Act.eval, N1, N2, N3, N4, N6, N7, N98] at hr
    go_simp
    try rfl
  refine fwd_ce (e := sv sA) rfl ⟨_, D68, by rintro g W h; simp [env, Is, N1, N2, N3, N4, N6, N7, N98] at h; exact h⟩ ?_ ?_
  · rintro ρ W ⟨h1, h2, hW, hr⟩
    try simp [Op.operands, Call.operands, readsOf, All, env, Is, Act.eval, N1, N2, N3, N4, N6, N7, N98] at hr
    refine ⟨13, #[ρ (.tmp 101)], ?_, h13a _ _ hr⟩
    go_simp
    try rfl
  refine fwd_ce (e := .int .i64 (-1)) rfl ⟨_, D68, by rintro g W h; simp [env, Is, N1, N2, N3, N4, N6, N7, N98] at h; exact h⟩ ?_ ?_
  · rintro ρ W ⟨h1, h2, hW, hr⟩
    try simp [Op.operands, Call.operands, readsOf, All, env, Is, Act.eval, N1, N2, N3, N4, N6, N7, N98] at hr
    refine ⟨11, #[sv sAB, sv sA], ?_, h11b _⟩
    go_simp
    try rfl
  refine fwd_e (e := .bool true) rfl ⟨_, D68, by rintro g W h; simp [env, Is, N1, N2, N3, N4, N6, N7, N98] at h; exact h⟩ ?_ ?_
  · rintro ρ W ⟨h1, h2, hW, hr⟩
    try simp [Op.operands, Call.operands, readsOf, All, env, Is, Act.eval, N1, N2, N3, N4, N6, N7, N98] at hr
    go_simp
    try rfl
  refine fwd_e (e := .bool true) rfl trivial ?_ ?_
  · rintro ρ W ⟨h1, h2, hW, hr⟩
    try simp [Op.operands, Call.operands, readsOf, All, env, Is, Act.eval, N1, N2, N3, N4, N6, N7, N98] at hr
    go_simp
    try rfl
  refine fwd_e (e := .bool true) rfl trivial ?_ ?_
  · rintro ρ W ⟨h1, h2, hW, hr⟩
    try simp [Op.operands, Call.operands, readsOf, All, env, Is, Act.eval, N1, N2, N3, N4, N6, N7, N98] at hr
    go_simp
    try rfl
  refine fwd_forget [(1, .pointer (some ⟨w1.heap.size, 0, none⟩)), (2, v2), (3, .int .u8 99), (4, .bool true), (6, .bool false), (7, v7), (106, .bool true)] (by simp [env, N1, N2, N3, N4, N6, N7, N98]) ?_
  clear N1 N2 N3 N4 N6 N7 N98
  intro acc hN
  simp only [List.forall_mem_cons] at hN
  obtain ⟨N1, N2, N3, N4, N6, N7, N106, -⟩ := hN
  refine fwd_e (e := .agg #[.int .u64 0, .int .u64 0, .int .u64 0, .int .u64 0]) rfl ⟨_, D76, by rintro g W h; simp [env, Is, N1, N2, N3, N4, N6, N7, N106] at h; exact h⟩ ?_ ?_
  · rintro ρ W ⟨h1, h2, hW, hr⟩
    try simp [Op.operands, Call.operands, readsOf, All, env, Is, Act.eval, N1, N2, N3, N4, N6, N7, N106] at hr
    go_simp
    try rfl
  refine fwd_s #[.int .u8 97] 1 5 rfl ⟨_, D76, by rintro g W h; simp [env, Is, N1, N2, N3, N4, N6, N7, N106] at h; exact h⟩ ?_ ?_
  · rintro ρ W ⟨h1, h2, hW, hr⟩
    try simp [Op.operands, Call.operands, readsOf, All, env, Is, Act.eval, N1, N2, N3, N4, N6, N7, N106] at hr
    go_simp
    try rfl
  refine fwd_ce (e := sv sA) rfl ⟨_, D76, by rintro g W h; simp [env, Is, N1, N2, N3, N4, N6, N7, N106] at h; exact h⟩ ?_ ?_
  · rintro ρ W ⟨h1, h2, hW, hr⟩
    try simp [Op.operands, Call.operands, readsOf, All, env, Is, Act.eval, N1, N2, N3, N4, N6, N7, N106] at hr
    refine ⟨13, #[ρ (.tmp 108)], ?_, h13a _ _ hr⟩
    go_simp
    try rfl
  refine fwd_ce (e := .int .i64 1) rfl ⟨_, D76, by rintro g W h; simp [env, Is, N1, N2, N3, N4, N6, N7, N106] at h; exact h⟩ ?_ ?_
  · rintro ρ W ⟨h1, h2, hW, hr⟩
    try simp [Op.operands, Call.operands, readsOf, All, env, Is, Act.eval, N1, N2, N3, N4, N6, N7, N106] at hr
    refine ⟨11, #[.agg #[.int .u64 0, .int .u64 0, .int .u64 0, .int .u64 0], sv sA], ?_, h11c _⟩
    go_simp
    try rfl
  refine fwd_e (e := .bool true) rfl ⟨_, D76, by rintro g W h; simp [env, Is, N1, N2, N3, N4, N6, N7, N106] at h; exact h⟩ ?_ ?_
  · rintro ρ W ⟨h1, h2, hW, hr⟩
    try simp [Op.operands, Call.operands, readsOf, All, env, Is, Act.eval, N1, N2, N3, N4, N6, N7, N106] at hr
    go_simp
    try rfl
  refine fwd_e (e := .bool true) rfl trivial ?_ ?_
  · rintro ρ W ⟨h1, h2, hW, hr⟩
    try simp [Op.operands, Call.operands, readsOf, All, env, Is, Act.eval, N1, N2, N3, N4, N6, N7, N106] at hr
    go_simp
    try rfl
  refine fwd_e (e := .bool true) rfl trivial ?_ ?_
  · rintro ρ W ⟨h1, h2, hW, hr⟩
    try simp [Op.operands, Call.operands, readsOf, All, env, Is, Act.eval, N1, N2, N3, N4, N6, N7, N106] at hr
    go_simp
    try rfl
  refine fwd_forget [(1, .pointer (some ⟨w1.heap.size, 0, none⟩)), (2, v2), (3, .int .u8 99), (4, .bool true), (6, .bool false), (7, v7), (113, .bool true)] (by simp [env, N1, N2, N3, N4, N6, N7, N106]) ?_
  clear N1 N2 N3 N4 N6 N7 N106
  intro acc hN
  simp only [List.forall_mem_cons] at hN
  obtain ⟨N1, N2, N3, N4, N6, N7, N113, -⟩ := hN
  refine fwd_m (SlAt 4 (setC [P0, sA, sBC, sD])) (SlAt.mono _ _) rfl ⟨_, D83, by rintro g W h; simp [env, Is, N1, N2, N3, N4, N6, N7, N113] at h; exact h⟩ ?_ ?_
  · rintro ρ W ⟨h1, h2, hW, hr⟩
    try simp [Op.operands, Call.operands, readsOf, All, env, Is, Act.eval, N1, N2, N3, N4, N6, N7, N113] at hr
    refine ⟨v7, ?_, SlAt.mono _ _ _ _ _ hW hv7⟩
    go_simp
    try rfl
  refine fwd_e (e := .int .i64 4) rfl ⟨_, D83, by rintro g W h; simp [env, Is, N1, N2, N3, N4, N6, N7, N113] at h; exact h⟩ ?_ ?_
  · rintro ρ W ⟨h1, h2, hW, hr⟩
    try simp [Op.operands, Call.operands, readsOf, All, env, Is, Act.eval, N1, N2, N3, N4, N6, N7, N113] at hr
    obtain ⟨a, cap, hv, -⟩ := SlAt.shape hr
    go_simp
    try rfl
  refine fwd_e (e := .bool true) rfl ⟨_, D83, by rintro g W h; simp [env, Is, N1, N2, N3, N4, N6, N7, N113] at h; exact h⟩ ?_ ?_
  · rintro ρ W ⟨h1, h2, hW, hr⟩
    try simp [Op.operands, Call.operands, readsOf, All, env, Is, Act.eval, N1, N2, N3, N4, N6, N7, N113] at hr
    go_simp
    try rfl
  refine fwd_e (e := .bool true) rfl trivial ?_ ?_
  · rintro ρ W ⟨h1, h2, hW, hr⟩
    try simp [Op.operands, Call.operands, readsOf, All, env, Is, Act.eval, N1, N2, N3, N4, N6, N7, N113] at hr
    go_simp
    try rfl
  refine fwd_e (e := .bool true) rfl trivial ?_ ?_
  · rintro ρ W ⟨h1, h2, hW, hr⟩
    try simp [Op.operands, Call.operands, readsOf, All, env, Is, Act.eval, N1, N2, N3, N4, N6, N7, N113] at hr
    go_simp
    try rfl
  refine fwd_forget [(1, .pointer (some ⟨w1.heap.size, 0, none⟩)), (2, v2), (3, .int .u8 99), (4, .bool true), (6, .bool false), (7, v7), (118, .bool true)] (by simp [env, N1, N2, N3, N4, N6, N7, N113]) ?_
  clear N1 N2 N3 N4 N6 N7 N113
  intro acc hN
  simp only [List.forall_mem_cons] at hN
  obtain ⟨N1, N2, N3, N4, N6, N7, N118, -⟩ := hN
  refine fwd_m (SlAt 4 (setC [P0, sA, sBC, sD])) (SlAt.mono _ _) rfl ⟨_, D88, by rintro g W h; simp [env, Is, N1, N2, N3, N4, N6, N7, N118] at h; exact h⟩ ?_ ?_
  · rintro ρ W ⟨h1, h2, hW, hr⟩
    try simp [Op.operands, Call.operands, readsOf, All, env, Is, Act.eval, N1, N2, N3, N4, N6, N7, N118] at hr
    refine ⟨v7, ?_, SlAt.mono _ _ _ _ _ hW hv7⟩
    go_simp
    try rfl
  refine fwd_m (PtrAt ((List.drop 0 (setC [P0, sA, sBC, sD])).take 4)) (PtrAt.mono _) rfl ⟨_, D88, by rintro g W h; simp [env, Is, N1, N2, N3, N4, N6, N7, N118] at h; exact h⟩ ?_ ?_
  · rintro ρ W ⟨h1, h2, hW, hr⟩
    try simp [Op.operands, Call.operands, readsOf, All, env, Is, Act.eval, N1, N2, N3, N4, N6, N7, N118] at hr
    obtain ⟨a, cap, hv, hz⟩ := SlAt.shape hr
    obtain ⟨b, o, rfl, hb, hc⟩ := hz (by omega)
    refine ⟨.pointer (some ⟨b, o + 0, none⟩), ?_, ptr_of hb hc 0 4⟩
    go_simp
    try rfl
  refine fwd_e (e := sv P0) rfl ⟨_, D88, by rintro g W h; simp [env, Is, N1, N2, N3, N4, N6, N7, N118] at h; exact h⟩ ?_ ?_
  · rintro ρ W ⟨h1, h2, hW, hr⟩
    try simp [Op.operands, Call.operands, readsOf, All, env, Is, Act.eval, N1, N2, N3, N4, N6, N7, N118] at hr
    obtain ⟨b, o, hv, hb, hc⟩ := hr
    have c0 := hc 0 _ rfl
    have c1 := hc 1 _ rfl
    have c2 := hc 2 _ rfl
    have c3 := hc 3 _ rfl
    rw [Nat.add_zero] at c0
    go_simp
    try rfl
  refine fwd_ce (e := sv lo) rfl ⟨_, D88, by rintro g W h; simp [env, Is, N1, N2, N3, N4, N6, N7, N118] at h; exact h⟩ ?_ ?_
  · rintro ρ W ⟨h1, h2, hW, hr⟩
    try simp [Op.operands, Call.operands, readsOf, All, env, Is, Act.eval, N1, N2, N3, N4, N6, N7, N118] at hr
    refine ⟨30, #[.int .u8 0, .int .u8 96], ?_, h30c _⟩
    go_simp
    try rfl
  refine fwd_ce (e := sv hi) rfl ⟨_, D88, by rintro g W h; simp [env, Is, N1, N2, N3, N4, N6, N7, N118] at h; exact h⟩ ?_ ?_
  · rintro ρ W ⟨h1, h2, hW, hr⟩
    try simp [Op.operands, Call.operands, readsOf, All, env, Is, Act.eval, N1, N2, N3, N4, N6, N7, N118] at hr
    refine ⟨30, #[.int .u8 101, .int .u8 255], ?_, h30d _⟩
    go_simp
    try rfl
  refine fwd_ce (e := sv P0) rfl ⟨_, D88, by rintro g W h; simp [env, Is, N1, N2, N3, N4, N6, N7, N118] at h; exact h⟩ ?_ ?_
  · rintro ρ W ⟨h1, h2, hW, hr⟩
    try simp [Op.operands, Call.operands, readsOf, All, env, Is, Act.eval, N1, N2, N3, N4, N6, N7, N118] at hr
    refine ⟨16, #[sv lo, sv hi], ?_, h16 _⟩
    go_simp
    try rfl
  refine fwd_e (e := .bool true) rfl ⟨_, D88, by rintro g W h; simp [env, Is, N1, N2, N3, N4, N6, N7, N118] at h; exact h⟩ ?_ ?_
  · rintro ρ W ⟨h1, h2, hW, hr⟩
    try simp [Op.operands, Call.operands, readsOf, All, env, Is, Act.eval, N1, N2, N3, N4, N6, N7, N118] at hr
    simp only [sv] at hr
    go_simp
    try rfl
  refine fwd_e (e := .bool true) rfl trivial ?_ ?_
  · rintro ρ W ⟨h1, h2, hW, hr⟩
    try simp [Op.operands, Call.operands, readsOf, All, env, Is, Act.eval, N1, N2, N3, N4, N6, N7, N118] at hr
    go_simp
    try rfl
  refine fwd_e (e := .bool true) rfl trivial ?_ ?_
  · rintro ρ W ⟨h1, h2, hW, hr⟩
    try simp [Op.operands, Call.operands, readsOf, All, env, Is, Act.eval, N1, N2, N3, N4, N6, N7, N118] at hr
    go_simp
    try rfl
  refine fwd_forget [(1, .pointer (some ⟨w1.heap.size, 0, none⟩)), (2, v2), (3, .int .u8 99), (4, .bool true), (6, .bool false), (7, v7), (127, .bool true)] (by simp [env, N1, N2, N3, N4, N6, N7, N118]) ?_
  clear N1 N2 N3 N4 N6 N7 N118
  intro acc hN
  simp only [List.forall_mem_cons] at hN
  obtain ⟨N1, N2, N3, N4, N6, N7, N127, -⟩ := hN
  refine fwd_m (SlAt 4 (setC [P0, sA, sBC, sD])) (SlAt.mono _ _) rfl ⟨_, D97, by rintro g W h; simp [env, Is, N1, N2, N3, N4, N6, N7, N127] at h; exact h⟩ ?_ ?_
  · rintro ρ W ⟨h1, h2, hW, hr⟩
    try simp [Op.operands, Call.operands, readsOf, All, env, Is, Act.eval, N1, N2, N3, N4, N6, N7, N127] at hr
    refine ⟨v7, ?_, SlAt.mono _ _ _ _ _ hW hv7⟩
    go_simp
    try rfl
  refine fwd_m (PtrAt ((List.drop 4 (setC [P0, sA, sBC, sD])).take 4)) (PtrAt.mono _) rfl ⟨_, D97, by rintro g W h; simp [env, Is, N1, N2, N3, N4, N6, N7, N127] at h; exact h⟩ ?_ ?_
  · rintro ρ W ⟨h1, h2, hW, hr⟩
    try simp [Op.operands, Call.operands, readsOf, All, env, Is, Act.eval, N1, N2, N3, N4, N6, N7, N127] at hr
    obtain ⟨a, cap, hv, hz⟩ := SlAt.shape hr
    obtain ⟨b, o, rfl, hb, hc⟩ := hz (by omega)
    refine ⟨.pointer (some ⟨b, o + 4, none⟩), ?_, ptr_of hb hc 4 4⟩
    go_simp
    try rfl
  refine fwd_e (e := sv sA) rfl ⟨_, D97, by rintro g W h; simp [env, Is, N1, N2, N3, N4, N6, N7, N127] at h; exact h⟩ ?_ ?_
  · rintro ρ W ⟨h1, h2, hW, hr⟩
    try simp [Op.operands, Call.operands, readsOf, All, env, Is, Act.eval, N1, N2, N3, N4, N6, N7, N127] at hr
    obtain ⟨b, o, hv, hb, hc⟩ := hr
    have c0 := hc 0 _ rfl
    have c1 := hc 1 _ rfl
    have c2 := hc 2 _ rfl
    have c3 := hc 3 _ rfl
    rw [Nat.add_zero] at c0
    go_simp
    try rfl
  refine fwd_s #[.int .u8 97] 1 5 rfl ⟨_, D97, by rintro g W h; simp [env, Is, N1, N2, N3, N4, N6, N7, N127] at h; exact h⟩ ?_ ?_
  · rintro ρ W ⟨h1, h2, hW, hr⟩
    try simp [Op.operands, Call.operands, readsOf, All, env, Is, Act.eval, N1, N2, N3, N4, N6, N7, N127] at hr
    go_simp
    try rfl
  refine fwd_ce (e := sv sA) rfl ⟨_, D97, by rintro g W h; simp [env, Is, N1, N2, N3, N4, N6, N7, N127] at h; exact h⟩ ?_ ?_
  · rintro ρ W ⟨h1, h2, hW, hr⟩
    try simp [Op.operands, Call.operands, readsOf, All, env, Is, Act.eval, N1, N2, N3, N4, N6, N7, N127] at hr
    refine ⟨13, #[ρ (.tmp 131)], ?_, h13a _ _ hr⟩
    go_simp
    try rfl
  refine fwd_e (e := .bool true) rfl ⟨_, D97, by rintro g W h; simp [env, Is, N1, N2, N3, N4, N6, N7, N127] at h; exact h⟩ ?_ ?_
  · rintro ρ W ⟨h1, h2, hW, hr⟩
    try simp [Op.operands, Call.operands, readsOf, All, env, Is, Act.eval, N1, N2, N3, N4, N6, N7, N127] at hr
    simp only [sv] at hr
    go_simp
    try rfl
  refine fwd_e (e := .bool true) rfl trivial ?_ ?_
  · rintro ρ W ⟨h1, h2, hW, hr⟩
    try simp [Op.operands, Call.operands, readsOf, All, env, Is, Act.eval, N1, N2, N3, N4, N6, N7, N127] at hr
    go_simp
    try rfl
  refine fwd_e (e := .bool true) rfl trivial ?_ ?_
  · rintro ρ W ⟨h1, h2, hW, hr⟩
    try simp [Op.operands, Call.operands, readsOf, All, env, Is, Act.eval, N1, N2, N3, N4, N6, N7, N127] at hr
    go_simp
    try rfl
  refine fwd_forget [(1, .pointer (some ⟨w1.heap.size, 0, none⟩)), (2, v2), (3, .int .u8 99), (4, .bool true), (6, .bool false), (7, v7), (135, .bool true)] (by simp [env, N1, N2, N3, N4, N6, N7, N127]) ?_
  clear N1 N2 N3 N4 N6 N7 N127
  intro acc hN
  simp only [List.forall_mem_cons] at hN
  obtain ⟨N1, N2, N3, N4, N6, N7, N135, -⟩ := hN
  refine fwd_m (SlAt 4 (setC [P0, sA, sBC, sD])) (SlAt.mono _ _) rfl ⟨_, D105, by rintro g W h; simp [env, Is, N1, N2, N3, N4, N6, N7, N135] at h; exact h⟩ ?_ ?_
  · rintro ρ W ⟨h1, h2, hW, hr⟩
    try simp [Op.operands, Call.operands, readsOf, All, env, Is, Act.eval, N1, N2, N3, N4, N6, N7, N135] at hr
    refine ⟨v7, ?_, SlAt.mono _ _ _ _ _ hW hv7⟩
    go_simp
    try rfl
  refine fwd_m (PtrAt ((List.drop 8 (setC [P0, sA, sBC, sD])).take 4)) (PtrAt.mono _) rfl ⟨_, D105, by rintro g W h; simp [env, Is, N1, N2, N3, N4, N6, N7, N135] at h; exact h⟩ ?_ ?_
  · rintro ρ W ⟨h1, h2, hW, hr⟩
    try simp [Op.operands, Call.operands, readsOf, All, env, Is, Act.eval, N1, N2, N3, N4, N6, N7, N135] at hr
    obtain ⟨a, cap, hv, hz⟩ := SlAt.shape hr
    obtain ⟨b, o, rfl, hb, hc⟩ := hz (by omega)
    refine ⟨.pointer (some ⟨b, o + 8, none⟩), ?_, ptr_of hb hc 8 4⟩
    go_simp
    try rfl
  refine fwd_e (e := sv sBC) rfl ⟨_, D105, by rintro g W h; simp [env, Is, N1, N2, N3, N4, N6, N7, N135] at h; exact h⟩ ?_ ?_
  · rintro ρ W ⟨h1, h2, hW, hr⟩
    try simp [Op.operands, Call.operands, readsOf, All, env, Is, Act.eval, N1, N2, N3, N4, N6, N7, N135] at hr
    obtain ⟨b, o, hv, hb, hc⟩ := hr
    have c0 := hc 0 _ rfl
    have c1 := hc 1 _ rfl
    have c2 := hc 2 _ rfl
    have c3 := hc 3 _ rfl
    rw [Nat.add_zero] at c0
    go_simp
    try rfl
  refine fwd_s #[.int .u8 98, .int .u8 99] 2 5 rfl ⟨_, D105, by rintro g W h; simp [env, Is, N1, N2, N3, N4, N6, N7, N135] at h; exact h⟩ ?_ ?_
  · rintro ρ W ⟨h1, h2, hW, hr⟩
    try simp [Op.operands, Call.operands, readsOf, All, env, Is, Act.eval, N1, N2, N3, N4, N6, N7, N135] at hr
    go_simp
    try rfl
  refine fwd_ce (e := sv sBC) rfl ⟨_, D105, by rintro g W h; simp [env, Is, N1, N2, N3, N4, N6, N7, N135] at h; exact h⟩ ?_ ?_
  · rintro ρ W ⟨h1, h2, hW, hr⟩
    try simp [Op.operands, Call.operands, readsOf, All, env, Is, Act.eval, N1, N2, N3, N4, N6, N7, N135] at hr
    refine ⟨13, #[ρ (.tmp 139)], ?_, h13bc _ _ hr⟩
    go_simp
    try rfl
  refine fwd_e (e := .bool true) rfl ⟨_, D105, by rintro g W h; simp [env, Is, N1, N2, N3, N4, N6, N7, N135] at h; exact h⟩ ?_ ?_
  · rintro ρ W ⟨h1, h2, hW, hr⟩
    try simp [Op.operands, Call.operands, readsOf, All, env, Is, Act.eval, N1, N2, N3, N4, N6, N7, N135] at hr
    simp only [sv] at hr
    go_simp
    try rfl
  refine fwd_e (e := .bool true) rfl trivial ?_ ?_
  · rintro ρ W ⟨h1, h2, hW, hr⟩
    try simp [Op.operands, Call.operands, readsOf, All, env, Is, Act.eval, N1, N2, N3, N4, N6, N7, N135] at hr
    go_simp
    try rfl
  refine fwd_e (e := .bool true) rfl trivial ?_ ?_
  · rintro ρ W ⟨h1, h2, hW, hr⟩
    try simp [Op.operands, Call.operands, readsOf, All, env, Is, Act.eval, N1, N2, N3, N4, N6, N7, N135] at hr
    go_simp
    try rfl
  refine fwd_forget [(1, .pointer (some ⟨w1.heap.size, 0, none⟩)), (2, v2), (3, .int .u8 99), (4, .bool true), (6, .bool false), (7, v7), (143, .bool true)] (by simp [env, N1, N2, N3, N4, N6, N7, N135]) ?_
  clear N1 N2 N3 N4 N6 N7 N135
  intro acc hN
  simp only [List.forall_mem_cons] at hN
  obtain ⟨N1, N2, N3, N4, N6, N7, N143, -⟩ := hN
  refine fwd_m (SlAt 4 (setC [P0, sA, sBC, sD])) (SlAt.mono _ _) rfl ⟨_, D113, by rintro g W h; simp [env, Is, N1, N2, N3, N4, N6, N7, N143] at h; exact h⟩ ?_ ?_
  · rintro ρ W ⟨h1, h2, hW, hr⟩
    try simp [Op.operands, Call.operands, readsOf, All, env, Is, Act.eval, N1, N2, N3, N4, N6, N7, N143] at hr
    refine ⟨v7, ?_, SlAt.mono _ _ _ _ _ hW hv7⟩
    go_simp
    try rfl
  refine fwd_m (PtrAt ((List.drop 12 (setC [P0, sA, sBC, sD])).take 4)) (PtrAt.mono _) rfl ⟨_, D113, by rintro g W h; simp [env, Is, N1, N2, N3, N4, N6, N7, N143] at h; exact h⟩ ?_ ?_
  · rintro ρ W ⟨h1, h2, hW, hr⟩
    try simp [Op.operands, Call.operands, readsOf, All, env, Is, Act.eval, N1, N2, N3, N4, N6, N7, N143] at hr
    obtain ⟨a, cap, hv, hz⟩ := SlAt.shape hr
    obtain ⟨b, o, rfl, hb, hc⟩ := hz (by omega)
    refine ⟨.pointer (some ⟨b, o + 12, none⟩), ?_, ptr_of hb hc 12 4⟩
    go_simp
    try rfl
  refine fwd_e (e := sv sD) rfl ⟨_, D113, by rintro g W h; simp [env, Is, N1, N2, N3, N4, N6, N7, N143] at h; exact h⟩ ?_ ?_
  · rintro ρ W ⟨h1, h2, hW, hr⟩
    try simp [Op.operands, Call.operands, readsOf, All, env, Is, Act.eval, N1, N2, N3, N4, N6, N7, N143] at hr
    obtain ⟨b, o, hv, hb, hc⟩ := hr
    have c0 := hc 0 _ rfl
    have c1 := hc 1 _ rfl
    have c2 := hc 2 _ rfl
    have c3 := hc 3 _ rfl
    rw [Nat.add_zero] at c0
    go_simp
    try rfl
  refine fwd_s #[.int .u8 100] 1 5 rfl ⟨_, D113, by rintro g W h; simp [env, Is, N1, N2, N3, N4, N6, N7, N143] at h; exact h⟩ ?_ ?_
  · rintro ρ W ⟨h1, h2, hW, hr⟩
    try simp [Op.operands, Call.operands, readsOf, All, env, Is, Act.eval, N1, N2, N3, N4, N6, N7, N143] at hr
    go_simp
    try rfl
  refine fwd_ce (e := sv sD) rfl ⟨_, D113, by rintro g W h; simp [env, Is, N1, N2, N3, N4, N6, N7, N143] at h; exact h⟩ ?_ ?_
  · rintro ρ W ⟨h1, h2, hW, hr⟩
    try simp [Op.operands, Call.operands, readsOf, All, env, Is, Act.eval, N1, N2, N3, N4, N6, N7, N143] at hr
    refine ⟨13, #[ρ (.tmp 147)], ?_, h13d _ _ hr⟩
    go_simp
    try rfl
  refine fwd_e (e := .bool true) rfl ⟨_, D113, by rintro g W h; simp [env, Is, N1, N2, N3, N4, N6, N7, N143] at h; exact h⟩ ?_ ?_
  · rintro ρ W ⟨h1, h2, hW, hr⟩
    try simp [Op.operands, Call.operands, readsOf, All, env, Is, Act.eval, N1, N2, N3, N4, N6, N7, N143] at hr
    simp only [sv] at hr
    go_simp
    try rfl
  refine fwd_e (e := .bool true) rfl trivial ?_ ?_
  · rintro ρ W ⟨h1, h2, hW, hr⟩
    try simp [Op.operands, Call.operands, readsOf, All, env, Is, Act.eval, N1, N2, N3, N4, N6, N7, N143] at hr
    go_simp
    try rfl
  refine fwd_e (e := .bool true) rfl trivial ?_ ?_
  · rintro ρ W ⟨h1, h2, hW, hr⟩
    try simp [Op.operands, Call.operands, readsOf, All, env, Is, Act.eval, N1, N2, N3, N4, N6, N7, N143] at hr
    go_simp
    try rfl
  exact fwd_nil (hfin _ (by simp [env]))
  end Go.Proofs.Ytjmhbbbpjbgmjaa
