/-
  rx: the nodes of a tree.
-/
import Derived.Test.YtaocggpaiafeeaaRows
import Derived.Test.YtaocggpaiafeeaaZrxTree
set_option linter.unusedSimpArgs false
set_option linter.unusedVariables false
namespace Go.Ab
open Go Go.RowKit Go.Fwd Go.Proofs

theorem rows_at (k : Nat) (s : BS) (mn mx : Int) (ts : List Tr) (i : Nat) (hi : i < ts.length) (j : Nat) (hj : j < (pre ts[i]).length) : (rowsT (pre (.mk k s mn mx ts)))[1 + (preL (ts.take i)).length + j]? = some [enc (pre ts[i])[j]] := by
  have key : ∀ (l : List Tr) (i : Nat) (hi : i < l.length) (j : Nat) (hj : j < (pre l[i]).length), (preL l)[(preL (l.take i)).length + j]? = some (pre l[i])[j] := by
    intro l
    induction l with
    | nil => intro i hi; simp at hi
    | cons t l ih =>
      intro i hi j hj
      cases i with
      | zero =>
        simp only [List.take_zero, preL, List.length_nil, Nat.zero_add, List.getElem_cons_zero]
        simp only [List.getElem_cons_zero] at hj
        rw [List.getElem?_append_left hj, List.getElem?_eq_getElem hj]
      | succ i =>
        simp only [List.take_succ_cons, preL, List.length_append, List.getElem_cons_succ]
        simp only [List.getElem_cons_succ] at hj
        rw [List.getElem?_append_right (by omega), show (pre t).length + (preL (l.take i)).length + j - (pre t).length = (preL (l.take i)).length + j by omega]
        exact ih i (by simpa using hi) j hj
  simp only [rowsT, pre, List.getElem?_map, show 1 + (preL (ts.take i)).length + j = (preL (ts.take i)).length + j + 1 by omega, List.getElem?_cons_succ, key ts i hi j hj, Option.map_some]
theorem preL_take_succ : ∀ (ts : List Tr) (i : Nat) (hi : i < ts.length), (preL (ts.take (i + 1))).length = (preL (ts.take i)).length + (pre ts[i]).length
  | [], i, hi => by simp at hi
  | t :: ts, 0, hi => by simp [preL]
  | t :: ts, i + 1, hi => by
    simp only [List.take_succ_cons, preL, List.length_append, List.getElem_cons_succ, preL_take_succ ts i (by simpa using hi)]
    omega
theorem pre_len (k : Nat) (s : BS) (mn mx : Int) (ts : List Tr) : (pre (.mk k s mn mx ts)).length = 1 + (preL ts).length := by simp [pre]; omega
theorem preL_ge : ∀ ts : List Tr, ts.length ≤ (preL ts).length
  | [] => by simp [preL]
  | t :: ts => by
    have := preL_ge ts
    cases t with
    | mk k s mn mx l => simp [preL, pre]; omega
theorem pre_mem_le : ∀ {ts : List Tr} {x : Tr}, x ∈ ts → (pre x).length ≤ (preL ts).length
  | [], x, h => by simp at h
  | t :: ts, x, h => by
    simp only [preL, List.length_append]
    rcases List.mem_cons.1 h with rfl | h
    · omega
    · have := pre_mem_le h; omega
theorem rowsT_all (l : List Tr) : ((rowsT l).all fun x => decide (x.length = #[19].size)) = true := by simp [rowsT]
set_option maxRecDepth 100000 in
set_option maxHeartbeats 2000000 in
theorem nodes1_awp (k : Nat) (s : BS) (mn mx : Int) (ts : List Tr) (hsz : (preL ts).length < 2 ^ 62) (ih : ∀ x ∈ ts, Pure (ITP Try.prog) Try.prog 36 [enc x] (.iter (rowsT (pre x)))) (c : Code) (hc : Try.f45.body = some c) (l : Nat) :
    awp (ITP Try.prog) Try.prog (some (l, rowsT (pre (.mk k s mn mx ts)))) c (aendG Try.prog Try.f45 (rowsT (pre (.mk k s mn mx ts))).length) (abeginS Try.f45 [.yld l, .iptr (cells (.mk k s mn mx ts))]) St.empty := by
  cases hc
  have hlen := preL_ge ts
  refine w_seq (w_region ?_)
  refine w_op rfl rfl rfl rfl rfl ?_
  refine w_seq (w_seq (w_region ?_))
  refine w_op rfl rfl rfl rfl rfl ?_
  refine w_op (a := enc (.mk k s mn mx ts)) rfl rfl rfl rfl rfl ?_
  refine w_yield (args := [enc (.mk k s mn mx ts)]) rfl rfl rfl rfl rfl (by simp [stripL, strip_enc]) (by simp [okTrimL, okTrim_enc]) (by simp [noIterL, noIter_enc]) rfl ?_ ?_
  rotate_left
  · refine w_op rfl rfl rfl rfl rfl ?_
    refine w_true rfl ?_
    exact ⟨⟨_, rfl⟩, .inl rfl⟩
  refine w_op rfl rfl rfl rfl rfl ?_
  refine w_false rfl ?_
  refine w_seq (w_region ?_)
  refine w_op rfl rfl rfl rfl rfl ?_
  refine w_op rfl rfl rfl rfl rfl ?_
  refine w_op rfl rfl rfl rfl rfl ?_
  refine w_op rfl rfl rfl rfl rfl ?_
  refine w_block ?_
  refine w_loop ts.length 1 (fun i => slots 25 [(0, .yld l), (1, .iptr (cells (.mk k s mn mx ts))), (2, .ptr 0 0), (11, .list ts.length (cellsL ts) .none), (12, .raw (.int .i64 ts.length)), (13, .raw (.int .i64 i))])
    (fun i => ⟨[(32, [.yld l])], [], [], 1 + (preL (ts.take i)).length, false⟩) rfl ?_ ?_ ?_
  · exact wk_of [0, 1, 2, 11, 12, 13] (by kernel_rfl) (by kernel_rfl)
  · intro i hi
    obtain ⟨x, hx⟩ : ∃ x, ts[i] = x := ⟨_, rfl⟩
    have hxm : x ∈ ts := hx ▸ List.getElem_mem hi
    refine w_seq (w_region ?_)
    refine w_op rfl rfl rfl rfl rfl ?_
    refine w_seq (w_true (show AV.raw (.bool (decide ((i : Int) < (ts.length : Int)))) = _ by simp [hi]) ?_)
    refine w_seq (w_block (w_seq (w_region ?_)))
    refine w_op rfl rfl rfl (op_indexAddr rfl rfl rfl rfl rfl ⟨by omega, by omega, cellsL_ne (List.ne_nil_of_length_pos (by omega))⟩) rfl ?_
    refine w_op rfl rfl rfl (op_load (a := enc x) (.iptr ((cellsL ts).drop (i * 8))) rfl rfl ?_) rfl ?_
    · have := rd_agg (P := Try.prog) (t := 29) (cs := (cellsL ts).drop (i * 8)) rfl rfl (cellsL_at_len hi)
      rw [aLoad, this]
      exact congrArg (fun z => some (AV.agg z)) (by rw [← hx]; exact cellsL_at hi)
    have hp := ih x hxm
    have hra : ∀ j (hj : j < (pre x).length), (rowsT (pre (.mk k s mn mx ts)))[1 + (preL (ts.take i)).length + j]? = some [enc (pre x)[j]] := fun j hj => by
      subst hx; exact rows_at k s mn mx ts i hi j hj
    have hsucc : (preL (ts.take (i + 1))).length = (preL (ts.take i)).length + (pre x).length := by rw [← hx]; exact preL_take_succ ts i hi
    cases x with
    | mk k' s' mn' mx' ts' =>
    refine w_op rfl rfl rfl rfl rfl ?_
    refine w_op rfl rfl rfl rfl rfl ?_
    refine w_cut 2 (slots 25 [(2, .ptr 0 0), (0, .yld l), (1, .iptr (cells (.mk k s mn mx ts))), (11, .list ts.length (cellsL ts) .none), (12, .raw (.int .i64 ts.length)), (13, .raw (.int .i64 i)), (18, .iter (rowsT (pre (.mk k' s' mn' mx' ts'))))])
      ⟨[(32, [.yld l]), (29, cells (.mk k' s' mn' mx' ts'))], [], [], 1 + (preL (ts.take i)).length, false⟩ rfl (w_region ?_) ?_
    refine w_op (a := enc (.mk k' s' mn' mx' ts')) rfl rfl rfl rfl rfl ?_
    refine w_call (args := [enc (.mk k' s' mn' mx' ts')]) (r := .iter (rowsT (pre (.mk k' s' mn' mx' ts')))) ?_ rfl rfl ?_ rfl ?_
    · rw [show stripL [enc (.mk k' s' mn' mx' ts')] = [enc (.mk k' s' mn' mx' ts')] by simp [stripL, strip_enc]]; exact hp
    · simp [okTrimL, okTrim_enc]
    · exact wk_of [0, 1, 2, 11, 12, 13, 18] (by kernel_rfl) (by kernel_rfl)
    refine w_block (w_range (rowsT (pre (.mk k' s' mn' mx' ts'))) 2 (fun j => ⟨[(32, [.yld l]), (29, cells (.mk k' s' mn' mx' ts'))], [], [], 1 + (preL (ts.take i)).length + j, false⟩) rfl rfl (rowsT_all _) rfl rfl ?_ ?_)
    · intro j hj
      have hj' : j < (pre (.mk k' s' mn' mx' ts')).length := by simpa [rowsT] using hj
      have hra := hra j hj'
      have hrow : (rowsT (pre (.mk k' s' mn' mx' ts')))[j] = [enc (pre (.mk k' s' mn' mx' ts'))[j]] := by simp [rowsT]
      rw [hrow]
      generalize (pre (.mk k' s' mn' mx' ts'))[j] = y at hra
      cases y with
      | mk k2 s2 mn2 mx2 ts2 =>
      refine w_region ?_
      refine w_op rfl rfl rfl rfl rfl ?_
      refine w_op rfl rfl rfl rfl rfl ?_
      refine w_block (w_seq (w_region ?_))
      refine w_op rfl rfl rfl rfl rfl ?_
      refine w_op (a := enc (.mk k2 s2 mn2 mx2 ts2)) rfl rfl rfl rfl rfl ?_
      refine w_yield (args := [enc (.mk k2 s2 mn2 mx2 ts2)]) rfl rfl rfl rfl hra (by simp [stripL, strip_enc]) (by simp [okTrimL, okTrim_enc]) (by simp [noIterL, noIter_enc]) rfl ?_ ?_
      · refine w_op rfl rfl rfl rfl rfl ?_
        refine w_false rfl ?_
        exact ⟨(show okSt 2 ⟨[(32, [.yld l]), (29, cells (.mk k' s' mn' mx' ts')), (29, cells (.mk k2 s2 mn2 mx2 ts2))], [], [], _, _⟩ = true from by simp [okSt, okTrimL, okTrim, okTrim_cells]), by kernel_rfl⟩
      · refine w_op rfl rfl rfl rfl rfl ?_
        refine w_true rfl ?_
        exact ⟨(show okSt 2 ⟨[(32, [.yld l]), (29, cells (.mk k' s' mn' mx' ts')), (29, cells (.mk k2 s2 mn2 mx2 ts2))], [], [], _, _⟩ = true from by simp [okSt, okTrimL, okTrim, okTrim_cells]), ⟨.tup [], by kernel_rfl⟩, .inl (by kernel_rfl)⟩
    · refine w_region (id := 8) ?_
      refine w_op rfl rfl rfl (op_add (r := ((i + 1 : Nat) : Int)) rfl rfl rfl (by omega) (by omega) (by omega)) rfl ?_
      refine w_op rfl rfl rfl rfl rfl ?_
      refine wk_trim [0, 1, 2, 11, 12, 13] 1 (by kernel_rfl) (by decide) (by rfl) (okTrim_slots (by simp [okTrim, okTrim_cells, okTrim_cellsL])) ?_
      simp [trimSt, hsucc, rowsT]; omega
  · refine w_seq (w_region ?_)
    refine w_op rfl rfl rfl rfl rfl ?_
    refine w_seq (w_false (show AV.raw (.bool (decide ((ts.length : Int) < (ts.length : Int)))) = _ by simp) ?_)
    refine ⟨⟨_, rfl⟩, .inr ?_⟩
    simp [rowsT, pre_len]
theorem ent36 : Ent Try.prog 36 := enters_of Try.func36 (by kernel_rfl) rfl
theorem ent45 : Ent Try.prog 45 := enters_of Try.func45 (by kernel_rfl) rfl
theorem mix : Try.prog.follows .mixedOrders = true := by kernel_rfl
set_option maxRecDepth 100000 in
theorem nodes_pure : ∀ (n : Nat) (t : Tr), (pre t).length ≤ n → n < 2 ^ 62 → Pure (ITP Try.prog) Try.prog 36 [enc t] (.iter (rowsT (pre t))) := by
  intro n
  induction n with
  | zero => intro t h; cases t; simp [pre] at h
  | succ n ihn =>
    intro t h hn
    cases t with
    | mk k s mn mx ts =>
    have hl := pre_len k s mn mx ts
    have ih : ∀ x ∈ ts, Pure (ITP Try.prog) Try.prog 36 [enc x] (.iter (rowsT (pre x))) := fun x hx => ihn x (by have := pre_mem_le hx; omega) (by omega)
    obtain ⟨c, hc⟩ : ∃ c, Try.f45.body = some c := ⟨_, rfl⟩
    obtain ⟨d, hd⟩ : ∃ d, Try.f36.body = some d := ⟨_, rfl⟩
    refine pure_of mix Try.func36 hd ent36 ?_
    cases hd
    refine w_seq (w_region ?_)
    refine w_op rfl rfl rfl rfl rfl ?_
    refine w_op rfl rfl rfl rfl rfl ?_
    refine w_seq (w_region ?_)
    refine w_op rfl rfl rfl rfl rfl ?_
    refine w_op rfl rfl rfl rfl rfl ?_
    refine ⟨.clos 45 [.ptr 0 0], by kernel_rfl, ?_⟩
    refine ends_iter (caps := [.iptr (cells (.mk k s mn mx ts))]) mix (ends_frz 1 ?_) Try.func45 hc ent45 ?_ ?_
    · exact congrArg (fun z => AV.clos 45 [.iptr z]) (mapPtr_cells (frz [(29, cells (.mk k s mn mx ts))] 0) (.mk k s mn mx ts))
    · intro l
      rw [show stripL [.iptr (cells (.mk k s mn mx ts))] = [.iptr (cells (.mk k s mn mx ts))] by simp [stripL, strip, strip_cells]]
      exact nodes1_awp k s mn mx ts (by omega) ih c hc l
    · simp [okTrimL, okTrim, okTrim_cells]
end Go.Ab
