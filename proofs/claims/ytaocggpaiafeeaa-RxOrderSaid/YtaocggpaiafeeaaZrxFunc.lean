/-
  rx: slices.IndexFunc, slices.ContainsFunc.
-/
import Derived.Test.YtaocggpaiafeeaaZrxRight
set_option linter.unusedSimpArgs false
set_option linter.unusedVariables false
namespace Go.Ab
open Go Go.RowKit Go.Fwd Go.Proofs

theorem ent64 : Ent Try.prog 64 := enters_of Try.func64 (by kernel_rfl) rfl
theorem ent56 : Ent Try.prog 56 := enters_of Try.func56 (by kernel_rfl) rfl
theorem encs_okTrim {l : List AV} (t : Tr) (h : okTrimL 0 l = true) : okTrimL 0 (enc t :: l) = true := by rw [okTrimL, okTrim_enc, h]; rfl
theorem encs_strip {l : List AV} (t : Tr) (h : stripL l = l) : stripL (enc t :: l) = enc t :: l := by rw [stripL, strip_enc, h]
set_option maxRecDepth 100000 in
set_option maxHeartbeats 2000000 in
theorem indexFunc_pure (l : List Tr) (hl : l.length < 2 ^ 62) (g : FuncId) (caps : List AV) (p : Tr → Bool) (hok : okTrimL 0 caps = true) (hs : stripL caps = caps) (hp : ∀ x ∈ l, Pure (ITP Try.prog) Try.prog g (enc x :: caps) (.raw (.bool (p x)))) :
    Pure (ITP Try.prog) Try.prog 64 [.list l.length (cellsL l) .none, .clos g caps] (.raw (.int .i64 (if l.findIdx p < l.length then (l.findIdx p : Int) else -1))) := by
  obtain ⟨d, hd⟩ : ∃ d, Try.f64.body = some d := ⟨_, rfl⟩
  refine pure_of mix Try.func64 hd ent64 ?_
  cases hd
  generalize hres : AV.raw (.int .i64 (if l.findIdx p < l.length then (l.findIdx p : Int) else -1)) = res
  have hfl := List.findIdx_le_length (p := p) (xs := l)
  refine w_start (by dsimp only [abeginS, Try.f64, List.length_cons, List.length_nil, Nat.zero_add, Nat.reduceAdd, Nat.reduceSub, List.replicate, List.cons_append, List.nil_append]) (by dsimp only [St.empty]) ?_
  refine w_seq (w_region ?_)
  refine w_op rfl rfl rfl rfl (by dsimp only [aput, List.set]) ?_
  refine w_seq ?_
  refine w_seq (w_region ?_)
  refine w_op rfl rfl rfl rfl (by dsimp only [aput, List.set]) ?_
  refine w_op rfl rfl rfl rfl (by dsimp only [aput, List.set]) ?_
  refine w_op rfl rfl rfl rfl (by dsimp only [aput, List.set]) ?_
  refine w_block ?_
  refine w_loop (l.findIdx p) 0 (fun i => slots 19 [(0, .list l.length (cellsL l) .none), (1, .clos g caps), (7, .raw (.int .i64 l.length)), (8, .raw (.int .i64 i))]) (fun i => ⟨[], [], [], 0, false⟩) rfl ?_ ?_ ?_
  · exact wk_of [0, 1, 7, 8] (by kernel_rfl) (by kernel_rfl)
  · intro i hi
    have hil : i < l.length := by omega
    obtain ⟨x, hx⟩ : ∃ x, l[i] = x := ⟨_, rfl⟩
    have hpx : p x = false := by rw [← hx]; simpa using List.not_of_lt_findIdx hi
    have hcall := hp x (hx ▸ List.getElem_mem hil)
    rw [hpx] at hcall
    refine w_start (by dsimp only [slots, List.foldl, List.replicate, List.set]) rfl ?_
    refine w_seq (w_region ?_)
    refine w_op (a := .raw (.bool true)) rfl rfl rfl (show some (AV.raw (.bool (decide ((i : Int) < (l.length : Int)))), _) = _ by simp [hil]; rfl) (by dsimp only [aput, List.set]) ?_
    refine w_seq (w_true rfl ?_)
    refine w_seq (w_block (w_seq (w_region ?_)))
    refine w_op rfl rfl rfl rfl (by dsimp only [aput, List.set]) ?_
    refine w_op rfl rfl rfl rfl (by dsimp only [aput, List.set]) ?_
    refine w_seq (w_region ?_)
    refine w_op rfl rfl rfl rfl (by dsimp only [aput, List.set]) ?_
    refine w_op rfl rfl rfl rfl (by dsimp only [aput, List.set]) ?_
    refine w_op rfl rfl rfl rfl (by dsimp only [aput, List.set]) ?_
    refine w_op rfl rfl rfl (op_indexAddr rfl rfl rfl rfl rfl ⟨by omega, by omega, cellsL_ne (List.ne_nil_of_length_pos (by omega))⟩) (by dsimp only [aput, List.set]) ?_
    refine w_op rfl rfl rfl (op_load (a := enc x) (.iptr ((cellsL l).drop (i * 8))) rfl rfl ?_) (by dsimp only [aput, List.set]) ?_
    · have := rd_agg (P := Try.prog) (t := 29) (cs := (cellsL l).drop (i * 8)) rfl rfl (cellsL_at_len hil)
      rw [aLoad, this]
      exact congrArg (fun z => some (AV.agg z)) (by rw [← hx]; exact cellsL_at hil)
    refine w_call (args := enc x :: caps) (r := .raw (.bool false)) (by rw [encs_strip x hs]; exact hcall) rfl rfl (encs_okTrim x hok) (by dsimp only [aput, List.set]) ?_
    refine w_false rfl ?_
    refine w_region (id := 6) ?_
    refine w_op rfl rfl rfl (op_add (r := ((i + 1 : Nat) : Int)) rfl rfl rfl (by omega) (by omega) (by omega)) (by dsimp only [aput, List.set]) ?_
    refine w_op rfl rfl rfl rfl (by dsimp only [aput, List.set]) ?_
    exact wk_of [0, 1, 7, 8] (by kernel_rfl) (by kernel_rfl)
  · refine w_start (by dsimp only [slots, List.foldl, List.replicate, List.set]) rfl ?_
    refine w_seq (w_region ?_)
    generalize hi : l.findIdx p = i at *
    by_cases hil : i < l.length
    · obtain ⟨x, hx⟩ : ∃ x, l[i] = x := ⟨_, rfl⟩
      have hpx : p x = true := by rw [← hx]; subst hi; exact List.findIdx_getElem
      have hcall := hp x (hx ▸ List.getElem_mem hil)
      rw [hpx] at hcall
      refine w_op (a := .raw (.bool true)) rfl rfl rfl (show some (AV.raw (.bool (decide ((i : Int) < (l.length : Int)))), _) = _ by simp [hil]; rfl) (by dsimp only [aput, List.set]) ?_
      refine w_seq (w_true rfl ?_)
      refine w_seq (w_block (w_seq (w_region ?_)))
      refine w_op rfl rfl rfl rfl (by dsimp only [aput, List.set]) ?_
      refine w_op rfl rfl rfl rfl (by dsimp only [aput, List.set]) ?_
      refine w_seq (w_region ?_)
      refine w_op rfl rfl rfl rfl (by dsimp only [aput, List.set]) ?_
      refine w_op rfl rfl rfl rfl (by dsimp only [aput, List.set]) ?_
      refine w_op rfl rfl rfl rfl (by dsimp only [aput, List.set]) ?_
      refine w_op rfl rfl rfl (op_indexAddr rfl rfl rfl rfl rfl ⟨by omega, by omega, cellsL_ne (List.ne_nil_of_length_pos (by omega))⟩) (by dsimp only [aput, List.set]) ?_
      refine w_op rfl rfl rfl (op_load (a := enc x) (.iptr ((cellsL l).drop (i * 8))) rfl rfl ?_) (by dsimp only [aput, List.set]) ?_
      · have := rd_agg (P := Try.prog) (t := 29) (cs := (cellsL l).drop (i * 8)) rfl rfl (cellsL_at_len hil)
        rw [aLoad, this]
        exact congrArg (fun z => some (AV.agg z)) (by rw [← hx]; exact cellsL_at hil)
      refine w_call (args := enc x :: caps) (r := .raw (.bool true)) (by rw [encs_strip x hs]; exact hcall) rfl rfl (encs_okTrim x hok) (by dsimp only [aput, List.set]) ?_
      refine w_true rfl ?_
      refine w_seq (w_region ?_)
      refine w_op rfl rfl rfl rfl (by dsimp only [aput, List.set]) ?_
      refine w_op rfl rfl rfl rfl (by dsimp only [aput, List.set]) ?_
      refine ⟨.raw (.int .i64 i), by kernel_rfl, ends_strip rfl ?_⟩
      rw [← hres, if_pos hil]; rfl
    · refine w_op (a := .raw (.bool false)) rfl rfl rfl (show some (AV.raw (.bool (decide ((i : Int) < (l.length : Int)))), _) = _ by simp [hil]; rfl) (by dsimp only [aput, List.set]) ?_
      refine w_seq (w_false rfl ?_)
      refine w_seq (w_region (id := 7) ?_)
      refine w_op rfl rfl rfl rfl (by dsimp only [aput, List.set]) ?_
      refine ⟨.raw (.int .i64 (-1)), by kernel_rfl, ends_strip rfl ?_⟩
      rw [← hres, if_neg hil]; rfl
end Go.Ab
