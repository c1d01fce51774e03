/-
  rx: has.
-/
import Derived.Test.YtaocggpaiafeeaaZrxFunc
set_option linter.unusedSimpArgs false
set_option linter.unusedVariables false
namespace Go.Ab
open Go Go.RowKit Go.Fwd Go.Proofs

theorem ent57 : Ent Try.prog 57 := enters_of Try.func57 (by kernel_rfl) rfl
theorem ent46 : Ent Try.prog 46 := enters_of Try.func46 (by kernel_rfl) rfl
set_option maxRecDepth 100000 in
theorem containsFunc_pure (l : List Tr) (hl : l.length < 2 ^ 62) (g : FuncId) (caps : List AV) (p : Tr → Bool) (hok : okTrimL 0 caps = true) (hs : stripL caps = caps) (hp : ∀ x ∈ l, Pure (ITP Try.prog) Try.prog g (enc x :: caps) (.raw (.bool (p x)))) :
    Pure (ITP Try.prog) Try.prog 56 [.list l.length (cellsL l) .none, .clos g caps] (.raw (.bool (l.any p))) := by
  obtain ⟨d, hd⟩ : ∃ d, Try.f56.body = some d := ⟨_, rfl⟩
  refine pure_of mix Try.func56 hd ent56 ?_
  cases hd
  generalize hres : AV.raw (.bool (l.any p)) = res
  refine w_start (by dsimp only [abeginS, Try.f56, List.length_cons, List.length_nil, Nat.zero_add, Nat.reduceAdd, Nat.reduceSub, List.replicate, List.cons_append, List.nil_append]) (by dsimp only [St.empty]) ?_
  have hcall := indexFunc_pure l hl g caps p hok hs hp
  generalize hv : (if l.findIdx p < l.length then (l.findIdx p : Int) else -1) = v at hcall
  refine w_seq (w_region ?_)
  refine w_op rfl rfl rfl rfl (by dsimp only [aput, List.set]) ?_
  refine w_seq (w_region ?_)
  refine w_op rfl rfl rfl rfl (by dsimp only [aput, List.set]) ?_
  refine w_op rfl rfl rfl rfl (by dsimp only [aput, List.set]) ?_
  refine w_call (args := [.list l.length (cellsL l) .none, .clos g caps]) (r := .raw (.int .i64 v)) (by rw [show stripL [.list l.length (cellsL l) .none, .clos g caps] = [.list l.length (cellsL l) .none, .clos g caps] by simp [stripL, strip, strip_cellsL, hs]]; exact hcall) rfl rfl (by simp [okTrimL, okTrim, okTrim_cellsL, hok]) (by dsimp only [aput, List.set]) ?_
  refine w_op (a := .raw (.bool (decide (v ≥ 0)))) rfl rfl rfl rfl (by dsimp only [aput, List.set]) ?_
  refine w_op rfl rfl rfl rfl (by dsimp only [aput, List.set]) ?_
  refine ⟨.raw (.bool (decide (v ≥ 0))), by kernel_rfl, ends_strip rfl ?_⟩
  rw [← hres]
  have : decide (v ≥ 0) = l.any p := by
    subst hv
    by_cases h : l.findIdx p < l.length
    · have h2 : l.any p = true := by
        rw [List.any_eq_true]; exact ⟨_, List.getElem_mem h, List.findIdx_getElem⟩
      rw [h2, if_pos h]; simp
    · have h2 : l.any p = false := by
        rw [Bool.eq_false_iff]; intro ha
        rw [List.any_eq_true] at ha
        exact h (List.findIdx_lt_length.2 ha)
      rw [h2, if_neg h]; rfl
  rw [this]; rfl
set_option maxRecDepth 100000 in
theorem has1_pure (x : Tr) (k : Nat) : Pure (ITP Try.prog) Try.prog 57 [enc x, .iptr [.raw (.int .u8 k)]] (.raw (.bool (decide (x.k = k)))) := by
  obtain ⟨d, hd⟩ : ∃ d, Try.f57.body = some d := ⟨_, rfl⟩
  refine pure_of mix Try.func57 hd ent57 ?_
  cases hd
  generalize hres : AV.raw (.bool (decide (x.k = k))) = res
  cases x with
  | mk k' s mn mx ts =>
  refine w_start (by dsimp only [abeginS, Try.f57, List.length_cons, List.length_nil, Nat.zero_add, Nat.reduceAdd, Nat.reduceSub, List.replicate, List.cons_append, List.nil_append]) (by dsimp only [St.empty]) ?_
  refine w_seq (w_region ?_)
  refine w_op rfl rfl rfl rfl (by dsimp only [aput, List.set]) ?_
  refine w_op rfl rfl rfl rfl (by dsimp only [aput, List.set]) ?_
  refine w_seq (w_region ?_)
  refine w_op rfl rfl rfl rfl (by dsimp only [aput, List.set]) ?_
  refine w_op rfl rfl rfl rfl (by dsimp only [aput, List.set]) ?_
  refine w_op rfl rfl rfl rfl (by dsimp only [aput, List.set]) ?_
  refine w_op (a := .raw (.bool ((k' : Int) == (k : Int)))) rfl rfl rfl rfl (by dsimp only [aput, List.set]) ?_
  refine w_op rfl rfl rfl rfl (by dsimp only [aput, List.set]) ?_
  refine ⟨.raw (.bool ((k' : Int) == (k : Int))), by kernel_rfl, ends_strip rfl ?_⟩
  rw [← hres]
  have : ((k' : Int) == (k : Int)) = decide ((Tr.mk k' s mn mx ts).k = k) := by
    simp only [Tr.k]; by_cases h : k' = k <;> simp [h]; omega
  rw [this]; rfl
set_option maxRecDepth 100000 in
theorem has_pure (x : Tr) (hx : x.l.length < 2 ^ 62) (k : Nat) : Pure (ITP Try.prog) Try.prog 46 [enc x, .raw (.int .u8 k)] (.raw (.bool (x.l.any fun y => decide (y.k = k)))) := by
  obtain ⟨d, hd⟩ : ∃ d, Try.f46.body = some d := ⟨_, rfl⟩
  refine pure_of mix Try.func46 hd ent46 ?_
  cases hd
  have hcall := containsFunc_pure x.l hx 57 [.iptr [.raw (.int .u8 k)]] (fun y => decide (y.k = k)) rfl rfl (fun y _ => has1_pure y k)
  generalize (x.l.any fun y => decide (y.k = k)) = res at hcall
  cases x with
  | mk k' s mn mx ts =>
  refine w_start (by dsimp only [abeginS, Try.f46, List.length_cons, List.length_nil, Nat.zero_add, Nat.reduceAdd, Nat.reduceSub, List.replicate, List.cons_append, List.nil_append]) (by dsimp only [St.empty]) ?_
  refine w_seq (w_region ?_)
  refine w_op rfl rfl rfl rfl (by dsimp only [aput, List.set]) ?_
  refine w_op rfl rfl rfl rfl (by dsimp only [aput, List.set]) ?_
  refine w_op rfl rfl rfl rfl (by dsimp only [aput, List.set]) ?_
  refine w_seq (w_region ?_)
  refine w_op rfl rfl rfl rfl (by dsimp only [aput, List.set]) ?_
  refine w_op (a := .list ts.length (cellsL ts) .none) rfl rfl rfl rfl (by dsimp only [aput, List.set]) ?_
  refine w_op (a := .clos 57 [.ptr 1 0]) rfl rfl rfl rfl (by dsimp only [aput, List.set]) ?_
  refine w_callf (args := [.list ts.length (cellsL ts) .none, .clos 57 [.ptr 1 0]]) (r := .raw (.bool res)) 1 hcall rfl rfl ?_ rfl (by dsimp only [aput, List.set]) ?_
  · simp only [mapPtrL, mapPtr, mapPtr_cellsL]; rfl
  refine w_op rfl rfl rfl rfl (by dsimp only [aput, List.set]) ?_
  exact ⟨.raw (.bool res), by kernel_rfl, ends_strip rfl rfl⟩
end Go.Ab
