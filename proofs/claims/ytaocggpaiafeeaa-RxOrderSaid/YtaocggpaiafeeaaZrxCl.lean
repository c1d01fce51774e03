/-
  rx: Clean, Size, Groups, positions, Positions.
-/
import Derived.Test.YtaocggpaiafeeaaZrxRt
set_option linter.unusedSimpArgs false
set_option linter.unusedVariables false
namespace Go.Ab
open Go Go.RowKit Go.Fwd Go.Proofs

theorem cellsOf_enc (t : Tr) : cellsOf (enc t) = cells t := rfl
theorem aputs_one (S : List AV) (p : Tmp) (x : AV) : aputs S #[p] [x] = S.set p x := rfl
theorem rowsT_get (l : List Tr) (j : Nat) (h : j < (rowsT l).length) : (rowsT l)[j] = [enc (l[j]'(by simpa [rowsT] using h))] := by simp [rowsT]
theorem right_at (t : Tr) (h : t.l.length < 2 ^ 62) : Pure (ITP Try.prog) Try.prog 37 [enc t] (.raw (.bool (rightT t))) := by
  cases t with
  | mk k s mn mx ts => exact right_pure k s mn mx ts h
def lightT (t : Tr) : Bool := decide ((pre t).length ≤ 10000)
def cleanT (t : Tr) : Bool := lightT t && (pre t).all rightT
def sizeT' (t : Tr) : Int := if lightT t = true then (pre t).length else 10001
def groupsT (t : Tr) : Int := if lightT t = true then (pre t).countP (fun x => decide (x.k = 6)) else 10001
mutual
def posT : Tr → Int
  | .mk k s mn mx ts => min (if k = 5 then ((if k = 2 then 1 else 0) + posL ts) * min (if mx = -1 then max (max mn 0) 1 else max (max mn 0) mx) 10001 else (if k = 2 then 1 else 0) + posL ts) 10001
def posL : List Tr → Int
  | [] => 0
  | t :: l => posT t + posL l
end
def positionsT (t : Tr) : Int := if lightT t = true then posT t else 10001
theorem light_at (t : Tr) (h : (pre t).length < 2 ^ 62) : Pure (ITP Try.prog) Try.prog 35 [enc t] (.raw (.bool (lightT t))) := light_pure t h
theorem pre_l_length : ∀ (t : Tr), t.l.length < (pre t).length
  | .mk k s mn mx ts => by
    have : ∀ l : List Tr, l.length ≤ (preL l).length := fun l => by
      induction l with
      | nil => simp [preL]
      | cons a l ih => rw [preL, List.length_append, List.length_cons]; rw [pre_eq]; simp; omega
    simp [pre, Tr.l]; have := this ts; omega
theorem mem_pre_length {t x : Tr} (h : x ∈ pre t) : (pre x).length ≤ (pre t).length := by
  have key : ∀ n, (∀ t : Tr, SizeOf.sizeOf t ≤ n → ∀ x ∈ pre t, (pre x).length ≤ (pre t).length) := by
    intro n
    induction n with
    | zero => intro t ht; cases t; simp at ht
    | succ n ih =>
      intro t ht x hx
      rw [pre_eq] at hx
      rcases List.mem_cons.1 hx with rfl | hx
      · exact Nat.le_refl _
      · have hl : ∀ l : List Tr, (∀ y ∈ l, SizeOf.sizeOf y ≤ n) → ∀ x ∈ preL l, (pre x).length ≤ (preL l).length := by
          intro l
          induction l with
          | nil => intro _ x hx; simp [preL] at hx
          | cons a l ihl =>
            intro hs x hx
            rw [preL] at hx ⊢
            rw [List.length_append]
            rcases List.mem_append.1 hx with hx | hx
            · have := ih a (hs a (by simp)) x hx; omega
            · have := ihl (fun y hy => hs y (by simp [hy])) x hx; omega
        have := hl t.l (fun y hy => by have := Tr.sizeOf_l hy; omega) x hx
        rw [pre_eq t, List.length_cons]; omega
  exact key _ t (Nat.le_refl _) x h

theorem ent12 : Ent Try.prog 12 := enters_of Try.func12 (by kernel_rfl) rfl
set_option maxRecDepth 100000 in
set_option maxHeartbeats 4000000 in
theorem clean_mk (k : Nat) (s : BS) (mn mx : Int) (ts : List Tr) (h : (pre (.mk k s mn mx ts)).length < 2 ^ 62) : Pure (ITP Try.prog) Try.prog 12 [enc (.mk k s mn mx ts)] (.raw (.bool (cleanT (.mk k s mn mx ts)))) := by
  have hlight := light_at (.mk k s mn mx ts) h
  have hnodes := nodes_at (.mk k s mn mx ts) h
  have hsub : ∀ {x : Tr}, x ∈ pre (.mk k s mn mx ts) → x.l.length < 2 ^ 62 := fun {x} hx => by have h1 := pre_l_length x; have h2 := mem_pre_length hx; omega
  obtain ⟨d, hd⟩ : ∃ d, Try.f12.body = some d := ⟨_, rfl⟩
  refine pure_of mix Try.func12 hd ent12 ?_
  cases hd
  generalize hres : AV.raw (.bool (cleanT (.mk k s mn mx ts))) = res
  refine w_start (by dsimp only [abeginS, Try.f12, List.length_cons, List.length_nil, Nat.zero_add, Nat.reduceAdd, Nat.reduceSub, List.replicate, List.cons_append, List.nil_append]) (by dsimp only [St.empty]) ?_
  refine w_seq (w_region ?_)
  refine w_opm (a := .ptr 0 0) rfl rfl rfl rfl (by dsimp only [aput, List.set]) (by dsimp only [cellsOf_enc, List.append_nil, List.nil_append, List.cons_append, List.set, List.take, List.drop, List.length, List.length_cons, List.length_nil, cellsOf, aval, List.getElem?_cons_zero, List.getElem?_cons_succ, Option.getD]) ?_
  refine w_opm (a := .ptr 1 0) rfl rfl rfl rfl (by dsimp only [aput, List.set]) (by dsimp only [cellsOf_enc, List.append_nil, List.nil_append, List.cons_append, List.set, List.take, List.drop, List.length, List.length_cons, List.length_nil, cellsOf, aval, List.getElem?_cons_zero, List.getElem?_cons_succ, Option.getD]) ?_
  refine w_seq ?_
  refine w_seq (w_region ?_)
  refine w_op (a := enc (.mk k s mn mx ts)) rfl rfl rfl rfl (by dsimp only [aput, List.set]) ?_
  refine w_callkb hlight (by simp [cloL, clo, clo_enc]) rfl rfl (by dsimp only [aput, List.set]) (by dsimp only [aput, List.set]) (fun h1 => ?_) (fun h1 => ?_)
  ·
    refine w_op (a := .raw (.bool false)) rfl rfl rfl rfl (by dsimp only [aput, List.set]) ?_
    refine w_false rfl ?_
    refine w_seq ?_
    refine w_seq (w_region ?_)
    refine w_op (a := enc (.mk k s mn mx ts)) rfl rfl rfl rfl (by dsimp only [aput, List.set]) ?_
    refine w_callk hnodes (by simp [cloL, clo, clo_enc]) rfl rfl (by dsimp only [aput, List.set]) ?_
    refine w_block ?_
    refine w_rangeI (rowsT (pre (.mk k s mn mx ts))) 2 (fun j σ => (∀ i (hi : i < (pre (.mk k s mn mx ts)).length), i < j → rightT (pre (.mk k s mn mx ts))[i] = true) ∧ σ = ⟨[(29, cells (.mk k s mn mx ts)), (4, [.raw (.bool false)])], [], [], 0, false⟩) rfl rfl (rowsT_all _) rfl ⟨fun i hi h => by omega, rfl⟩ ?_ ?_
    · rintro j hj _ ⟨hj1, rfl⟩
      obtain ⟨y, hy⟩ : ∃ y, (pre (.mk k s mn mx ts))[j]'(by simpa [rowsT] using hj) = y := ⟨_, rfl⟩
      rw [rowsT_get, hy]
      obtain ⟨ky, sy, mny, mxy, tsy⟩ := y
      refine w_start (by dsimp only [aputs_one, List.set]) rfl ?_
      refine w_region (id := 4) ?_
      refine w_opm (a := .ptr 2 0) rfl rfl rfl rfl (by dsimp only [aput, List.set]) (by dsimp only [cellsOf_enc, List.append_nil, List.nil_append, List.cons_append, List.set, List.take, List.drop, List.length, List.length_cons, List.length_nil, cellsOf, aval, List.getElem?_cons_zero, List.getElem?_cons_succ, Option.getD]) ?_
      refine w_opm rfl rfl rfl (op_storeW (n := 8) rfl rfl rfl rfl rfl rfl rfl rfl (by decide)) (by dsimp only [aput, List.set]) (by dsimp only [cellsOf_enc, List.append_nil, List.nil_append, List.cons_append, List.set, List.take, List.drop, List.length, List.length_cons, List.length_nil, cellsOf, aval, List.getElem?_cons_zero, List.getElem?_cons_succ, Option.getD]) ?_
      refine w_block ?_
      refine w_seq (w_region ?_)
      refine w_op (a := enc (.mk ky sy mny mxy tsy)) rfl rfl rfl rfl (by dsimp only [aput, List.set]) ?_
      refine w_callkb (right_at (.mk ky sy mny mxy tsy) (hsub (hy ▸ List.getElem_mem _))) (by simp [cloL, clo, clo_enc]) rfl rfl (by dsimp only [aput, List.set]) (by dsimp only [aput, List.set]) (fun h2 => ?_) (fun h2 => ?_)
      ·
        refine w_op (a := .raw (.bool false)) rfl rfl rfl rfl (by dsimp only [aput, List.set]) ?_
        refine w_false rfl ?_
        refine ⟨by simp [okSt, okTrimL, okTrim, okTrim_cells], fun i hi1 hi2 => ?_, rfl⟩
        rcases Nat.lt_or_ge i j with hlt | hge
        · exact hj1 i hi1 hlt
        · obtain rfl : i = j := by omega
          rw [hy]; exact h2
      ·
        refine w_op (a := .raw (.bool true)) rfl rfl rfl rfl (by dsimp only [aput, List.set]) ?_
        refine w_true rfl ?_
        refine w_seq (w_region ?_)
        refine w_opm rfl rfl rfl (op_storeW (n := 1) (v := .raw (.bool false)) rfl rfl rfl rfl rfl rfl rfl rfl (by decide)) (by dsimp only [aput, List.set]) (by dsimp only [cellsOf_enc, List.append_nil, List.nil_append, List.cons_append, List.set, List.take, List.drop, List.length, List.length_cons, List.length_nil, cellsOf, aval, List.getElem?_cons_zero, List.getElem?_cons_succ, Option.getD]) ?_
        refine ⟨by simp [okSt, okTrimL, okTrim, okTrim_cells], ?_⟩
        refine end_pure (a := .raw (.bool false)) rfl rfl ?_
        rw [← hres, show cleanT (.mk k s mn mx ts) = false from ?_]; rfl
        rw [cleanT, Bool.and_eq_false_iff]; right
        rw [List.all_eq_false]; exact ⟨_, List.getElem_mem (by simpa [rowsT] using hj), by rw [hy, h2]; simp⟩
    · rintro _ ⟨hj1, rfl⟩
      refine w_seq (w_region ?_)
      refine w_opm rfl rfl rfl (op_storeW (n := 1) (v := .raw (.bool true)) rfl rfl rfl rfl rfl rfl rfl rfl (by decide)) (by dsimp only [aput, List.set]) (by dsimp only [cellsOf_enc, List.append_nil, List.nil_append, List.cons_append, List.set, List.take, List.drop, List.length, List.length_cons, List.length_nil, cellsOf, aval, List.getElem?_cons_zero, List.getElem?_cons_succ, Option.getD]) ?_
      refine end_pure (a := .raw (.bool true)) rfl rfl ?_
      rw [← hres, show cleanT (.mk k s mn mx ts) = true from ?_]; rfl
      rw [cleanT, h1, Bool.true_and, List.all_eq_true]; intro x hx
      obtain ⟨i, hi, rfl⟩ := List.mem_iff_getElem.1 hx
      exact hj1 i hi (by simpa [rowsT] using hi)
  ·
    refine w_op (a := .raw (.bool true)) rfl rfl rfl rfl (by dsimp only [aput, List.set]) ?_
    refine w_true rfl ?_
    refine w_seq (w_region ?_)
    refine w_opm rfl rfl rfl (op_storeW (n := 1) (v := .raw (.bool false)) rfl rfl rfl rfl rfl rfl rfl rfl (by decide)) (by dsimp only [aput, List.set]) (by dsimp only [cellsOf_enc, List.append_nil, List.nil_append, List.cons_append, List.set, List.take, List.drop, List.length, List.length_cons, List.length_nil, cellsOf, aval, List.getElem?_cons_zero, List.getElem?_cons_succ, Option.getD]) ?_
    refine end_pure (a := .raw (.bool false)) rfl rfl ?_
    rw [← hres, show cleanT (.mk k s mn mx ts) = false from by rw [cleanT, h1]; rfl]; rfl
theorem ent16 : Ent Try.prog 16 := enters_of Try.func16 (by kernel_rfl) rfl
set_option maxRecDepth 100000 in
set_option maxHeartbeats 4000000 in
theorem size_mk (k : Nat) (s : BS) (mn mx : Int) (ts : List Tr) (h : (pre (.mk k s mn mx ts)).length < 2 ^ 62) : Pure (ITP Try.prog) Try.prog 16 [enc (.mk k s mn mx ts)] (.raw (.int .i64 (sizeT' (.mk k s mn mx ts)))) := by
  have hlight := light_at (.mk k s mn mx ts) h
  have hnodes := nodes_at (.mk k s mn mx ts) h
  have hsub : ∀ {x : Tr}, x ∈ pre (.mk k s mn mx ts) → x.l.length < 2 ^ 62 := fun {x} hx => by have h1 := pre_l_length x; have h2 := mem_pre_length hx; omega
  obtain ⟨d, hd⟩ : ∃ d, Try.f16.body = some d := ⟨_, rfl⟩
  refine pure_of mix Try.func16 hd ent16 ?_
  cases hd
  generalize hres : AV.raw (.int .i64 (sizeT' (.mk k s mn mx ts))) = res
  refine w_start (by dsimp only [abeginS, Try.f16, List.length_cons, List.length_nil, Nat.zero_add, Nat.reduceAdd, Nat.reduceSub, List.replicate, List.cons_append, List.nil_append]) (by dsimp only [St.empty]) ?_
  refine w_seq (w_region ?_)
  refine w_opm (a := .ptr 0 0) rfl rfl rfl rfl (by dsimp only [aput, List.set]) (by dsimp only [cellsOf_enc, List.append_nil, List.nil_append, List.cons_append, List.set, List.take, List.drop, List.length, List.length_cons, List.length_nil, cellsOf, aval, List.getElem?_cons_zero, List.getElem?_cons_succ, Option.getD]) ?_
  refine w_op (a := .raw (.int .i64 0)) rfl rfl rfl rfl (by dsimp only [aput, List.set, aval, List.getElem?_cons_zero, List.getElem?_cons_succ, Option.getD]) ?_
  refine w_seq ?_
  refine w_seq (w_region ?_)
  refine w_op (a := enc (.mk k s mn mx ts)) rfl rfl rfl rfl (by dsimp only [aput, List.set]) ?_
  refine w_callkb hlight (by simp [cloL, clo, clo_enc]) rfl rfl (by dsimp only [aput, List.set]) (by dsimp only [aput, List.set]) (fun h1 => ?_) (fun h1 => ?_)
  ·
    refine w_op (a := .raw (.bool false)) rfl rfl rfl rfl (by dsimp only [aput, List.set]) ?_
    refine w_false rfl ?_
    refine w_seq (w_region ?_)
    refine w_opm (a := .ptr 1 0) rfl rfl rfl rfl (by dsimp only [aput, List.set]) (by dsimp only [cellsOf_enc, List.append_nil, List.nil_append, List.cons_append, List.set, List.take, List.drop, List.length, List.length_cons, List.length_nil, cellsOf, aval, List.getElem?_cons_zero, List.getElem?_cons_succ, Option.getD]) ?_
    refine w_opm rfl rfl rfl (op_storeW (n := 1) (v := .raw (.int .i64 0)) rfl rfl rfl rfl rfl rfl rfl rfl (by decide)) (by dsimp only [aput, List.set]) (by dsimp only [cellsOf_enc, List.append_nil, List.nil_append, List.cons_append, List.set, List.take, List.drop, List.length, List.length_cons, List.length_nil, cellsOf, aval, List.getElem?_cons_zero, List.getElem?_cons_succ, Option.getD]) ?_
    refine w_seq ?_
    refine w_seq (w_region ?_)
    refine w_op (a := enc (.mk k s mn mx ts)) rfl rfl rfl rfl (by dsimp only [aput, List.set]) ?_
    refine w_callk hnodes (by simp [cloL, clo, clo_enc]) rfl rfl (by dsimp only [aput, List.set]) ?_
    refine w_block ?_
    refine w_rangeI (rowsT (pre (.mk k s mn mx ts))) 2 (fun j σ => σ = ⟨[(29, cells (.mk k s mn mx ts)), (3, [.raw (.int .i64 (j : Nat))])], [], [], 0, false⟩) rfl rfl (rowsT_all _) rfl rfl ?_ ?_
    · rintro j hj _ rfl
      have hjl : j < (pre (.mk k s mn mx ts)).length := by simpa [rowsT] using hj
      rw [rowsT_get]
      refine w_start (by dsimp only [aputs_one, List.set]) rfl ?_
      refine w_block ?_
      refine w_region (id := 5) ?_
      refine w_op rfl rfl rfl rfl (by dsimp only [aput, List.set]) ?_
      refine w_op (a := .raw (.int .i64 ((j + 1 : Nat) : Int))) rfl rfl rfl (op_q (q_add rfl rfl rfl (by omega) (by omega) (by omega))) (by dsimp only [aput, List.set]) ?_
      refine w_opm rfl rfl rfl (op_storeW (n := 1) rfl rfl rfl rfl rfl rfl rfl rfl (by decide)) (by dsimp only [aput, List.set]) (by dsimp only [cellsOf_enc, List.append_nil, List.nil_append, List.cons_append, List.set, List.take, List.drop, List.length, List.length_cons, List.length_nil, cellsOf, aval, List.getElem?_cons_zero, List.getElem?_cons_succ, Option.getD]) ?_
      exact ⟨by simp [okSt, okTrimL, okTrim, okTrim_cells], rfl⟩
    · rintro _ rfl
      refine w_seq (w_region ?_)
      refine w_op rfl rfl rfl rfl (by dsimp only [aput, List.set]) ?_
      refine w_op rfl rfl rfl rfl (by dsimp only [aput, List.set, aval, List.getElem?_cons_zero, List.getElem?_cons_succ, Option.getD]) ?_
      refine end_pure (a := .raw (.int .i64 ((rowsT (pre (.mk k s mn mx ts))).length : Nat))) rfl rfl ?_
      rw [← hres, show sizeT' (.mk k s mn mx ts) = ((rowsT (pre (.mk k s mn mx ts))).length : Nat) from by rw [sizeT', if_pos h1]; simp [rowsT]]; rfl
  ·
    refine w_op (a := .raw (.bool true)) rfl rfl rfl rfl (by dsimp only [aput, List.set]) ?_
    refine w_true rfl ?_
    refine w_seq (w_region ?_)
    refine w_op (a := .raw (.int .i64 10001)) rfl rfl rfl rfl (by dsimp only [aput, List.set, aval, List.getElem?_cons_zero, List.getElem?_cons_succ, Option.getD]) ?_
    refine end_pure (a := .raw (.int .i64 10001)) rfl rfl ?_
    rw [← hres, show sizeT' (.mk k s mn mx ts) = 10001 from by rw [sizeT', h1]; rfl]; rfl
theorem ent17 : Ent Try.prog 17 := enters_of Try.func17 (by kernel_rfl) rfl
set_option maxRecDepth 100000 in
set_option maxHeartbeats 4000000 in
theorem groups_mk (k : Nat) (s : BS) (mn mx : Int) (ts : List Tr) (h : (pre (.mk k s mn mx ts)).length < 2 ^ 62) : Pure (ITP Try.prog) Try.prog 17 [enc (.mk k s mn mx ts)] (.raw (.int .i64 (groupsT (.mk k s mn mx ts)))) := by
  have hlight := light_at (.mk k s mn mx ts) h
  have hnodes := nodes_at (.mk k s mn mx ts) h
  have hsub : ∀ {x : Tr}, x ∈ pre (.mk k s mn mx ts) → x.l.length < 2 ^ 62 := fun {x} hx => by have h1 := pre_l_length x; have h2 := mem_pre_length hx; omega
  obtain ⟨d, hd⟩ : ∃ d, Try.f17.body = some d := ⟨_, rfl⟩
  refine pure_of mix Try.func17 hd ent17 ?_
  cases hd
  generalize hres : AV.raw (.int .i64 (groupsT (.mk k s mn mx ts))) = res
  refine w_start (by dsimp only [abeginS, Try.f17, List.length_cons, List.length_nil, Nat.zero_add, Nat.reduceAdd, Nat.reduceSub, List.replicate, List.cons_append, List.nil_append]) (by dsimp only [St.empty]) ?_
  refine w_seq (w_region ?_)
  refine w_opm (a := .ptr 0 0) rfl rfl rfl rfl (by dsimp only [aput, List.set]) (by dsimp only [cellsOf_enc, List.append_nil, List.nil_append, List.cons_append, List.set, List.take, List.drop, List.length, List.length_cons, List.length_nil, cellsOf, aval, List.getElem?_cons_zero, List.getElem?_cons_succ, Option.getD]) ?_
  refine w_op (a := .raw (.int .i64 0)) rfl rfl rfl rfl (by dsimp only [aput, List.set, aval, List.getElem?_cons_zero, List.getElem?_cons_succ, Option.getD]) ?_
  refine w_seq ?_
  refine w_seq (w_region ?_)
  refine w_op (a := enc (.mk k s mn mx ts)) rfl rfl rfl rfl (by dsimp only [aput, List.set]) ?_
  refine w_callkb hlight (by simp [cloL, clo, clo_enc]) rfl rfl (by dsimp only [aput, List.set]) (by dsimp only [aput, List.set]) (fun h1 => ?_) (fun h1 => ?_)
  ·
    refine w_op (a := .raw (.bool false)) rfl rfl rfl rfl (by dsimp only [aput, List.set]) ?_
    refine w_false rfl ?_
    refine w_seq (w_region ?_)
    refine w_opm (a := .ptr 1 0) rfl rfl rfl rfl (by dsimp only [aput, List.set]) (by dsimp only [cellsOf_enc, List.append_nil, List.nil_append, List.cons_append, List.set, List.take, List.drop, List.length, List.length_cons, List.length_nil, cellsOf, aval, List.getElem?_cons_zero, List.getElem?_cons_succ, Option.getD]) ?_
    refine w_opm rfl rfl rfl (op_storeW (n := 1) (v := .raw (.int .i64 0)) rfl rfl rfl rfl rfl rfl rfl rfl (by decide)) (by dsimp only [aput, List.set]) (by dsimp only [cellsOf_enc, List.append_nil, List.nil_append, List.cons_append, List.set, List.take, List.drop, List.length, List.length_cons, List.length_nil, cellsOf, aval, List.getElem?_cons_zero, List.getElem?_cons_succ, Option.getD]) ?_
    refine w_seq ?_
    refine w_seq (w_region ?_)
    refine w_op (a := enc (.mk k s mn mx ts)) rfl rfl rfl rfl (by dsimp only [aput, List.set]) ?_
    refine w_callk hnodes (by simp [cloL, clo, clo_enc]) rfl rfl (by dsimp only [aput, List.set]) ?_
    refine w_block ?_
    refine w_rangeI (rowsT (pre (.mk k s mn mx ts))) 2 (fun j σ => σ = ⟨[(29, cells (.mk k s mn mx ts)), (3, [.raw (.int .i64 (((pre (.mk k s mn mx ts)).take j).countP (fun x => decide (x.k = 6)) : Nat))])], [], [], 0, false⟩) rfl rfl (rowsT_all _) rfl rfl ?_ ?_
    · rintro j hj _ rfl
      have hjl : j < (pre (.mk k s mn mx ts)).length := by simpa [rowsT] using hj
      obtain ⟨y, hy⟩ : ∃ y, (pre (.mk k s mn mx ts))[j]'(by simpa [rowsT] using hj) = y := ⟨_, rfl⟩
      rw [rowsT_get, hy]
      obtain ⟨ky, sy, mny, mxy, tsy⟩ := y
      have hcl : ((pre (.mk k s mn mx ts)).take j).countP (fun x => decide (x.k = 6)) ≤ j := Nat.le_trans List.countP_le_length (by simp; omega)
      have hstep : ((pre (.mk k s mn mx ts)).take (j + 1)).countP (fun x => decide (x.k = 6)) = ((pre (.mk k s mn mx ts)).take j).countP (fun x => decide (x.k = 6)) + (if ky = 6 then 1 else 0) := by rw [List.take_succ_eq_append_getElem hjl, List.countP_append, hy]; by_cases h6 : ky = 6 <;> simp [List.countP_cons, Tr.k, h6]
      refine w_start (by dsimp only [aputs_one, List.set]) rfl ?_
      refine w_region (id := 5) ?_
      refine w_opm (a := .ptr 2 0) rfl rfl rfl rfl (by dsimp only [aput, List.set]) (by dsimp only [cellsOf_enc, List.append_nil, List.nil_append, List.cons_append, List.set, List.take, List.drop, List.length, List.length_cons, List.length_nil, cellsOf, aval, List.getElem?_cons_zero, List.getElem?_cons_succ, Option.getD]) ?_
      refine w_opm rfl rfl rfl (op_storeW (n := 8) rfl rfl rfl rfl rfl rfl rfl rfl (by decide)) (by dsimp only [aput, List.set]) (by dsimp only [cellsOf_enc, List.append_nil, List.nil_append, List.cons_append, List.set, List.take, List.drop, List.length, List.length_cons, List.length_nil, cellsOf, aval, List.getElem?_cons_zero, List.getElem?_cons_succ, Option.getD]) ?_
      refine w_block ?_
      refine w_seq (w_region ?_)
      refine w_op (a := .ptr 2 0) rfl rfl rfl rfl (by dsimp only [aput, List.set]) ?_
      refine w_op rfl rfl rfl rfl (by dsimp only [aput, List.set]) ?_
      refine w_opb rfl rfl rfl rfl (by dsimp only [aput, List.set]) (by dsimp only [aput, List.set]) (fun h2 => ?_) (fun h2 => ?_)
      ·
        refine w_true rfl ?_
        refine w_region (id := 7) ?_
        refine w_op rfl rfl rfl rfl (by dsimp only [aput, List.set]) ?_
        refine w_op (a := .raw (.int .i64 ((((pre (.mk k s mn mx ts)).take j).countP (fun x => decide (x.k = 6)) + 1 : Nat) : Int))) rfl rfl rfl (op_q (q_add rfl rfl rfl (by omega) (by omega) (by omega))) (by dsimp only [aput, List.set]) ?_
        refine w_opm rfl rfl rfl (op_storeW (n := 1) rfl rfl rfl rfl rfl rfl rfl rfl (by decide)) (by dsimp only [aput, List.set]) (by dsimp only [cellsOf_enc, List.append_nil, List.nil_append, List.cons_append, List.set, List.take, List.drop, List.length, List.length_cons, List.length_nil, cellsOf, aval, List.getElem?_cons_zero, List.getElem?_cons_succ, Option.getD]) ?_
        refine ⟨by simp [okSt, okTrimL, okTrim, okTrim_cells], ?_⟩
        rw [show ((pre (.mk k s mn mx ts)).take (j + 1)).countP (fun x => decide (x.k = 6)) = ((pre (.mk k s mn mx ts)).take j).countP (fun x => decide (x.k = 6)) + 1 from by rw [hstep, if_pos (show ky = 6 from by simp at h2; omega)]]; rfl
      ·
        refine w_false rfl ?_
        refine ⟨by simp [okSt, okTrimL, okTrim, okTrim_cells], ?_⟩
        rw [show ((pre (.mk k s mn mx ts)).take (j + 1)).countP (fun x => decide (x.k = 6)) = ((pre (.mk k s mn mx ts)).take j).countP (fun x => decide (x.k = 6)) from by rw [hstep, if_neg (show ¬ ky = 6 from by simp at h2; omega), Nat.add_zero]]; rfl
    · rintro _ rfl
      refine w_seq (w_region ?_)
      refine w_op rfl rfl rfl rfl (by dsimp only [aput, List.set]) ?_
      refine w_op rfl rfl rfl rfl (by dsimp only [aput, List.set, aval, List.getElem?_cons_zero, List.getElem?_cons_succ, Option.getD]) ?_
      refine end_pure (a := .raw (.int .i64 (((pre (.mk k s mn mx ts)).take (rowsT (pre (.mk k s mn mx ts))).length).countP (fun x => decide (x.k = 6)) : Nat))) rfl rfl ?_
      rw [← hres, show groupsT (.mk k s mn mx ts) = (((pre (.mk k s mn mx ts)).take (rowsT (pre (.mk k s mn mx ts))).length).countP (fun x => decide (x.k = 6)) : Nat) from by rw [groupsT, if_pos h1]; simp [rowsT]]; rfl
  ·
    refine w_op (a := .raw (.bool true)) rfl rfl rfl rfl (by dsimp only [aput, List.set]) ?_
    refine w_true rfl ?_
    refine w_seq (w_region ?_)
    refine w_op (a := .raw (.int .i64 10001)) rfl rfl rfl rfl (by dsimp only [aput, List.set, aval, List.getElem?_cons_zero, List.getElem?_cons_succ, Option.getD]) ?_
    refine end_pure (a := .raw (.int .i64 10001)) rfl rfl ?_
    rw [← hres, show groupsT (.mk k s mn mx ts) = 10001 from by rw [groupsT, h1]; rfl]; rfl
theorem posL_take (l : List Tr) (i : Nat) (hi : i < l.length) : posL (l.take (i + 1)) = posL (l.take i) + posT l[i] := by
  have happ : ∀ a b, posL (a ++ b) = posL a + posL b := fun a b => by
    induction a with
    | nil => simp [posL]
    | cons x a ih => rw [List.cons_append, posL, posL, ih, Int.add_assoc]
  rw [List.take_succ_eq_append_getElem hi, happ]; simp [posL]
theorem posT_le : ∀ t, posT t ≤ 10001
  | .mk k s mn mx ts => by rw [posT]; exact Int.min_le_right _ _
mutual
theorem posT_nonneg : ∀ t, 0 ≤ posT t
  | .mk k s mn mx ts => by
    have hl := posL_nonneg ts
    rw [posT]
    have h0 : 0 ≤ (if k = 2 then 1 else 0) + posL ts := by split <;> omega
    split
    · have : 0 ≤ ((if k = 2 then 1 else 0) + posL ts) * min (if mx = -1 then max (max mn 0) 1 else max (max mn 0) mx) 10001 := Int.mul_nonneg h0 (by split <;> omega)
      omega
    · omega
theorem posL_nonneg : ∀ l, 0 ≤ posL l
  | [] => by simp [posL]
  | t :: l => by have h1 := posT_nonneg t; have h2 := posL_nonneg l; rw [posL]; omega
end
theorem posL_le : ∀ l, posL l ≤ 10001 * l.length
  | [] => by simp [posL]
  | t :: l => by have h1 := posT_le t; have h2 := posL_le l; rw [posL, List.length_cons]; omega
theorem ent39 : Ent Try.prog 39 := enters_of Try.func39 (by kernel_rfl) rfl
set_option maxRecDepth 100000 in
set_option maxHeartbeats 4000000 in
theorem pos_walk (k : Nat) (s : BS) (mn mx : Int) (ts : List Tr) (hl : ts.length ≤ 10000) (ih : ∀ x ∈ ts, Pure (ITP Try.prog) Try.prog 39 [enc x] (.raw (.int .i64 (posT x)))) : Pure (ITP Try.prog) Try.prog 39 [enc (.mk k s mn mx ts)] (.raw (.int .i64 (posT (.mk k s mn mx ts)))) := by
  obtain ⟨d, hd⟩ : ∃ d, Try.f39.body = some d := ⟨_, rfl⟩
  refine pure_of mix Try.func39 hd ent39 ?_
  cases hd
  generalize hres : AV.raw (.int .i64 (posT (.mk k s mn mx ts))) = res
  refine w_start (by dsimp only [abeginS, Try.f39, List.length_cons, List.length_nil, Nat.zero_add, Nat.reduceAdd, Nat.reduceSub, List.replicate, List.cons_append, List.nil_append]) (by dsimp only [St.empty]) ?_
  refine w_seq (w_region ?_)
  refine w_opm (a := .ptr 0 0) rfl rfl rfl rfl (by dsimp only [aput, List.set]) (by dsimp only [cellsOf_enc, List.append_nil, List.nil_append, List.cons_append, List.set, List.take, List.drop, List.length, List.length_cons, List.length_nil, cellsOf, aval, List.getElem?_cons_zero, List.getElem?_cons_succ, Option.getD]) ?_
  refine w_op (a := .raw (.int .i64 0)) rfl rfl rfl rfl (by dsimp only [aput, List.set, aval, List.getElem?_cons_zero, List.getElem?_cons_succ, Option.getD]) ?_
  refine w_seq (w_region ?_)
  refine w_op (a := .raw (.int .i64 0)) rfl rfl rfl rfl (by dsimp only [aput, List.set, aval, List.getElem?_cons_zero, List.getElem?_cons_succ, Option.getD]) ?_
  refine w_cutS 1 [3, 8, 9, 10] [(3, .raw (.int .i64 (if k = 2 then 1 else 0)))] ⟨[(29, cells (.mk k s mn mx ts))], [], [], 0, false⟩ rfl ?_ ?_
  ·
    refine w_seq (w_region ?_)
    refine w_op (a := .ptr 0 0) rfl rfl rfl rfl (by dsimp only [aput, List.set]) ?_
    refine w_op rfl rfl rfl rfl (by dsimp only [aput, List.set]) ?_
    refine w_opb rfl rfl rfl rfl (by dsimp only [aput, List.set]) (by dsimp only [aput, List.set]) (fun h1 => ?_) (fun h1 => ?_)
    ·
      refine w_true rfl ?_
      refine w_region (id := 3) ?_
      refine w_op (a := .raw (.int .i64 1)) rfl rfl rfl rfl (by dsimp only [aput, List.set, aval, List.getElem?_cons_zero, List.getElem?_cons_succ, Option.getD]) ?_
      rw [show (if k = 2 then (1 : Int) else 0) = 1 from if_pos (by simp at h1; omega)]
      exact wm_of [true, true, true, true, true, true, true, true, false, false, false, true, true, true, true, true, true, true, true, true, true, true, true, true, true, true, true, true, true, true, true, true, true, true, true, true, true, true, true, true, true, true, true, true] (by kernel_rfl) (by kernel_rfl)
    ·
      refine w_false rfl ?_
      rw [show (if k = 2 then (1 : Int) else 0) = 0 from if_neg (by simp at h1; omega)]
      exact wm_of [true, true, true, true, true, true, true, true, false, false, false, true, true, true, true, true, true, true, true, true, true, true, true, true, true, true, true, true, true, true, true, true, true, true, true, true, true, true, true, true, true, true, true, true] (by kernel_rfl) (by kernel_rfl)
  refine w_start (by dsimp only [setAll, topAll, List.foldl, List.set]) rfl ?_
  refine w_seq ?_
  refine w_seq (w_region ?_)
  refine w_op (a := .ptr 0 7) rfl rfl rfl rfl (by dsimp only [aput, List.set]) ?_
  refine w_op (a := .list ts.length (cellsL ts) .none) rfl rfl rfl rfl (by dsimp only [aput, List.set]) ?_
  refine w_op (a := .raw (.int .i64 ts.length)) rfl rfl rfl rfl (by dsimp only [aput, List.set]) ?_
  refine w_op (a := .raw (.int .i64 0)) rfl rfl rfl rfl (by dsimp only [aput, List.set, aval, List.getElem?_cons_zero, List.getElem?_cons_succ, Option.getD]) ?_
  refine w_block ?_
  refine w_loopS (ts.length) 1 [3, 5, 14, 15, 16, 17, 18, 19, 20, 21, 22] (fun i => [(3, .raw (.int .i64 ((if k = 2 then 1 else 0) + posL (ts.take i)))), (14, .raw (.int .i64 (i : Nat)))]) (fun i => ⟨[(29, cells (.mk k s mn mx ts))], [], [], 0, false⟩) rfl ?_ ?_ ?_
  · exact wm_of [true, true, true, true, true, false, true, true, true, true, true, true, true, true, true, false, false, false, false, false, false, false, false, true, true, true, true, true, true, true, true, true, true, true, true, true, true, true, true, true, true, true, true, true] (by simp [posL]; kernel_rfl) (by kernel_rfl)
  · intro i hi
    have hb1 := posL_nonneg (ts.take i)
    have hb2 := posL_le (ts.take i)
    have hb3 : (ts.take i).length ≤ 10000 := by simp; omega
    have hb4 := posT_nonneg ts[i]
    have hb5 := posT_le ts[i]
    refine w_start (by dsimp only [setAll, topAll, List.foldl, List.set]) rfl ?_
    refine w_seq (w_region ?_)
    refine w_op (a := .raw (.bool true)) rfl rfl rfl (op_q (q_bool rfl (by simp; omega))) (by dsimp only [aput, List.set]) ?_
    refine w_seq ?_
    refine w_true rfl ?_
    refine w_seq ?_
    refine w_block ?_
    refine w_seq (w_region ?_)
    refine w_op rfl rfl rfl (op_indexAddr rfl rfl rfl rfl rfl ⟨by omega, by omega, cellsL_ne (List.ne_nil_of_length_pos (by omega))⟩) (by dsimp only [aput, List.set]) ?_
    refine w_op rfl rfl rfl (op_q (q_load (a := enc ts[i]) (.iptr ((cellsL ts).drop (i * 8))) rfl rfl (by rw [aLoad, rd_agg (P := Try.prog) (t := 29) (cs := (cellsL ts).drop (i * 8)) rfl rfl (cellsL_at_len (by omega))]; exact congrArg (fun z => some (AV.agg z)) (cellsL_at (by omega))))) (by dsimp only [aput, List.set]) ?_
    have hs := posL_take ts i hi
    have ihx := ih _ (List.getElem_mem hi)
    obtain ⟨xi, hxi⟩ : ∃ xi, ts[i] = xi := ⟨_, rfl⟩
    rw [hxi] at hb4 hb5 hs ihx ⊢
    obtain ⟨ky, sy, mny, mxy, tsy⟩ := xi
    refine w_opm (a := .ptr 1 0) rfl rfl rfl rfl (by dsimp only [aput, List.set]) (by dsimp only [cellsOf_enc, List.append_nil, List.nil_append, List.cons_append, List.set, List.take, List.drop, List.length, List.length_cons, List.length_nil, cellsOf, aval, List.getElem?_cons_zero, List.getElem?_cons_succ, Option.getD]) ?_
    refine w_opm rfl rfl rfl (op_storeW (n := 8) rfl rfl rfl rfl rfl rfl rfl rfl (by decide)) (by dsimp only [aput, List.set]) (by dsimp only [cellsOf_enc, List.append_nil, List.nil_append, List.cons_append, List.set, List.take, List.drop, List.length, List.length_cons, List.length_nil, cellsOf, aval, List.getElem?_cons_zero, List.getElem?_cons_succ, Option.getD]) ?_
    refine w_region (id := 7) ?_
    refine w_op rfl rfl rfl rfl (by dsimp only [aput, List.set, aval, List.getElem?_cons_zero, List.getElem?_cons_succ, Option.getD]) ?_
    refine w_op (a := enc (.mk ky sy mny mxy tsy)) rfl rfl rfl rfl (by dsimp only [aput, List.set]) ?_
    refine w_callk ihx (by simp [cloL, clo, clo_enc]) rfl rfl (by dsimp only [aput, List.set]) ?_
    refine w_op (a := .raw (.int .i64 ((if k = 2 then 1 else 0) + posL (ts.take (i + 1))))) rfl rfl rfl (op_q (q_add rfl rfl rfl (by omega) (by split <;> omega) (by split <;> omega))) (by dsimp only [aput, List.set]) ?_
    refine w_op rfl rfl rfl rfl (by dsimp only [aput, List.set, aval, List.getElem?_cons_zero, List.getElem?_cons_succ, Option.getD]) ?_
    refine w_region (id := 8) ?_
    refine w_op (a := .raw (.int .i64 ((i + 1 : Nat) : Int))) rfl rfl rfl (op_q (q_add rfl rfl rfl (by omega) (by omega) (by omega))) (by dsimp only [aput, List.set]) ?_
    refine w_op rfl rfl rfl rfl (by dsimp only [aput, List.set, aval, List.getElem?_cons_zero, List.getElem?_cons_succ, Option.getD]) ?_
    refine wm_trim [true, true, true, true, true, false, true, true, true, true, true, true, true, true, true, false, false, false, false, false, false, false, false, true, true, true, true, true, true, true, true, true, true, true, true, true, true, true, true, true, true, true, true, true] 1 (by kernel_rfl) (by decide) (by simp [okSt, okTrimL, okTrim, okTrim_cells]) (by simp [okTrimL, okTrim, okTrim_cells, okTrim_cellsL, okTrim_enc, setAll, topAll]) (by kernel_rfl)
  ·
    have hq1 : 0 ≤ ((if k = 2 then 1 else 0) + posL (ts.take ts.length)) := by have := posL_nonneg (ts.take ts.length); split <;> omega
    have hq2 : ((if k = 2 then 1 else 0) + posL (ts.take ts.length)) ≤ 100010001 := by have := posL_le (ts.take ts.length); rw [List.length_take, Nat.min_self] at this; split <;> omega
    refine w_start (by dsimp only [setAll, topAll, List.foldl, List.set]) rfl ?_
    refine w_seq (w_region ?_)
    refine w_op (a := .raw (.bool false)) rfl rfl rfl (op_q (q_bool rfl (by simp))) (by dsimp only [aput, List.set]) ?_
    refine w_seq ?_
    refine w_false rfl ?_
    refine w_seq ?_
    refine w_seq (w_region ?_)
    refine w_op (a := .ptr 0 0) rfl rfl rfl rfl (by dsimp only [aput, List.set]) ?_
    refine w_op rfl rfl rfl rfl (by dsimp only [aput, List.set]) ?_
    refine w_opb rfl rfl rfl rfl (by dsimp only [aput, List.set]) (by dsimp only [aput, List.set]) (fun h2 => ?_) (fun h2 => ?_)
    ·
      refine w_true rfl ?_
      refine w_seq (w_region ?_)
      refine w_op (a := .ptr 0 5) rfl rfl rfl rfl (by dsimp only [aput, List.set]) ?_
      refine w_op rfl rfl rfl rfl (by dsimp only [aput, List.set]) ?_
      refine w_op rfl rfl rfl (op_q (q_max rfl rfl rfl rfl rfl)) (by dsimp only [aput, List.set]) ?_
      refine w_op rfl rfl rfl rfl (by dsimp only [aput, List.set, aval, List.getElem?_cons_zero, List.getElem?_cons_succ, Option.getD]) ?_
      refine w_seq (w_region ?_)
      refine w_op rfl rfl rfl rfl (by dsimp only [aput, List.set, aval, List.getElem?_cons_zero, List.getElem?_cons_succ, Option.getD]) ?_
      refine w_op (a := .ptr 0 6) rfl rfl rfl rfl (by dsimp only [aput, List.set]) ?_
      refine w_op rfl rfl rfl rfl (by dsimp only [aput, List.set]) ?_
      refine w_op rfl rfl rfl (op_q (q_max rfl rfl rfl rfl rfl)) (by dsimp only [aput, List.set]) ?_
      refine w_op rfl rfl rfl rfl (by dsimp only [aput, List.set, aval, List.getElem?_cons_zero, List.getElem?_cons_succ, Option.getD]) ?_
      refine w_seq ?_
      refine w_seq (w_region ?_)
      refine w_op (a := .ptr 0 6) rfl rfl rfl rfl (by dsimp only [aput, List.set]) ?_
      refine w_op rfl rfl rfl rfl (by dsimp only [aput, List.set]) ?_
      refine w_opb rfl rfl rfl rfl (by dsimp only [aput, List.set]) (by dsimp only [aput, List.set]) (fun h3 => ?_) (fun h3 => ?_)
      ·
        refine w_true rfl ?_
        refine w_region (id := 13) ?_
        refine w_op rfl rfl rfl rfl (by dsimp only [aput, List.set, aval, List.getElem?_cons_zero, List.getElem?_cons_succ, Option.getD]) ?_
        refine w_op rfl rfl rfl (op_q (q_max rfl rfl rfl rfl rfl)) (by dsimp only [aput, List.set]) ?_
        refine w_op rfl rfl rfl rfl (by dsimp only [aput, List.set, aval, List.getElem?_cons_zero, List.getElem?_cons_succ, Option.getD]) ?_
        refine w_region (id := 14) ?_
        refine w_op rfl rfl rfl rfl (by dsimp only [aput, List.set, aval, List.getElem?_cons_zero, List.getElem?_cons_succ, Option.getD]) ?_
        refine w_op rfl rfl rfl rfl (by dsimp only [aput, List.set, aval, List.getElem?_cons_zero, List.getElem?_cons_succ, Option.getD]) ?_
        refine w_op rfl rfl rfl (op_q (q_min rfl rfl rfl rfl rfl)) (by dsimp only [aput, List.set]) ?_
        refine w_op (a := .raw (.int .i64 (((if k = 2 then 1 else 0) + posL (ts.take ts.length)) * min (max (max mn 0) 1) 10001))) rfl rfl rfl (op_q (q_mul rfl rfl rfl rfl (by have := Int.mul_nonneg hq1 (show (0 : Int) ≤ min (max (max mn 0) 1) 10001 by omega); omega) (by have := Int.mul_le_mul hq2 (show min (max (max mn 0) 1) 10001 ≤ (10001 : Int) by omega) (by omega) (by omega); omega))) (by dsimp only [aput, List.set]) ?_
        refine w_op rfl rfl rfl rfl (by dsimp only [aput, List.set, aval, List.getElem?_cons_zero, List.getElem?_cons_succ, Option.getD]) ?_
        refine w_seq (w_region ?_)
        refine w_op rfl rfl rfl rfl (by dsimp only [aput, List.set, aval, List.getElem?_cons_zero, List.getElem?_cons_succ, Option.getD]) ?_
        refine w_op rfl rfl rfl (op_q (q_min rfl rfl rfl rfl rfl)) (by dsimp only [aput, List.set]) ?_
        refine w_op rfl rfl rfl rfl (by dsimp only [aput, List.set, aval, List.getElem?_cons_zero, List.getElem?_cons_succ, Option.getD]) ?_
        refine end_pure rfl rfl ?_
        rw [← hres, posT]
        rw [if_pos (show k = 5 from by simp at h2; omega), if_pos (show mx = -1 from by simpa using h3)]; simp only [List.take_length]; rfl
      ·
        refine w_false rfl ?_
        refine w_region (id := 14) ?_
        refine w_op rfl rfl rfl rfl (by dsimp only [aput, List.set, aval, List.getElem?_cons_zero, List.getElem?_cons_succ, Option.getD]) ?_
        refine w_op rfl rfl rfl rfl (by dsimp only [aput, List.set, aval, List.getElem?_cons_zero, List.getElem?_cons_succ, Option.getD]) ?_
        refine w_op rfl rfl rfl (op_q (q_min rfl rfl rfl rfl rfl)) (by dsimp only [aput, List.set]) ?_
        refine w_op (a := .raw (.int .i64 (((if k = 2 then 1 else 0) + posL (ts.take ts.length)) * min (max (max mn 0) mx) 10001))) rfl rfl rfl (op_q (q_mul rfl rfl rfl rfl (by have := Int.mul_nonneg hq1 (show (0 : Int) ≤ min (max (max mn 0) mx) 10001 by omega); omega) (by have := Int.mul_le_mul hq2 (show min (max (max mn 0) mx) 10001 ≤ (10001 : Int) by omega) (by omega) (by omega); omega))) (by dsimp only [aput, List.set]) ?_
        refine w_op rfl rfl rfl rfl (by dsimp only [aput, List.set, aval, List.getElem?_cons_zero, List.getElem?_cons_succ, Option.getD]) ?_
        refine w_seq (w_region ?_)
        refine w_op rfl rfl rfl rfl (by dsimp only [aput, List.set, aval, List.getElem?_cons_zero, List.getElem?_cons_succ, Option.getD]) ?_
        refine w_op rfl rfl rfl (op_q (q_min rfl rfl rfl rfl rfl)) (by dsimp only [aput, List.set]) ?_
        refine w_op rfl rfl rfl rfl (by dsimp only [aput, List.set, aval, List.getElem?_cons_zero, List.getElem?_cons_succ, Option.getD]) ?_
        refine end_pure rfl rfl ?_
        rw [← hres, posT]
        rw [if_pos (show k = 5 from by simp at h2; omega), if_neg (show ¬ mx = -1 from by simpa using h3)]; simp only [List.take_length]; rfl
    ·
      refine w_false rfl ?_
      refine w_seq (w_region ?_)
      refine w_op rfl rfl rfl rfl (by dsimp only [aput, List.set, aval, List.getElem?_cons_zero, List.getElem?_cons_succ, Option.getD]) ?_
      refine w_op rfl rfl rfl (op_q (q_min rfl rfl rfl rfl rfl)) (by dsimp only [aput, List.set]) ?_
      refine w_op rfl rfl rfl rfl (by dsimp only [aput, List.set, aval, List.getElem?_cons_zero, List.getElem?_cons_succ, Option.getD]) ?_
      refine end_pure rfl rfl ?_
      rw [← hres, posT]
      rw [if_neg (show ¬ k = 5 from by simp at h2; omega)]; simp only [List.take_length]; rfl
end Go.Ab
