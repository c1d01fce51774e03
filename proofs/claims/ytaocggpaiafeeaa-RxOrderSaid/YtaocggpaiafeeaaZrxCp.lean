/-
  rx: Clone, copied, EqualFunc, same.
-/
import Derived.Test.YtaocggpaiafeeaaZrxCl
import Derived.Test.YtaocggpaiafeeaaZabAbR
set_option linter.unusedSimpArgs false
set_option linter.unusedVariables false
namespace Go.Ab
open Go Go.RowKit Go.Fwd Go.Proofs

theorem mem_preL {l : List Tr} {x : Tr} (h : x ∈ l) : x ∈ preL l := by
  induction l with
  | nil => simp at h
  | cons a l ih =>
    rw [preL]
    rcases List.mem_cons.1 h with rfl | h
    · rw [pre_eq]; simp
    · exact List.mem_append_right _ (ih h)
theorem mem_l_pre {t x : Tr} (h : x ∈ t.l) : x ∈ pre t := by rw [pre_eq]; exact List.mem_cons_of_mem _ (mem_preL h)
theorem positions_at : ∀ (t : Tr), (pre t).length ≤ 10000 → Pure (ITP Try.prog) Try.prog 39 [enc t] (.raw (.int .i64 (posT t)))
  | .mk k s mn mx ts => fun h => pos_walk k s mn mx ts (by have := pre_l_length (.mk k s mn mx ts); simp only [Tr.l] at this; omega)
      (fun x hx => positions_at x (Nat.le_trans (mem_pre_length (mem_l_pre (t := .mk k s mn mx ts) hx)) h))
theorem cellsL_take8 (l : List Tr) : (cellsL l).take (l.length * 8) = cellsL l := List.take_of_length_le (Nat.le_of_eq (cellsL_length l))

theorem ent15 : Ent Try.prog 15 := enters_of Try.func15 (by kernel_rfl) rfl
set_option maxRecDepth 100000 in
set_option maxHeartbeats 4000000 in
theorem positions_mk (k : Nat) (s : BS) (mn mx : Int) (ts : List Tr) (h : (pre (.mk k s mn mx ts)).length < 2 ^ 62) : Pure (ITP Try.prog) Try.prog 15 [enc (.mk k s mn mx ts)] (.raw (.int .i64 (positionsT (.mk k s mn mx ts)))) := by
  have hlight := light_at (.mk k s mn mx ts) h
  obtain ⟨d, hd⟩ : ∃ d, Try.f15.body = some d := ⟨_, rfl⟩
  refine pure_of mix Try.func15 hd ent15 ?_
  cases hd
  generalize hres : AV.raw (.int .i64 (positionsT (.mk k s mn mx ts))) = res
  refine w_start (by dsimp only [abeginS, Try.f15, List.length_cons, List.length_nil, Nat.zero_add, Nat.reduceAdd, Nat.reduceSub, List.replicate, List.cons_append, List.nil_append]) (by dsimp only [St.empty]) ?_
  refine w_seq (w_region ?_)
  refine w_opm (a := .ptr 0 0) rfl rfl rfl rfl (by dsimp only [aput, List.set]) (by dsimp only [cellsOf_enc, List.append_nil, List.nil_append, List.cons_append, List.set, List.take, List.drop, List.length, List.length_cons, List.length_nil, cellsOf, aval, List.getElem?_cons_zero, List.getElem?_cons_succ, Option.getD]) ?_
  refine w_op (a := .raw (.int .i64 0)) rfl rfl rfl rfl (by dsimp only [aput, List.set, aval, List.getElem?_cons_zero, List.getElem?_cons_succ, Option.getD]) ?_
  refine w_seq ?_
  refine w_seq (w_region ?_)
  refine w_op (a := enc (.mk k s mn mx ts)) rfl rfl rfl rfl (by dsimp only [aput, List.set]) ?_
  refine w_callkb hlight (by simp [cloL, clo, clo_enc]) rfl rfl (by dsimp only [aput, List.set]) (by dsimp only [aput, List.set]) (fun h1 => ?_) (fun h1 => ?_)
  ·
    refine w_op (a := .raw (.bool false)) rfl rfl rfl rfl (by dsimp only [aput, List.set]) ?_
    refine w_false rfl ?_
    refine w_seq (w_region ?_)
    refine w_op (a := enc (.mk k s mn mx ts)) rfl rfl rfl rfl (by dsimp only [aput, List.set]) ?_
    refine w_callk (positions_at (.mk k s mn mx ts) (by simpa [lightT] using h1)) (by simp [cloL, clo, clo_enc]) rfl rfl (by dsimp only [aput, List.set]) ?_
    refine w_op rfl rfl rfl rfl (by dsimp only [aput, List.set, aval, List.getElem?_cons_zero, List.getElem?_cons_succ, Option.getD]) ?_
    refine end_pure rfl rfl ?_
    rw [← hres, positionsT, if_pos h1]; rfl
  ·
    refine w_op (a := .raw (.bool true)) rfl rfl rfl rfl (by dsimp only [aput, List.set]) ?_
    refine w_true rfl ?_
    refine w_seq (w_region ?_)
    refine w_op (a := .raw (.int .i64 10001)) rfl rfl rfl rfl (by dsimp only [aput, List.set, aval, List.getElem?_cons_zero, List.getElem?_cons_succ, Option.getD]) ?_
    refine end_pure (a := .raw (.int .i64 10001)) rfl rfl ?_
    rw [← hres, show positionsT (.mk k s mn mx ts) = 10001 from by rw [positionsT, h1]; rfl]; rfl
theorem ent48 : Ent Try.prog 48 := enters_of Try.func48 (by kernel_rfl) rfl
set_option maxRecDepth 100000 in
set_option maxHeartbeats 4000000 in
theorem clone_nil0 (st : Room) : Snd (ITP Try.prog) Try.prog 48 [.list 0 [] st] St.empty (.list 0 [] .full) ⟨[], [], [], 0, false⟩ := by
  obtain ⟨d, hd⟩ : ∃ d, Try.f48.body = some d := ⟨_, rfl⟩
  refine snd_of mix Try.func48 hd ent48 ?_
  cases hd

  refine w_start (by dsimp only [abeginS, Try.f48, List.length_cons, List.length_nil, Nat.zero_add, Nat.reduceAdd, Nat.reduceSub, List.replicate, List.cons_append, List.nil_append]) (by dsimp only [St.empty]) ?_
  refine w_seq (w_region ?_)
  refine w_op (a := .list 0 [] .full) rfl rfl rfl rfl (by dsimp only [aput, List.set, aval, List.getElem?_cons_zero, List.getElem?_cons_succ, Option.getD]) ?_
  refine w_seq ?_
  refine w_seq (w_region ?_)
  refine w_op rfl rfl rfl rfl (by dsimp only [aput, List.set, aval, List.getElem?_cons_zero, List.getElem?_cons_succ, Option.getD]) ?_
  refine w_nil 0 false rfl rfl rfl ⟨_, _, _, _, _, rfl, .inl ⟨rfl, rfl⟩, rfl, .inl ⟨_, _, rfl⟩⟩ (by dsimp only [aput, List.set]) (by dsimp only [aput, List.set]) (fun h1 => ?_) ?_
  ·
    refine w_true rfl ?_
    refine w_seq (w_region ?_)
    refine w_op (a := .list 0 [] .full) rfl rfl rfl rfl (by dsimp only [aput, List.set, aval, List.getElem?_cons_zero, List.getElem?_cons_succ, Option.getD]) ?_
    refine end_keep (n := 0) (m := 0) [] [] 0 rfl rfl ?_ ?_
    · rfl
    · rfl
  ·
    refine w_false rfl ?_
    refine w_seq (w_region ?_)
    refine w_op rfl rfl rfl rfl (by dsimp only [aput, List.set]) ?_
    refine w_op rfl rfl rfl rfl (by dsimp only [aput, List.set, aval, List.getElem?_cons_zero, List.getElem?_cons_succ, Option.getD]) ?_
    refine w_op (a := .list 0 [] .full) rfl rfl rfl rfl (by dsimp only [aput, List.set]) ?_
    refine w_op rfl rfl rfl rfl (by dsimp only [aput, List.set, aval, List.getElem?_cons_zero, List.getElem?_cons_succ, Option.getD]) ?_
    refine end_keep (n := 0) (m := 0) [] [] 0 rfl rfl ?_ ?_
    · rfl
    · rfl
set_option maxRecDepth 100000 in
set_option maxHeartbeats 4000000 in
theorem clone_cons0 (l : List Tr) (hl : l ≠ []) (hn : l.length ≤ 10000) (st : Room) : Snd (ITP Try.prog) Try.prog 48 [.list l.length (cellsL l) st] St.empty (.bsl 0 0 l.length 8 false) ⟨[(29, cellsL l)], [], [], 0, false⟩ := by
  obtain ⟨d, hd⟩ : ∃ d, Try.f48.body = some d := ⟨_, rfl⟩
  refine snd_of mix Try.func48 hd ent48 ?_
  cases hd

  refine w_start (by dsimp only [abeginS, Try.f48, List.length_cons, List.length_nil, Nat.zero_add, Nat.reduceAdd, Nat.reduceSub, List.replicate, List.cons_append, List.nil_append]) (by dsimp only [St.empty]) ?_
  refine w_seq (w_region ?_)
  refine w_op (a := .list 0 [] .full) rfl rfl rfl rfl (by dsimp only [aput, List.set, aval, List.getElem?_cons_zero, List.getElem?_cons_succ, Option.getD]) ?_
  refine w_seq ?_
  refine w_seq (w_region ?_)
  refine w_op rfl rfl rfl rfl (by dsimp only [aput, List.set, aval, List.getElem?_cons_zero, List.getElem?_cons_succ, Option.getD]) ?_
  refine w_nil l.length false rfl rfl rfl ⟨_, _, _, _, _, rfl, .inl ⟨rfl, rfl⟩, rfl, .inl ⟨_, _, rfl⟩⟩ (by dsimp only [aput, List.set]) (by dsimp only [aput, List.set]) (fun h1 => ?_) ?_
  ·
    refine w_true rfl ?_
    refine w_seq (w_region ?_)
    refine w_op (a := .list 0 [] .full) rfl rfl rfl rfl (by dsimp only [aput, List.set, aval, List.getElem?_cons_zero, List.getElem?_cons_succ, Option.getD]) ?_
    exact absurd h1 (by have := List.length_pos_iff.2 hl; omega)
  ·
    refine w_false rfl ?_
    refine w_seq (w_region ?_)
    refine w_op rfl rfl rfl rfl (by dsimp only [aput, List.set]) ?_
    refine w_op rfl rfl rfl rfl (by dsimp only [aput, List.set, aval, List.getElem?_cons_zero, List.getElem?_cons_succ, Option.getD]) ?_
    refine w_opB rfl rfl rfl (opB_list rfl rfl rfl rfl rfl rfl rfl rfl rfl (aSrc_list ⟨rfl, cellsL_length l, by decide⟩) ⟨by decide, rfl, List.length_pos_iff.2 hl⟩ ⟨rfl, by unfold maxLen; omega, by show (0 + l.length) * 80 ≤ _; omega⟩) (by dsimp only [aput, List.set]) (by dsimp only [cellsOf_enc, List.append_nil, St.empty, Nat.zero_add, List.nil_append, List.cons_append, List.set, List.take, List.drop, List.length, List.length_cons, List.length_nil, cellsOf, aval, List.getElem?_cons_zero, List.getElem?_cons_succ, Option.getD]) ?_
    refine w_op rfl rfl rfl rfl (by dsimp only [aput, List.set, aval, List.getElem?_cons_zero, List.getElem?_cons_succ, Option.getD]) ?_
    refine end_keep (n := 0) (m := 0) [] [0] 0 rfl rfl ?_ ?_
    · show AV.bsl 0 0 (0 + l.length) 8 false = _; rw [Nat.zero_add]
    · simp [keepSt, keepBoxes, mapKL_clo _ _ _ (clo_cellsL l)]
theorem clone_nil (σ : St) (st : Room) : Snd (ITP Try.prog) Try.prog 48 [.list 0 [] st] σ (.list 0 [] .full) σ := by
  have h := snd_lift (itp_mono _) (clone_nil0 .none) (args := [.list 0 [] st]) rfl rfl σ
  simpa [mapK, mapKL, roomK, shBoxes] using h
theorem clone_cons (l : List Tr) (hl : l ≠ []) (hn : l.length ≤ 10000) (n : Nat) (σ : St) (st : Room) (hσ : σ.boxes.length = n) : Snd (ITP Try.prog) Try.prog 48 [.list l.length (cellsL l) st] σ (.bsl n 0 l.length 8 false) { σ with boxes := σ.boxes ++ [(29, cellsL l)] } := by
  subst hσ
  have h := snd_lift (itp_mono _) (clone_cons0 l hl hn .none) (args := [.list l.length (cellsL l) st]) (by simp [stripL, strip, strip_cellsL]) (by simp [okTrimL, okTrim, okTrim_cellsL]) σ
  simpa [mapK, shz, shBoxes, mapKL_clo _ _ _ (clo_cellsL l)] using h
theorem cellsL_put (l : List Tr) (i : Nat) (hi : i < l.length) : (cellsL l).take (i * 8) ++ cells l[i] ++ (cellsL l).drop (i * 8 + 8) = cellsL l := by
  rw [← cellsL_at hi, ← List.drop_drop, List.append_assoc, List.take_append_drop, List.take_append_drop]
theorem cellsL_get (l : List Tr) (i : Nat) (hi : i < l.length) : rd Try.prog 29 ((cellsL l).drop (i * 8)) = some (enc l[i]) := by
  rw [rd_agg (P := Try.prog) (t := 29) (cs := (cellsL l).drop (i * 8)) rfl rfl (cellsL_at_len hi)]
  exact congrArg (fun z => some (AV.agg z)) (cellsL_at hi)
theorem cellsL_len8 (l : List Tr) (i : Nat) (hi : i < l.length) : i * 8 + 8 ≤ (cellsL l).length := by rw [cellsL_length]; omega
theorem ent41 : Ent Try.prog 41 := enters_of Try.func41 (by kernel_rfl) rfl
set_option maxRecDepth 100000 in
set_option maxHeartbeats 4000000 in
theorem copied_cons (k : Nat) (s : BS) (mn mx : Int) (ts : List Tr) (hl : ts ≠ []) (hn : ts.length ≤ 10000) (ih : ∀ x ∈ ts, Pure (ITP Try.prog) Try.prog 41 [enc x] (enc x)) : Pure (ITP Try.prog) Try.prog 41 [enc (.mk k s mn mx ts)] (enc (.mk k s mn mx ts)) := by
  obtain ⟨d, hd⟩ : ∃ d, Try.f41.body = some d := ⟨_, rfl⟩
  refine pure_of mix Try.func41 hd ent41 ?_
  cases hd
  obtain ⟨res, hres⟩ : ∃ res, enc (.mk k s mn mx ts) = res := ⟨_, rfl⟩
  show awp _ _ _ _ (aendP _ _ (enc (.mk k s mn mx ts))) _ _
  rw [show aendP Try.prog Try.f41 (enc (.mk k s mn mx ts)) = aendP Try.prog Try.f41 res from by rw [hres]]
  refine w_start (by dsimp only [abeginS, Try.f41, List.length_cons, List.length_nil, Nat.zero_add, Nat.reduceAdd, Nat.reduceSub, List.replicate, List.cons_append, List.nil_append]) (by dsimp only [St.empty]) ?_
  refine w_seq (w_region ?_)
  refine w_opm (a := .ptr 0 0) rfl rfl rfl rfl (by dsimp only [aput, List.set]) (by dsimp only [cellsOf_enc, List.append_nil, cells, List.nil_append, List.cons_append, List.set, List.take, List.drop, List.length, List.length_cons, List.length_nil, cellsOf, aval, List.getElem?_cons_zero, List.getElem?_cons_succ, Option.getD]) ?_
  refine w_opm (a := .ptr 1 0) rfl rfl rfl rfl (by dsimp only [aput, List.set]) (by dsimp only [cellsOf_enc, List.append_nil, cells, List.nil_append, List.cons_append, List.set, List.take, List.drop, List.length, List.length_cons, List.length_nil, cellsOf, aval, List.getElem?_cons_zero, List.getElem?_cons_succ, Option.getD]) ?_
  refine w_seq (w_region ?_)
  refine w_op (a := .ptr 0 7) rfl rfl rfl rfl (by dsimp only [aput, List.set]) ?_
  refine w_op (a := .list ts.length (cellsL ts) .none) rfl rfl rfl rfl (by dsimp only [aput, List.set]) ?_
  refine w_snd (clone_cons ts hl hn 2 _ .none rfl) rfl rfl ⟨rfl, rfl⟩ (by dsimp only [aput, List.set]) ?_
  refine w_op (a := .ptr 0 7) rfl rfl rfl rfl (by dsimp only [aput, List.set]) ?_
  refine w_opm rfl rfl rfl (op_store (n := 1) rfl rfl rfl rfl rfl ⟨rfl, rfl, Nat.le_of_ble_eq_true rfl, by decide⟩) (by dsimp only [aput, List.set]) (by dsimp only [cellsOf_enc, List.append_nil, cells, List.nil_append, List.cons_append, List.set, List.take, List.drop, List.length, List.length_cons, List.length_nil, cellsOf, aval, List.getElem?_cons_zero, List.getElem?_cons_succ, Option.getD]) ?_
  refine w_seq ?_
  refine w_seq (w_region ?_)
  refine w_op (a := .ptr 0 7) rfl rfl rfl rfl (by dsimp only [aput, List.set]) ?_
  refine w_op (a := .bsl 2 0 ts.length 8 false) rfl rfl rfl rfl (by dsimp only [aput, List.set]) ?_
  refine w_op rfl rfl rfl rfl (by dsimp only [aput, List.set]) ?_
  refine w_op (a := .raw (.int .i64 0)) rfl rfl rfl rfl (by dsimp only [aput, List.set, aval, List.getElem?_cons_zero, List.getElem?_cons_succ, Option.getD]) ?_
  refine w_block ?_
  refine w_loopP (ts.length) 3 (fun i => True) [3, 4, 12, 13, 14, 15, 16, 17, 18, 19, 20, 21, 22, 23] (fun i => [(12, .raw (.int .i64 (i : Nat)))]) (fun i => ⟨[(29, [.raw (.int .u8 k), .raw (.int .u64 (wd s 0)), .raw (.int .u64 (wd s 1)), .raw (.int .u64 (wd s 2)), .raw (.int .u64 (wd s 3)), .raw (.int .i64 mn), .raw (.int .i64 mx), .bsl 2 0 ts.length 8 false]), (29, [.raw (.int .u8 0), .raw (.int .u64 0), .raw (.int .u64 0), .raw (.int .u64 0), .raw (.int .u64 0), .raw (.int .i64 0), .raw (.int .i64 0), .list 0 [] .full]), (29, cellsL ts)], [], [], 0, false⟩) rfl trivial ?_ ?_
  · exact wm_of [true, true, true, false, false, true, true, true, true, true, true, true, true, false, false, false, false, false, false, false, false, false, false, false, true] (by kernel_rfl) (by kernel_rfl)
  · intro i hi hI
    refine w_start (by dsimp only [setAll, topAll, List.foldl, List.set]) rfl ?_
    refine w_seq (w_region ?_)
    refine w_opb rfl rfl rfl rfl (by dsimp only [aput, List.set]) (by dsimp only [aput, List.set]) (fun h1 => ?_) (fun h1 => ?_)
    ·
      refine w_seq ?_
      refine w_true rfl ?_
      refine w_seq ?_
      refine w_block ?_
      refine w_seq (w_region ?_)
      refine w_op rfl rfl rfl rfl (by dsimp only [aput, List.set, aval, List.getElem?_cons_zero, List.getElem?_cons_succ, Option.getD]) ?_
      refine w_op rfl rfl rfl (op_indexB rfl rfl rfl rfl rfl ⟨by omega, by simp at h1; omega⟩) (by dsimp only [aput, List.set]) ?_
      have hit : i < ts.length := by simp at h1; omega
      obtain ⟨x, hx⟩ : ∃ x, ts[i] = x := ⟨_, rfl⟩
      have ihx := ih _ (List.getElem_mem hit)
      have hget := cellsL_get ts i hit
      have hput := cellsL_put ts i hit
      rw [hx] at ihx hget hput
      obtain ⟨ky, sy, mny, mxy, tsy⟩ := x
      refine w_op rfl rfl rfl (op_load (a := enc (.mk ky sy mny mxy tsy)) (.ptr 2 (0 + i * 8)) rfl rfl (by rw [aLoad]; simp only [Nat.zero_add]; exact hget)) (by dsimp only [aput, List.set]) ?_
      refine w_opm (a := .ptr 3 0) rfl rfl rfl rfl (by dsimp only [aput, List.set]) (by dsimp only [cellsOf_enc, List.append_nil, cells, List.nil_append, List.cons_append, List.set, List.take, List.drop, List.length, List.length_cons, List.length_nil, cellsOf, aval, List.getElem?_cons_zero, List.getElem?_cons_succ, Option.getD]) ?_
      refine w_op rfl rfl rfl rfl (by dsimp only [aput, List.set, aval, List.getElem?_cons_zero, List.getElem?_cons_succ, Option.getD]) ?_
      refine w_opm rfl rfl rfl (op_storeW (n := 8) rfl rfl rfl rfl rfl rfl rfl rfl (by decide)) (by dsimp only [aput, List.set]) (by dsimp only [cellsOf_enc, List.append_nil, cells, List.nil_append, List.cons_append, List.set, List.take, List.drop, List.length, List.length_cons, List.length_nil, cellsOf, aval, List.getElem?_cons_zero, List.getElem?_cons_succ, Option.getD]) ?_
      refine w_draw (id := 5) 6 (by kernel_rfl) (by kernel_rfl) ?_
      refine h_op (a := .ptr 0 7) rfl rfl rfl rfl (by dsimp only [aput, List.set]) ?_
      refine h_op (a := .bsl 2 0 ts.length 8 false) rfl rfl rfl rfl (by dsimp only [aput, List.set]) ?_
      refine h_op rfl rfl rfl rfl (by dsimp only [aput, List.set, aval, List.getElem?_cons_zero, List.getElem?_cons_succ, Option.getD]) ?_
      refine h_op (a := enc (.mk ky sy mny mxy tsy)) rfl rfl rfl rfl (by dsimp only [aput, List.set]) ?_
      refine h_callk ihx (by simp [cloL, clo, clo_enc]) rfl rfl rfl (by dsimp only [aput, List.set]) ?_
      refine h_op (a := .ptr 2 (0 + i * 8)) rfl rfl rfl (q_indexB (n := (i : Nat)) rfl rfl rfl rfl rfl ⟨by omega, by omega⟩) (by dsimp only [aput, List.set]) ?_
      refine h_end ?_
      refine w_opm rfl rfl rfl (op_store (n := 8) (v := enc (.mk ky sy mny mxy tsy)) rfl rfl rfl rfl rfl ⟨rfl, rfl, by show 0 + i * 8 + 8 ≤ _; rw [Nat.zero_add]; exact cellsL_len8 ts i hit, by decide⟩) (by dsimp only [aput, List.set]) (show _ = (⟨[(29, [.raw (.int .u8 k), .raw (.int .u64 (wd s 0)), .raw (.int .u64 (wd s 1)), .raw (.int .u64 (wd s 2)), .raw (.int .u64 (wd s 3)), .raw (.int .i64 mn), .raw (.int .i64 mx), .bsl 2 0 ts.length 8 false]), (29, [.raw (.int .u8 0), .raw (.int .u64 0), .raw (.int .u64 0), .raw (.int .u64 0), .raw (.int .u64 0), .raw (.int .i64 0), .raw (.int .i64 0), .list 0 [] .full]), (29, cellsL ts), (29, cells (.mk ky sy mny mxy tsy))], [], [], 0, false⟩ : St) from by simp only [List.set, cellsOf_enc, Nat.zero_add, List.getElem?_cons_zero, List.getElem?_cons_succ, hput]; rfl) ?_
      refine w_region (id := 6) ?_
      refine w_op rfl rfl rfl (op_q (q_add rfl rfl rfl rfl (by omega) (by omega))) (by dsimp only [aput, List.set]) ?_
      refine w_op rfl rfl rfl rfl (by dsimp only [aput, List.set, aval, List.getElem?_cons_zero, List.getElem?_cons_succ, Option.getD]) ?_
      refine ⟨by omega, trivial, ?_⟩
      refine wm_trim [true, true, true, false, false, true, true, true, true, true, true, true, true, false, false, false, false, false, false, false, false, false, false, false, true] 3 (by kernel_rfl) (by decide) (by simp [okSt, okTrimL, okTrim, okTrim_cells, okTrim_cellsL]) (by simp [okTrimL, okTrim, okTrim_cells, okTrim_cellsL, okTrim_enc, setAll, topAll]) (by kernel_rfl)
    ·
      refine w_seq ?_
      refine w_false rfl ?_
      refine w_seq (w_region ?_)
      refine w_op rfl rfl rfl rfl (by dsimp only [aput, List.set]) ?_
      refine w_opm rfl rfl rfl (op_storeW (n := 8) rfl rfl rfl rfl rfl rfl rfl rfl (by decide)) (by dsimp only [aput, List.set]) (by dsimp only [cellsOf_enc, List.append_nil, cells, List.nil_append, List.cons_append, List.set, List.take, List.drop, List.length, List.length_cons, List.length_nil, cellsOf, aval, List.getElem?_cons_zero, List.getElem?_cons_succ, Option.getD]) ?_
      refine end_frz 1 rfl ?_
      rw [← hres]
      show AV.agg (mapPtrL _ [_, _, _, _, _, _, _, _]) = _
      simp only [mapPtrL, mapPtr, frz, List.getElem?_cons_zero, List.getElem?_cons_succ, Option.map_some, Option.getD_some, List.drop_zero, mapPtrL_clo _ _ (clo_cellsL ts), cellsL_take8]; rfl
end Go.Ab
