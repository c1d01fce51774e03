/-
  the law: Made.
-/
import Derived.Test.YtaocggpaiafeeaaZrxMa
set_option linter.unusedSimpArgs false
set_option linter.unusedVariables false
namespace Go.Ab
open Go Go.RowKit Go.Fwd Go.Proofs

theorem q_lenPile {ρ : Operand → AV} {σ : St} {o : Oper} {c : Call} {x : Operand} {n : Nat} (ho : o.op = .call c) (hc : c.callee = .builtin .len) (ha : c.args.toList = [x]) (ht : c.argTypes.toList = [27]) (hx : ρ x = pileAV n) : qop Try.prog ρ σ o = some (.raw (.int .i64 n)) := by
  have hu : Try.prog.underlying 27 = some (.slice 29) := rfl
  unfold pileAV at hx
  split at hx
  · rename_i h; subst h; simp [qop, ho, hc, ha, ht, hx, aLen, hu]
  · simp [qop, ho, hc, ha, ht, hx, aLen, hu]
def restAV (n : Nat) : AV := if n = 1 then .list 0 [] .none else .bsl 1 8 (n - 1) 8 false
theorem q_lenRest {ρ : Operand → AV} {σ : St} {o : Oper} {c : Call} {x : Operand} {n : Nat} (ho : o.op = .call c) (hc : c.callee = .builtin .len) (ha : c.args.toList = [x]) (ht : c.argTypes.toList = [27]) (hx : ρ x = restAV n) (hn : 1 ≤ n) : qop Try.prog ρ σ o = some (.raw (.int .i64 ((n - 1 : Nat) : Int))) := by
  have hu : Try.prog.underlying 27 = some (.slice 29) := rfl
  unfold restAV at hx
  split at hx
  · rename_i h; subst h; simp [qop, ho, hc, ha, ht, hx, aLen, hu]
  · simp [qop, ho, hc, ha, ht, hx, aLen, hu]
theorem MM_ge (l : List Sm) (i : Nat) (h : l.length ≤ i) : MM l i = MM l l.length := by rw [MM, MM, List.take_of_length_le h, List.take_length]
theorem okTrim_pile (k n : Nat) : okTrim (k + 2) (pileAV n) = true := by unfold pileAV; split <;> simp [okTrim, okTrimL]
theorem okTrim_rest (k n : Nat) : okTrim (k + 2) (restAV n) = true := by unfold restAV; split <;> simp [okTrim, okTrimL]
theorem okTrim_smcL (n : Nat) (l : List Sm) : okTrimL n (smcL l) = true := okTrimL_clo n _ (clo_smcL l)
def accM (p : List Tr) (i : Nat) : Tr := match p with
  | [] => emptyT
  | x :: r => (r.take i).foldl (joinsT 4) x
theorem accM_succ {p : List Tr} {i : Nat} (h : i + 1 < p.length) : accM p (i + 1) = joinsT 4 (accM p i) p[i + 1] := by
  cases p with
  | nil => simp at h
  | cons x r =>
    have hi : i < r.length := by simpa using h
    simp only [accM, List.take_succ_eq_append_getElem hi, List.foldl_append, List.foldl_cons, List.foldl_nil, List.getElem_cons_succ]
theorem accM_le {p : List Tr} (hp : p ≠ []) : ∀ i, i < p.length → (pre (accM p i)).length ≤ (preL (p.take (i + 1))).length + i
  | 0, _ => by
    cases p with
    | nil => exact absurd rfl hp
    | cons x r => simp [accM, preL]
  | i + 1, h => by
    rw [accM_succ h]
    have h1 := flatJ_pre2 4 (accM p i) p[i + 1]
    have h2 := accM_le hp i (by omega)
    rw [List.take_succ_eq_append_getElem h, preL_append, List.length_append]
    simp only [preL, List.append_nil]; omega
theorem preL_take_le (p : List Tr) (i : Nat) : (preL (p.take i)).length ≤ (preL p).length := by
  conv => rhs; rw [← List.take_append_drop i p]
  rw [preL_append, List.length_append]; omega
theorem accM_end {p : List Tr} (hp : p ≠ []) : accM p (p.length - 1) = endM p := by
  cases p with
  | nil => exact absurd rfl hp
  | cons x r => simp [accM, endM]
theorem rd_kind {cs : List AV} {t : Tr} (h : rd Try.prog 29 cs = some (enc t)) : rd Try.prog 5 cs = some (.raw (.int .u8 t.k)) := by
  obtain ⟨i, hi, hs⟩ : ∃ i, Try.prog.info? 29 = some i ∧ i.size = 8 := ⟨_, rfl, rfl⟩
  obtain ⟨fs, hu⟩ : ∃ fs, Try.prog.underlying 29 = some (.struct fs) := ⟨_, rfl⟩
  unfold rd at h
  rw [hu, hi] at h
  simp only [hs] at h
  split at h
  rotate_left
  · cases h
  rename_i hl
  have hc : cs.take 8 = cells t := by
    have := Option.some.inj h
    rw [enc] at this; injection this
  have hu5 : Try.prog.underlying 5 = some (.int .u8) := rfl
  obtain ⟨i5, hi5⟩ : ∃ i, Try.prog.info? 5 = some i := ⟨_, rfl⟩
  unfold rd
  rw [hu5, hi5]
  rw [cells_eq] at hc
  cases cs with
  | nil => simp at hl
  | cons c cs => rw [List.take_succ_cons] at hc; injection hc with h1 h2; simp [h1]
theorem ent9 : Ent Try.prog 9 := enters_of Try.func9 (by kernel_rfl) rfl
set_option maxRecDepth 100000 in
set_option maxHeartbeats 4000000 in
theorem made_pure (l : List Sm) (hl : l.length < 2 ^ 63) : Pure (ITP Try.prog) Try.prog 9 [.list l.length (smcL l) .none] (enc (madeT l)) := by
  obtain ⟨L, hL⟩ : ∃ L, l.take 25 = L := ⟨_, rfl⟩
  have hLl : L.length = min l.length 25 := by rw [← hL, List.length_take]; omega
  have hL25 : L.length ≤ 25 := by omega
  have hLs : (smcL l).take (min l.length 25 * 3) = smcL L := by
    rw [smcL_take, ← hL]; congr 1
    rcases Nat.lt_or_ge l.length 25 with h | h
    · rw [Nat.min_eq_left (by omega), List.take_length, List.take_of_length_le (by omega)]
    · rw [Nat.min_eq_right h]
  have hmade : madeT l = endM (MM L 25).1 := by rw [madeT, hL]
  obtain ⟨d, hd⟩ : ∃ d, Try.f9.body = some d := ⟨_, rfl⟩
  refine pure_of mix Try.func9 hd ent9 ?_
  cases hd
  obtain ⟨res, hres⟩ : ∃ res, enc (madeT l) = res := ⟨_, rfl⟩
  show awp _ _ _ _ (aendP _ _ (enc (madeT l))) _ _
  rw [show aendP Try.prog Try.f9 (enc (madeT l)) = aendP Try.prog Try.f9 res from by rw [hres]]
  refine w_start (by dsimp only [abeginS, Try.f9, List.length_cons, List.length_nil, Nat.zero_add, Nat.reduceAdd, Nat.reduceSub, List.replicate, List.cons_append, List.nil_append]) (by dsimp only [St.empty]) ?_
  refine w_seq (w_region ?_)
  refine w_opm (a := .ptr 0 0) rfl rfl rfl rfl (by dsimp only [aput, List.set]) (by dsimp only [cellsOf_enc, List.append_nil, List.nil_append, List.cons_append, List.set, List.take, List.drop, List.length, List.length_cons, List.length_nil, cellsOf, aval, List.getElem?_cons_zero, List.getElem?_cons_succ, Option.getD]) ?_
  refine w_seq (w_region ?_)
  refine w_op (a := .list 0 [] .full) rfl rfl rfl rfl (by dsimp only [aput, List.set, aval, List.getElem?_cons_zero, List.getElem?_cons_succ, Option.getD]) ?_
  refine w_seq (w_region ?_)
  refine w_op (a := .raw (.int .i64 1)) rfl rfl rfl rfl (by dsimp only [aput, List.set, aval, List.getElem?_cons_zero, List.getElem?_cons_succ, Option.getD]) ?_
  refine w_op (a := .raw (.int .i64 0)) rfl rfl rfl rfl (by dsimp only [aput, List.set, aval, List.getElem?_cons_zero, List.getElem?_cons_succ, Option.getD]) ?_
  refine w_seq ?_
  refine w_seq (w_region ?_)
  refine w_op (a := .list l.length (smcL l) .none) rfl rfl rfl rfl (by dsimp only [aput, List.set]) ?_
  refine w_op (a := .list l.length (smcL l) .none) rfl rfl rfl rfl (by dsimp only [aput, List.set]) ?_
  refine w_op (a := .raw (.int .i64 l.length)) rfl rfl rfl rfl (by dsimp only [aput, List.set]) ?_
  refine w_op (a := .raw (.int .i64 ((min l.length 25 : Nat) : Int))) rfl rfl rfl (op_q ((q_min (m := (l.length : Int)) (n := 25) rfl rfl rfl rfl rfl).trans (by rw [show min (l.length : Int) 25 = ((min l.length 25 : Nat) : Int) from by omega]))) (by dsimp only [aput, List.set]) ?_
  refine w_op (a := .list L.length (smcL L) .none) rfl rfl rfl (op_q ((q_sliceTo (N := min l.length 25) rfl rfl rfl rfl rfl (by omega) (smcL_length l)).trans (by rw [hLl, hLs]))) (by dsimp only [aput, List.set]) ?_
  refine w_op (a := .raw (.int .i64 L.length)) rfl rfl rfl rfl (by dsimp only [aput, List.set]) ?_
  refine w_op (a := .raw (.int .i64 0)) rfl rfl rfl rfl (by dsimp only [aput, List.set, aval, List.getElem?_cons_zero, List.getElem?_cons_succ, Option.getD]) ?_
  refine w_block ?_
  refine w_loopP (L.length) 1 (fun i => True) [3, 4, 5, 7, 8, 9, 10, 11, 12, 22, 23, 24, 25, 26, 27, 28, 29, 30, 31, 32, 33, 34, 35, 36, 37, 38, 39, 40, 41, 42, 43, 44, 45, 46, 47, 48, 49, 50, 51, 52, 53, 54, 55, 56, 57, 58, 59, 60, 61, 62, 63, 64, 65, 66, 67, 68, 69, 70, 71, 72, 73, 74, 75, 76, 77, 78, 79, 80, 81, 82, 83, 84, 85, 86, 87, 88, 89, 90, 91, 92, 93, 94, 95, 96, 97, 98, 99, 100, 101, 102, 103, 104, 105, 106, 107, 108, 109, 110, 111, 112, 113, 114, 115, 116, 117, 118, 119, 120, 121, 122, 123, 124, 125, 126, 127, 128, 129, 130, 131, 132, 133, 134, 135, 136, 137, 138, 139, 140, 141, 142, 143, 144, 145, 146, 147, 148, 149, 150, 151, 152, 153, 154, 155, 156, 157, 158, 159, 160, 161, 162, 163, 164, 165, 166, 167, 168, 169, 170, 171, 172, 173, 174, 175, 176, 177, 178, 179, 180, 181, 182, 183, 184] (fun i => [(3, pileAV (MM L i).1.length), (4, .raw (.int .i64 (MM L i).2.1)), (5, .raw (.int .i64 (MM L i).2.2)), (22, .raw (.int .i64 (i : Nat)))]) (fun i => ⟨[(29, [.raw (.int .u8 0), .raw (.int .u64 0), .raw (.int .u64 0), .raw (.int .u64 0), .raw (.int .u64 0), .raw (.int .i64 0), .raw (.int .i64 0), .list 0 [] .full]), (29, cellsL (MM L i).1)], [], [], 0, false⟩) rfl trivial ?_ ?_
  · exact wm_dummy [true, true, true, true, true, true, true, false, false, false, false, false, false, true, true, true, true, true, true, true, true, true, true, false, false, false, false, false, false, false, false, false, false, false, false, false, false, false, false, false, false, false, false, false, false, false, false, false, false, false, false, false, false, false, false, false, false, false, false, false, false, false, false, false, false, false, false, false, false, false, false, false, false, false, false, false, false, false, false, false, false, false, false, false, false, false, false, false, false, false, false, false, false, false, false, false, false, false, false, false, false, false, false, false, false, false, false, false, false, false, false, false, false, false, false, false, false, false, false, false, false, false, false, false, false, false, false, false, false, false, false, false, false, false, false, false, false, false, false, false, false, false, false, false, false, false, false, false, false, false, false, false, false, false, false, false, false, false, false, false, false, false, false, false, false, false, false, false, false, false, false, false, false, false, false, false, false, false, false, false, false, false, false, false, false, true, true, true, true, true, true, true, true, true, true, true, true, true, true, true, true, true, true, true] 0 rfl (by kernel_rfl) (by kernel_rfl)
  · intro i hi hI
    try dsimp only
    have hiL := invM L i hi
    obtain ⟨st, hst⟩ : ∃ st, MM L i = st := ⟨_, rfl⟩
    rw [hst] at hiL ⊢
    obtain ⟨p, u, g⟩ := st
    dsimp only at hiL ⊢
    obtain ⟨hq1, hq2, hq3, hq4, hq5⟩ := hiL
    have hpl := length_le_preL p
    refine w_start (by dsimp only [setAll, topAll, List.foldl, List.set]) rfl ?_
    refine w_seq (w_region ?_)
    refine w_opb rfl rfl rfl rfl (by dsimp only [aput, List.set]) (by dsimp only [aput, List.set]) (fun h1 => ?_) (fun h1 => ?_)
    ·
      refine w_seq ?_
      refine w_true rfl ?_
      refine w_seq ?_
      refine w_block ?_
      refine w_seq (w_region ?_)
      have hil : i < L.length := by simp at h1; omega
      refine w_op rfl rfl rfl (op_indexAddr rfl rfl rfl rfl rfl ⟨by omega, by omega, smcL_ne (by omega)⟩) (by dsimp only [aput, List.set]) ?_
      obtain ⟨x, hx⟩ : ∃ x, L[i] = x := ⟨_, rfl⟩
      have hnext : MM L (i + 1) = stepM (p, u, g) x := by rw [MM_succ L i hil, hst, hx]
      have hgetx := smcL_get L i hil
      rw [hx] at hgetx
      obtain ⟨kd, a, b⟩ := x
      refine w_op rfl rfl rfl (op_load (a := .agg (smc (kd, a, b))) (.iptr ((smcL L).drop (i * 3))) rfl rfl hgetx) (by dsimp only [aput, List.set]) ?_
      refine w_opm (a := .ptr 2 0) rfl rfl rfl rfl (by dsimp only [aput, List.set]) (by dsimp only [cellsOf_enc, List.append_nil, List.nil_append, List.cons_append, List.set, List.take, List.drop, List.length, List.length_cons, List.length_nil, cellsOf, aval, List.getElem?_cons_zero, List.getElem?_cons_succ, Option.getD]) ?_
      refine w_opm rfl rfl rfl (op_storeW (n := 3) rfl rfl rfl rfl rfl rfl rfl rfl (by decide)) (by dsimp only [aput, List.set]) (by dsimp only [cellsOf_enc, List.append_nil, List.nil_append, List.cons_append, List.set, List.take, List.drop, List.length, List.length_cons, List.length_nil, cellsOf, aval, List.getElem?_cons_zero, List.getElem?_cons_succ, Option.getD]) ?_
      refine w_seq (w_region ?_)
      refine w_op rfl rfl rfl rfl (by dsimp only [aput, List.set, aval, List.getElem?_cons_zero, List.getElem?_cons_succ, Option.getD]) ?_
      refine w_op (a := .raw (.int .i64 p.length)) rfl rfl rfl (op_q (q_lenPile rfl rfl rfl rfl rfl)) (by dsimp only [aput, List.set]) ?_
      refine w_op rfl rfl rfl rfl (by dsimp only [aput, List.set, aval, List.getElem?_cons_zero, List.getElem?_cons_succ, Option.getD]) ?_
      refine w_seq (w_region ?_)
      refine w_op (a := .ptr 2 0) rfl rfl rfl rfl (by dsimp only [aput, List.set]) ?_
      refine w_op (a := .raw (.int .u8 kd)) rfl rfl rfl rfl (by dsimp only [aput, List.set]) ?_
      refine w_op (a := .raw (.int .u8 (kI (kd, a, b)))) rfl rfl rfl (op_q (q_rem (b := 12) rfl rfl rfl rfl (by decide))) (by dsimp only [aput, List.set]) ?_
      refine w_op rfl rfl rfl rfl (by dsimp only [aput, List.set, aval, List.getElem?_cons_zero, List.getElem?_cons_succ, Option.getD]) ?_
      refine w_block ?_
      refine w_seq (w_region ?_)
      refine w_op rfl rfl rfl rfl (by dsimp only [aput, List.set, aval, List.getElem?_cons_zero, List.getElem?_cons_succ, Option.getD]) ?_
      refine w_opb rfl rfl rfl rfl (by dsimp only [aput, List.set]) (by dsimp only [aput, List.set]) (fun h2 => ?_) (fun h2 => ?_)
      ·
        refine w_op (a := .raw (.bool true)) rfl rfl rfl rfl (by dsimp only [aput, List.set]) ?_
        refine w_true rfl ?_
        refine w_region (id := 9) ?_
        refine w_op rfl rfl rfl rfl (by dsimp only [aput, List.set, aval, List.getElem?_cons_zero, List.getElem?_cons_succ, Option.getD]) ?_
        refine w_op (a := .ptr 2 1) rfl rfl rfl rfl (by dsimp only [aput, List.set]) ?_
        refine w_op (a := .raw (.int .u8 a)) rfl rfl rfl rfl (by dsimp only [aput, List.set]) ?_
        refine w_callk (letters_pure a) (by simp [cloL, clo, clo_enc]) rfl rfl (by dsimp only [aput, List.set]) ?_
        refine w_callk (class_letters (a % 12) (Nat.mod_lt _ (by decide))) (by simp [cloL, clo, clo_enc]) rfl rfl (by dsimp only [aput, List.set]) ?_
        refine w_op (a := .list 1 (cellsL [clsT (lbytes (a % 12))]) .full) rfl rfl rfl rfl (by dsimp only [aput, List.set]) ?_
        refine w_opB (a := .bsl 3 0 (p.length + 1) 8 false) rfl rfl rfl (opB_pile (n := p.length) (m := 1) rfl rfl rfl rfl rfl rfl (cellsL_length p) (aSrc_list ⟨rfl, cellsL_length _, by decide⟩) (by decide) (by omega)) (by dsimp only [aput, List.set]) (show _ = (⟨[(29, [.raw (.int .u8 0), .raw (.int .u64 0), .raw (.int .u64 0), .raw (.int .u64 0), .raw (.int .u64 0), .raw (.int .i64 0), .raw (.int .i64 0), .list 0 [] .full]), (29, []), (53, smc (kd, a, b)), (29, cellsL (p ++ [clsT (lbytes (a % 12))]))], [], [], 0, false⟩ : St) from by rw [cellsL_append]; rfl) ?_
        refine w_op rfl rfl rfl rfl (by dsimp only [aput, List.set, aval, List.getElem?_cons_zero, List.getElem?_cons_succ, Option.getD]) ?_
        refine w_region (id := 27) ?_
        refine w_op rfl rfl rfl (op_q (q_add rfl rfl rfl rfl (by omega) (by omega))) (by dsimp only [aput, List.set]) ?_
        refine w_op rfl rfl rfl rfl (by dsimp only [aput, List.set, aval, List.getElem?_cons_zero, List.getElem?_cons_succ, Option.getD]) ?_
        refine ⟨by omega, trivial, ?_⟩
        try dsimp only
        rw [hnext, show stepM (p, u, g) (kd, a, b) = (p ++ [clsT (lbytes (a % 12))], u, g) from by simp only [stepM, h2, Bool.true_and, Bool.and_true, Bool.false_and, Bool.and_false, Bool.true_or, Bool.or_true, Bool.false_or, Bool.or_false, Bool.not_true, Bool.not_false, cond_true, cond_false, Bool.false_eq_true, Bool.true_eq_false]]
        dsimp only
        rw [pileAV_pos (n := (p ++ [clsT (lbytes (a % 12))]).length) (by simp), show (p ++ [clsT (lbytes (a % 12))]).length = p.length + 1 from by simp]
        exact wm_keep [true, true, true, true, true, true, true, false, false, false, false, false, false, true, true, true, true, true, true, true, true, true, true, false, false, false, false, false, false, false, false, false, false, false, false, false, false, false, false, false, false, false, false, false, false, false, false, false, false, false, false, false, false, false, false, false, false, false, false, false, false, false, false, false, false, false, false, false, false, false, false, false, false, false, false, false, false, false, false, false, false, false, false, false, false, false, false, false, false, false, false, false, false, false, false, false, false, false, false, false, false, false, false, false, false, false, false, false, false, false, false, false, false, false, false, false, false, false, false, false, false, false, false, false, false, false, false, false, false, false, false, false, false, false, false, false, false, false, false, false, false, false, false, false, false, false, false, false, false, false, false, false, false, false, false, false, false, false, false, false, false, false, false, false, false, false, false, false, false, false, false, false, false, false, false, false, false, false, false, false, false, false, false, false, false, true, true, true, true, true, true, true, true, true, true, true, true, true, true, true, true, true, true, true] 1 [] [3] 0 (by decide) (by rfl) (by simp only [mapKL, mapK, roomK, mapKL_clo _ _ _ (clo_cellsL _), mapKL_clo _ _ _ (clo_smcL _)]; kernel_rfl) (by simp [keepSt, keepBoxes, mapKL, mapK, roomK, mapKL_clo _ _ _ (clo_cellsL _), mapKL_clo _ _ _ (clo_smcL _)])
      ·
        refine w_op (a := .raw (.bool false)) rfl rfl rfl rfl (by dsimp only [aput, List.set]) ?_
        refine w_false rfl ?_
        refine w_seq (w_region ?_)
        refine w_op rfl rfl rfl rfl (by dsimp only [aput, List.set, aval, List.getElem?_cons_zero, List.getElem?_cons_succ, Option.getD]) ?_
        refine w_opb rfl rfl rfl rfl (by dsimp only [aput, List.set]) (by dsimp only [aput, List.set]) (fun h3 => ?_) (fun h3 => ?_)
        ·
          refine w_op (a := .raw (.bool true)) rfl rfl rfl rfl (by dsimp only [aput, List.set]) ?_
          refine w_true rfl ?_
          refine w_region (id := 11) ?_
          refine w_op rfl rfl rfl rfl (by dsimp only [aput, List.set, aval, List.getElem?_cons_zero, List.getElem?_cons_succ, Option.getD]) ?_
          refine w_opS (a0 := nodeF 1 0 0 [] .full) (a := enc emptyT) rfl rfl rfl rfl strip_empty (by dsimp only [aput, List.set]) ?_
          refine w_op (a := .list 1 (cellsL [emptyT]) .full) rfl rfl rfl rfl (by dsimp only [aput, List.set]) ?_
          refine w_opB (a := .bsl 3 0 (p.length + 1) 8 false) rfl rfl rfl (opB_pile (n := p.length) (m := 1) rfl rfl rfl rfl rfl rfl (cellsL_length p) (aSrc_list ⟨rfl, cellsL_length _, by decide⟩) (by decide) (by omega)) (by dsimp only [aput, List.set]) (show _ = (⟨[(29, [.raw (.int .u8 0), .raw (.int .u64 0), .raw (.int .u64 0), .raw (.int .u64 0), .raw (.int .u64 0), .raw (.int .i64 0), .raw (.int .i64 0), .list 0 [] .full]), (29, []), (53, smc (kd, a, b)), (29, cellsL (p ++ [emptyT]))], [], [], 0, false⟩ : St) from by rw [cellsL_append]; rfl) ?_
          refine w_op rfl rfl rfl rfl (by dsimp only [aput, List.set, aval, List.getElem?_cons_zero, List.getElem?_cons_succ, Option.getD]) ?_
          refine w_region (id := 27) ?_
          refine w_op rfl rfl rfl (op_q (q_add rfl rfl rfl rfl (by omega) (by omega))) (by dsimp only [aput, List.set]) ?_
          refine w_op rfl rfl rfl rfl (by dsimp only [aput, List.set, aval, List.getElem?_cons_zero, List.getElem?_cons_succ, Option.getD]) ?_
          refine ⟨by omega, trivial, ?_⟩
          try dsimp only
          rw [hnext, show stepM (p, u, g) (kd, a, b) = (p ++ [emptyT], u, g) from by simp only [stepM, h2, h3, Bool.true_and, Bool.and_true, Bool.false_and, Bool.and_false, Bool.true_or, Bool.or_true, Bool.false_or, Bool.or_false, Bool.not_true, Bool.not_false, cond_true, cond_false, Bool.false_eq_true, Bool.true_eq_false]]
          dsimp only
          rw [pileAV_pos (n := (p ++ [emptyT]).length) (by simp), show (p ++ [emptyT]).length = p.length + 1 from by simp]
          exact wm_keep [true, true, true, true, true, true, true, false, false, false, false, false, false, true, true, true, true, true, true, true, true, true, true, false, false, false, false, false, false, false, false, false, false, false, false, false, false, false, false, false, false, false, false, false, false, false, false, false, false, false, false, false, false, false, false, false, false, false, false, false, false, false, false, false, false, false, false, false, false, false, false, false, false, false, false, false, false, false, false, false, false, false, false, false, false, false, false, false, false, false, false, false, false, false, false, false, false, false, false, false, false, false, false, false, false, false, false, false, false, false, false, false, false, false, false, false, false, false, false, false, false, false, false, false, false, false, false, false, false, false, false, false, false, false, false, false, false, false, false, false, false, false, false, false, false, false, false, false, false, false, false, false, false, false, false, false, false, false, false, false, false, false, false, false, false, false, false, false, false, false, false, false, false, false, false, false, false, false, false, false, false, false, false, false, false, true, true, true, true, true, true, true, true, true, true, true, true, true, true, true, true, true, true, true] 1 [] [3] 0 (by decide) (by rfl) (by simp only [mapKL, mapK, roomK, mapKL_clo _ _ _ (clo_cellsL _), mapKL_clo _ _ _ (clo_smcL _)]; kernel_rfl) (by simp [keepSt, keepBoxes, mapKL, mapK, roomK, mapKL_clo _ _ _ (clo_cellsL _), mapKL_clo _ _ _ (clo_smcL _)])
        ·
          refine w_op (a := .raw (.bool false)) rfl rfl rfl rfl (by dsimp only [aput, List.set]) ?_
          refine w_false rfl ?_
          refine w_cutS 3 [48, 49, 50, 51, 52, 53, 54] [(48, .raw (.bool (cA p (kd, a, b))))] ⟨[(29, [.raw (.int .u8 0), .raw (.int .u64 0), .raw (.int .u64 0), .raw (.int .u64 0), .raw (.int .u64 0), .raw (.int .i64 0), .raw (.int .i64 0), .list 0 [] .full]), (29, cellsL p), (53, smc (kd, a, b))], [], [], 0, false⟩ rfl ?_ ?_
          ·
            refine w_region (id := 12) ?_
            refine w_op rfl rfl rfl rfl (by dsimp only [aput, List.set, aval, List.getElem?_cons_zero, List.getElem?_cons_succ, Option.getD]) ?_
            refine w_opb rfl rfl rfl rfl (by dsimp only [aput, List.set]) (by dsimp only [aput, List.set]) (fun h4 => ?_) (fun h4 => ?_)
            ·
              refine w_op (a := .raw (.bool true)) rfl rfl rfl rfl (by dsimp only [aput, List.set]) ?_
              refine w_met rfl rfl ?_
              refine w_op rfl rfl rfl rfl (by dsimp only [aput, List.set, aval, List.getElem?_cons_zero, List.getElem?_cons_succ, Option.getD]) ?_
              refine w_met rfl rfl ?_
              refine w_opb rfl rfl rfl rfl (by dsimp only [aput, List.set]) (by dsimp only [aput, List.set]) (fun h5 => ?_) (fun h5 => ?_)
              ·
                refine w_op (a := .raw (.bool true)) rfl rfl rfl rfl (by dsimp only [aput, List.set]) ?_
                refine w_op (a := .raw (.bool true)) rfl rfl rfl rfl (by dsimp only [aput, List.set]) ?_
                have e48 : (cA p (kd, a, b)) = true := by simp only [cA, h1, h2, h3, h4, h5, Bool.true_and, Bool.and_true, Bool.false_and, Bool.and_false, Bool.true_or, Bool.or_true, Bool.false_or, Bool.or_false, Bool.not_true, Bool.not_false, cond_true, cond_false, Bool.false_eq_true, Bool.true_eq_false]
                rw [e48]
                exact wm_of [true, true, true, true, true, true, true, true, true, true, true, true, true, true, true, true, true, true, true, true, true, true, true, true, true, true, true, true, true, true, true, true, true, true, true, true, true, true, true, true, true, true, true, true, true, true, true, true, true, false, false, false, false, false, false, true, true, true, true, true, true, true, true, true, true, true, true, true, true, true, true, true, true, true, true, true, true, true, true, true, true, true, true, true, true, true, true, true, true, true, true, true, true, true, true, true, true, true, true, true, true, true, true, true, true, true, true, true, true, true, true, true, true, true, true, true, true, true, true, true, true, true, true, true, true, true, true, true, true, true, true, true, true, true, true, true, true, true, true, true, true, true, true, true, true, true, true, true, true, true, true, true, true, true, true, true, true, true, true, true, true, true, true, true, true, true, true, true, true, true, true, true, true, true, true, true, true, true, true, true, true, true, true, true, true, true, true, true, true, true, true, true, true, true, true, true, true, true, true, true, true, true, true, true] (by kernel_rfl) (by kernel_rfl)
              ·
                refine w_op (a := .raw (.bool false)) rfl rfl rfl rfl (by dsimp only [aput, List.set]) ?_
                refine w_op (a := .raw (.bool false)) rfl rfl rfl rfl (by dsimp only [aput, List.set]) ?_
                have e48 : (cA p (kd, a, b)) = false := by simp only [cA, h1, h2, h3, h4, h5, Bool.true_and, Bool.and_true, Bool.false_and, Bool.and_false, Bool.true_or, Bool.or_true, Bool.false_or, Bool.or_false, Bool.not_true, Bool.not_false, cond_true, cond_false, Bool.false_eq_true, Bool.true_eq_false]
                rw [e48]
                exact wm_of [true, true, true, true, true, true, true, true, true, true, true, true, true, true, true, true, true, true, true, true, true, true, true, true, true, true, true, true, true, true, true, true, true, true, true, true, true, true, true, true, true, true, true, true, true, true, true, true, true, false, false, false, false, false, false, true, true, true, true, true, true, true, true, true, true, true, true, true, true, true, true, true, true, true, true, true, true, true, true, true, true, true, true, true, true, true, true, true, true, true, true, true, true, true, true, true, true, true, true, true, true, true, true, true, true, true, true, true, true, true, true, true, true, true, true, true, true, true, true, true, true, true, true, true, true, true, true, true, true, true, true, true, true, true, true, true, true, true, true, true, true, true, true, true, true, true, true, true, true, true, true, true, true, true, true, true, true, true, true, true, true, true, true, true, true, true, true, true, true, true, true, true, true, true, true, true, true, true, true, true, true, true, true, true, true, true, true, true, true, true, true, true, true, true, true, true, true, true, true, true, true, true, true, true] (by kernel_rfl) (by kernel_rfl)
            ·
              refine w_op (a := .raw (.bool false)) rfl rfl rfl rfl (by dsimp only [aput, List.set]) ?_
              refine w_pass rfl rfl (by decide) (by dsimp only [aput, List.set]) ?_
              refine w_pass rfl rfl (by decide) (by dsimp only [aput, List.set]) ?_
              refine w_op (a := .raw (.bool false)) rfl rfl rfl rfl (by dsimp only [aput, List.set]) ?_
              refine w_op (a := .raw (.bool false)) rfl rfl rfl rfl (by dsimp only [aput, List.set]) ?_
              have e48 : (cA p (kd, a, b)) = false := by simp only [cA, h1, h2, h3, h4, Bool.true_and, Bool.and_true, Bool.false_and, Bool.and_false, Bool.true_or, Bool.or_true, Bool.false_or, Bool.or_false, Bool.not_true, Bool.not_false, cond_true, cond_false, Bool.false_eq_true, Bool.true_eq_false]
              rw [e48]
              exact wm_of [true, true, true, true, true, true, true, true, true, true, true, true, true, true, true, true, true, true, true, true, true, true, true, true, true, true, true, true, true, true, true, true, true, true, true, true, true, true, true, true, true, true, true, true, true, true, true, true, true, false, false, false, false, false, false, true, true, true, true, true, true, true, true, true, true, true, true, true, true, true, true, true, true, true, true, true, true, true, true, true, true, true, true, true, true, true, true, true, true, true, true, true, true, true, true, true, true, true, true, true, true, true, true, true, true, true, true, true, true, true, true, true, true, true, true, true, true, true, true, true, true, true, true, true, true, true, true, true, true, true, true, true, true, true, true, true, true, true, true, true, true, true, true, true, true, true, true, true, true, true, true, true, true, true, true, true, true, true, true, true, true, true, true, true, true, true, true, true, true, true, true, true, true, true, true, true, true, true, true, true, true, true, true, true, true, true, true, true, true, true, true, true, true, true, true, true, true, true, true, true, true, true, true, true] (by kernel_rfl) (by kernel_rfl)
          refine w_start (by dsimp only [setAll, topAll, List.foldl, List.set]) rfl ?_
          refine w_cond rfl (fun h6 => ?_) (fun h6 => ?_)
          ·
            have hp2 : 2 ≤ p.length := by have := h6; simp only [cA, Bool.and_eq_true, decide_eq_true_eq] at this; omega
            rw [pileAV_pos (show 0 < p.length by omega)]
            refine w_draw (id := 13) 18 (by kernel_rfl) (by kernel_rfl) ?_
            refine h_op rfl rfl rfl rfl (by dsimp only [aput, List.set, aval, List.getElem?_cons_zero, List.getElem?_cons_succ, Option.getD]) ?_
            refine h_op rfl rfl rfl rfl (by dsimp only [aput, List.set, aval, List.getElem?_cons_zero, List.getElem?_cons_succ, Option.getD]) ?_
            refine h_op (a := .raw (.int .i64 ((p.length - 2 : Nat) : Int))) rfl rfl rfl (q_sub rfl rfl rfl (by omega) (by omega) (by omega)) (by dsimp only [aput, List.set]) ?_
            refine h_op rfl rfl rfl rfl (by dsimp only [aput, List.set, aval, List.getElem?_cons_zero, List.getElem?_cons_succ, Option.getD]) ?_
            refine h_op (a := .raw (.int .i64 ((p.length - 2 : Nat) : Int))) rfl rfl rfl (q_sub rfl rfl rfl (by omega) (by omega) (by omega)) (by dsimp only [aput, List.set]) ?_
            refine h_op (a := sl2 p.length) rfl rfl rfl (q_slice2 rfl hp2 rfl rfl rfl) (by dsimp only [aput, List.set]) ?_
            refine h_op rfl rfl rfl rfl (by dsimp only [aput, List.set, aval, List.getElem?_cons_zero, List.getElem?_cons_succ, Option.getD]) ?_
            refine h_op rfl rfl rfl rfl (by dsimp only [aput, List.set, aval, List.getElem?_cons_zero, List.getElem?_cons_succ, Option.getD]) ?_
            refine h_op (a := .raw (.int .i64 ((p.length - 2 : Nat) : Int))) rfl rfl rfl (q_sub rfl rfl rfl (by omega) (by omega) (by omega)) (by dsimp only [aput, List.set]) ?_
            refine h_op (a := .ptr 1 (0 + (p.length - 2) * 8)) rfl rfl rfl (q_indexB (n := ((p.length - 2 : Nat) : Int)) rfl rfl rfl rfl rfl ⟨by omega, by omega⟩) (by dsimp only [aput, List.set]) ?_
            have hgv2 := cellsL_get p (p.length - 2) (by omega)
            rw [← lastT_lt (p := p) (i := 2) (by omega) (by omega)] at hgv2
            obtain ⟨xv2, hxv2⟩ : ∃ xv2, lastT p 2 = xv2 := ⟨_, rfl⟩
            rw [hxv2] at hgv2
            obtain ⟨kv2, sv2, mnv2, mxv2, tsv2⟩ := xv2
            refine h_op rfl rfl rfl (q_load (a := enc (Tr.mk kv2 sv2 mnv2 mxv2 tsv2)) (.ptr 1 (0 + (p.length - 2) * 8)) rfl rfl (by show rd Try.prog 29 ((cellsL p).drop (0 + _)) = _; rw [Nat.zero_add]; exact hgv2)) (by dsimp only [aput, List.set]) ?_
            refine h_op rfl rfl rfl rfl (by dsimp only [aput, List.set, aval, List.getElem?_cons_zero, List.getElem?_cons_succ, Option.getD]) ?_
            refine h_op rfl rfl rfl rfl (by dsimp only [aput, List.set, aval, List.getElem?_cons_zero, List.getElem?_cons_succ, Option.getD]) ?_
            refine h_op (a := .raw (.int .i64 ((p.length - 1 : Nat) : Int))) rfl rfl rfl (q_sub rfl rfl rfl (by omega) (by omega) (by omega)) (by dsimp only [aput, List.set]) ?_
            refine h_op (a := .ptr 1 (0 + (p.length - 1) * 8)) rfl rfl rfl (q_indexB (n := ((p.length - 1 : Nat) : Int)) rfl rfl rfl rfl rfl ⟨by omega, by omega⟩) (by dsimp only [aput, List.set]) ?_
            have hgv1 := cellsL_get p (p.length - 1) (by omega)
            rw [← lastT_lt (p := p) (i := 1) (by omega) (by omega)] at hgv1
            obtain ⟨xv1, hxv1⟩ : ∃ xv1, lastT p 1 = xv1 := ⟨_, rfl⟩
            rw [hxv1] at hgv1
            obtain ⟨kv1, sv1, mnv1, mxv1, tsv1⟩ := xv1
            refine h_op rfl rfl rfl (q_load (a := enc (Tr.mk kv1 sv1 mnv1 mxv1 tsv1)) (.ptr 1 (0 + (p.length - 1) * 8)) rfl rfl (by show rd Try.prog 29 ((cellsL p).drop (0 + _)) = _; rw [Nat.zero_add]; exact hgv1)) (by dsimp only [aput, List.set]) ?_
            refine h_callk (joins_mk 3 kv2 sv2 mnv2 mxv2 tsv2 kv1 sv1 mnv1 mxv1 tsv1 (by have := preL_take_two (p := p) hp2; rw [hxv1, hxv2] at this; simp only [preL, List.append_nil, List.length_append]; omega)) (by simp [cloL, clo, clo_enc]) rfl rfl rfl (by dsimp only [aput, List.set]) ?_
            obtain ⟨xr, hxr⟩ : ∃ xr, joinsT 3 (Tr.mk kv2 sv2 mnv2 mxv2 tsv2) (Tr.mk kv1 sv1 mnv1 mxv1 tsv1) = xr := ⟨_, rfl⟩
            rw [hxr]
            obtain ⟨kr, sr, mnr, mxr, tsr⟩ := xr
            refine h_op (a := .list 1 (cellsL [(Tr.mk kr sr mnr mxr tsr)]) .full) rfl rfl rfl rfl (by dsimp only [aput, List.set]) ?_
            refine h_end ?_
            refine w_opB (a := .bsl 3 0 (p.length - 2 + 1) 8 false) rfl rfl rfl (opB_sl2 (n := p.length) (m := 1) rfl rfl rfl rfl rfl rfl (cellsL_length p) hp2 (aSrc_list ⟨rfl, cellsL_length _, by decide⟩) (by decide) (by omega)) (by dsimp only [aput, List.set]) (show _ = (⟨[(29, [.raw (.int .u8 0), .raw (.int .u64 0), .raw (.int .u64 0), .raw (.int .u64 0), .raw (.int .u64 0), .raw (.int .i64 0), .raw (.int .i64 0), .list 0 [] .full]), (29, cellsL p), (53, smc (kd, a, b)), (29, cellsL (p.take (p.length - 2) ++ [(Tr.mk kr sr mnr mxr tsr)]))], [], [], 0, false⟩ : St) from by rw [cellsL_append, ← cellsL_takei]; rfl) ?_
            refine w_op rfl rfl rfl rfl (by dsimp only [aput, List.set, aval, List.getElem?_cons_zero, List.getElem?_cons_succ, Option.getD]) ?_
            refine w_region (id := 27) ?_
            refine w_op rfl rfl rfl (op_q (q_add rfl rfl rfl rfl (by omega) (by omega))) (by dsimp only [aput, List.set]) ?_
            refine w_op rfl rfl rfl rfl (by dsimp only [aput, List.set, aval, List.getElem?_cons_zero, List.getElem?_cons_succ, Option.getD]) ?_
            refine ⟨by omega, trivial, ?_⟩
            try dsimp only
            rw [hnext, show stepM (p, u, g) (kd, a, b) = (p.take (p.length - 2) ++ [(Tr.mk kr sr mnr mxr tsr)], u, g) from by simp only [stepM, h2, h3, h6, Bool.true_and, Bool.and_true, Bool.false_and, Bool.and_false, Bool.true_or, Bool.or_true, Bool.false_or, Bool.or_false, Bool.not_true, Bool.not_false, cond_true, cond_false, Bool.false_eq_true, Bool.true_eq_false]; rw [hxv2, hxv1, hxr]]
            dsimp only
            rw [pileAV_pos (n := (p.take (p.length - 2) ++ [(Tr.mk kr sr mnr mxr tsr)]).length) (by simp), show (p.take (p.length - 2) ++ [(Tr.mk kr sr mnr mxr tsr)]).length = p.length - 2 + 1 from by simp]
            exact wm_keep [true, true, true, true, true, true, true, false, false, false, false, false, false, true, true, true, true, true, true, true, true, true, true, false, false, false, false, false, false, false, false, false, false, false, false, false, false, false, false, false, false, false, false, false, false, false, false, false, false, false, false, false, false, false, false, false, false, false, false, false, false, false, false, false, false, false, false, false, false, false, false, false, false, false, false, false, false, false, false, false, false, false, false, false, false, false, false, false, false, false, false, false, false, false, false, false, false, false, false, false, false, false, false, false, false, false, false, false, false, false, false, false, false, false, false, false, false, false, false, false, false, false, false, false, false, false, false, false, false, false, false, false, false, false, false, false, false, false, false, false, false, false, false, false, false, false, false, false, false, false, false, false, false, false, false, false, false, false, false, false, false, false, false, false, false, false, false, false, false, false, false, false, false, false, false, false, false, false, false, false, false, false, false, false, false, true, true, true, true, true, true, true, true, true, true, true, true, true, true, true, true, true, true, true] 1 [] [3] 0 (by decide) (by rfl) (by simp only [mapKL, mapK, roomK, mapKL_clo _ _ _ (clo_cellsL _), mapKL_clo _ _ _ (clo_smcL _)]; kernel_rfl) (by simp [keepSt, keepBoxes, mapKL, mapK, roomK, mapKL_clo _ _ _ (clo_cellsL _), mapKL_clo _ _ _ (clo_smcL _)])
          ·
            refine w_cutS 3 [74, 75, 76, 77, 78, 79, 80] [(74, .raw (.bool (cB p (kd, a, b))))] ⟨[(29, [.raw (.int .u8 0), .raw (.int .u64 0), .raw (.int .u64 0), .raw (.int .u64 0), .raw (.int .u64 0), .raw (.int .i64 0), .raw (.int .i64 0), .list 0 [] .full]), (29, cellsL p), (53, smc (kd, a, b))], [], [], 0, false⟩ rfl ?_ ?_
            ·
              refine w_region (id := 14) ?_
              refine w_op rfl rfl rfl rfl (by dsimp only [aput, List.set, aval, List.getElem?_cons_zero, List.getElem?_cons_succ, Option.getD]) ?_
              refine w_opb rfl rfl rfl rfl (by dsimp only [aput, List.set]) (by dsimp only [aput, List.set]) (fun h7 => ?_) (fun h7 => ?_)
              ·
                refine w_op (a := .raw (.bool true)) rfl rfl rfl rfl (by dsimp only [aput, List.set]) ?_
                refine w_met rfl rfl ?_
                refine w_op rfl rfl rfl rfl (by dsimp only [aput, List.set, aval, List.getElem?_cons_zero, List.getElem?_cons_succ, Option.getD]) ?_
                refine w_met rfl rfl ?_
                refine w_opb rfl rfl rfl rfl (by dsimp only [aput, List.set]) (by dsimp only [aput, List.set]) (fun h8 => ?_) (fun h8 => ?_)
                ·
                  refine w_op (a := .raw (.bool true)) rfl rfl rfl rfl (by dsimp only [aput, List.set]) ?_
                  refine w_op (a := .raw (.bool true)) rfl rfl rfl rfl (by dsimp only [aput, List.set]) ?_
                  have e74 : (cB p (kd, a, b)) = true := by simp only [cB, h1, h2, h3, h6, h7, h8, Bool.true_and, Bool.and_true, Bool.false_and, Bool.and_false, Bool.true_or, Bool.or_true, Bool.false_or, Bool.or_false, Bool.not_true, Bool.not_false, cond_true, cond_false, Bool.false_eq_true, Bool.true_eq_false]
                  rw [e74]
                  exact wm_of [true, true, true, true, true, true, true, true, true, true, true, true, true, true, true, true, true, true, true, true, true, true, true, true, true, true, true, true, true, true, true, true, true, true, true, true, true, true, true, true, true, true, true, true, true, true, true, true, true, true, true, true, true, true, true, true, true, true, true, true, true, true, true, true, true, true, true, true, true, true, true, true, true, true, true, false, false, false, false, false, false, true, true, true, true, true, true, true, true, true, true, true, true, true, true, true, true, true, true, true, true, true, true, true, true, true, true, true, true, true, true, true, true, true, true, true, true, true, true, true, true, true, true, true, true, true, true, true, true, true, true, true, true, true, true, true, true, true, true, true, true, true, true, true, true, true, true, true, true, true, true, true, true, true, true, true, true, true, true, true, true, true, true, true, true, true, true, true, true, true, true, true, true, true, true, true, true, true, true, true, true, true, true, true, true, true, true, true, true, true, true, true, true, true, true, true, true, true, true, true, true, true, true, true] (by kernel_rfl) (by kernel_rfl)
                ·
                  refine w_op (a := .raw (.bool false)) rfl rfl rfl rfl (by dsimp only [aput, List.set]) ?_
                  refine w_op (a := .raw (.bool false)) rfl rfl rfl rfl (by dsimp only [aput, List.set]) ?_
                  have e74 : (cB p (kd, a, b)) = false := by simp only [cB, h1, h2, h3, h6, h7, h8, Bool.true_and, Bool.and_true, Bool.false_and, Bool.and_false, Bool.true_or, Bool.or_true, Bool.false_or, Bool.or_false, Bool.not_true, Bool.not_false, cond_true, cond_false, Bool.false_eq_true, Bool.true_eq_false]
                  rw [e74]
                  exact wm_of [true, true, true, true, true, true, true, true, true, true, true, true, true, true, true, true, true, true, true, true, true, true, true, true, true, true, true, true, true, true, true, true, true, true, true, true, true, true, true, true, true, true, true, true, true, true, true, true, true, true, true, true, true, true, true, true, true, true, true, true, true, true, true, true, true, true, true, true, true, true, true, true, true, true, true, false, false, false, false, false, false, true, true, true, true, true, true, true, true, true, true, true, true, true, true, true, true, true, true, true, true, true, true, true, true, true, true, true, true, true, true, true, true, true, true, true, true, true, true, true, true, true, true, true, true, true, true, true, true, true, true, true, true, true, true, true, true, true, true, true, true, true, true, true, true, true, true, true, true, true, true, true, true, true, true, true, true, true, true, true, true, true, true, true, true, true, true, true, true, true, true, true, true, true, true, true, true, true, true, true, true, true, true, true, true, true, true, true, true, true, true, true, true, true, true, true, true, true, true, true, true, true, true, true] (by kernel_rfl) (by kernel_rfl)
              ·
                refine w_op (a := .raw (.bool false)) rfl rfl rfl rfl (by dsimp only [aput, List.set]) ?_
                refine w_pass rfl rfl (by decide) (by dsimp only [aput, List.set]) ?_
                refine w_pass rfl rfl (by decide) (by dsimp only [aput, List.set]) ?_
                refine w_op (a := .raw (.bool false)) rfl rfl rfl rfl (by dsimp only [aput, List.set]) ?_
                refine w_op (a := .raw (.bool false)) rfl rfl rfl rfl (by dsimp only [aput, List.set]) ?_
                have e74 : (cB p (kd, a, b)) = false := by simp only [cB, h1, h2, h3, h6, h7, Bool.true_and, Bool.and_true, Bool.false_and, Bool.and_false, Bool.true_or, Bool.or_true, Bool.false_or, Bool.or_false, Bool.not_true, Bool.not_false, cond_true, cond_false, Bool.false_eq_true, Bool.true_eq_false]
                rw [e74]
                exact wm_of [true, true, true, true, true, true, true, true, true, true, true, true, true, true, true, true, true, true, true, true, true, true, true, true, true, true, true, true, true, true, true, true, true, true, true, true, true, true, true, true, true, true, true, true, true, true, true, true, true, true, true, true, true, true, true, true, true, true, true, true, true, true, true, true, true, true, true, true, true, true, true, true, true, true, true, false, false, false, false, false, false, true, true, true, true, true, true, true, true, true, true, true, true, true, true, true, true, true, true, true, true, true, true, true, true, true, true, true, true, true, true, true, true, true, true, true, true, true, true, true, true, true, true, true, true, true, true, true, true, true, true, true, true, true, true, true, true, true, true, true, true, true, true, true, true, true, true, true, true, true, true, true, true, true, true, true, true, true, true, true, true, true, true, true, true, true, true, true, true, true, true, true, true, true, true, true, true, true, true, true, true, true, true, true, true, true, true, true, true, true, true, true, true, true, true, true, true, true, true, true, true, true, true, true] (by kernel_rfl) (by kernel_rfl)
            refine w_start (by dsimp only [setAll, topAll, List.foldl, List.set]) rfl ?_
            refine w_cond rfl (fun h9 => ?_) (fun h9 => ?_)
            ·
              have hp2 : 2 ≤ p.length := by have := h9; simp only [cB, Bool.and_eq_true, decide_eq_true_eq] at this; omega
              rw [pileAV_pos (show 0 < p.length by omega)]
              refine w_draw (id := 15) 18 (by kernel_rfl) (by kernel_rfl) ?_
              refine h_op rfl rfl rfl rfl (by dsimp only [aput, List.set, aval, List.getElem?_cons_zero, List.getElem?_cons_succ, Option.getD]) ?_
              refine h_op rfl rfl rfl rfl (by dsimp only [aput, List.set, aval, List.getElem?_cons_zero, List.getElem?_cons_succ, Option.getD]) ?_
              refine h_op (a := .raw (.int .i64 ((p.length - 2 : Nat) : Int))) rfl rfl rfl (q_sub rfl rfl rfl (by omega) (by omega) (by omega)) (by dsimp only [aput, List.set]) ?_
              refine h_op rfl rfl rfl rfl (by dsimp only [aput, List.set, aval, List.getElem?_cons_zero, List.getElem?_cons_succ, Option.getD]) ?_
              refine h_op (a := .raw (.int .i64 ((p.length - 2 : Nat) : Int))) rfl rfl rfl (q_sub rfl rfl rfl (by omega) (by omega) (by omega)) (by dsimp only [aput, List.set]) ?_
              refine h_op (a := sl2 p.length) rfl rfl rfl (q_slice2 rfl hp2 rfl rfl rfl) (by dsimp only [aput, List.set]) ?_
              refine h_op rfl rfl rfl rfl (by dsimp only [aput, List.set, aval, List.getElem?_cons_zero, List.getElem?_cons_succ, Option.getD]) ?_
              refine h_op rfl rfl rfl rfl (by dsimp only [aput, List.set, aval, List.getElem?_cons_zero, List.getElem?_cons_succ, Option.getD]) ?_
              refine h_op (a := .raw (.int .i64 ((p.length - 2 : Nat) : Int))) rfl rfl rfl (q_sub rfl rfl rfl (by omega) (by omega) (by omega)) (by dsimp only [aput, List.set]) ?_
              refine h_op (a := .ptr 1 (0 + (p.length - 2) * 8)) rfl rfl rfl (q_indexB (n := ((p.length - 2 : Nat) : Int)) rfl rfl rfl rfl rfl ⟨by omega, by omega⟩) (by dsimp only [aput, List.set]) ?_
              have hgv2 := cellsL_get p (p.length - 2) (by omega)
              rw [← lastT_lt (p := p) (i := 2) (by omega) (by omega)] at hgv2
              obtain ⟨xv2, hxv2⟩ : ∃ xv2, lastT p 2 = xv2 := ⟨_, rfl⟩
              rw [hxv2] at hgv2
              obtain ⟨kv2, sv2, mnv2, mxv2, tsv2⟩ := xv2
              refine h_op rfl rfl rfl (q_load (a := enc (Tr.mk kv2 sv2 mnv2 mxv2 tsv2)) (.ptr 1 (0 + (p.length - 2) * 8)) rfl rfl (by show rd Try.prog 29 ((cellsL p).drop (0 + _)) = _; rw [Nat.zero_add]; exact hgv2)) (by dsimp only [aput, List.set]) ?_
              refine h_op rfl rfl rfl rfl (by dsimp only [aput, List.set, aval, List.getElem?_cons_zero, List.getElem?_cons_succ, Option.getD]) ?_
              refine h_op rfl rfl rfl rfl (by dsimp only [aput, List.set, aval, List.getElem?_cons_zero, List.getElem?_cons_succ, Option.getD]) ?_
              refine h_op (a := .raw (.int .i64 ((p.length - 1 : Nat) : Int))) rfl rfl rfl (q_sub rfl rfl rfl (by omega) (by omega) (by omega)) (by dsimp only [aput, List.set]) ?_
              refine h_op (a := .ptr 1 (0 + (p.length - 1) * 8)) rfl rfl rfl (q_indexB (n := ((p.length - 1 : Nat) : Int)) rfl rfl rfl rfl rfl ⟨by omega, by omega⟩) (by dsimp only [aput, List.set]) ?_
              have hgv1 := cellsL_get p (p.length - 1) (by omega)
              rw [← lastT_lt (p := p) (i := 1) (by omega) (by omega)] at hgv1
              obtain ⟨xv1, hxv1⟩ : ∃ xv1, lastT p 1 = xv1 := ⟨_, rfl⟩
              rw [hxv1] at hgv1
              obtain ⟨kv1, sv1, mnv1, mxv1, tsv1⟩ := xv1
              refine h_op rfl rfl rfl (q_load (a := enc (Tr.mk kv1 sv1 mnv1 mxv1 tsv1)) (.ptr 1 (0 + (p.length - 1) * 8)) rfl rfl (by show rd Try.prog 29 ((cellsL p).drop (0 + _)) = _; rw [Nat.zero_add]; exact hgv1)) (by dsimp only [aput, List.set]) ?_
              refine h_callk (joins_mk 4 kv2 sv2 mnv2 mxv2 tsv2 kv1 sv1 mnv1 mxv1 tsv1 (by have := preL_take_two (p := p) hp2; rw [hxv1, hxv2] at this; simp only [preL, List.append_nil, List.length_append]; omega)) (by simp [cloL, clo, clo_enc]) rfl rfl rfl (by dsimp only [aput, List.set]) ?_
              obtain ⟨xr, hxr⟩ : ∃ xr, joinsT 4 (Tr.mk kv2 sv2 mnv2 mxv2 tsv2) (Tr.mk kv1 sv1 mnv1 mxv1 tsv1) = xr := ⟨_, rfl⟩
              rw [hxr]
              obtain ⟨kr, sr, mnr, mxr, tsr⟩ := xr
              refine h_op (a := .list 1 (cellsL [(Tr.mk kr sr mnr mxr tsr)]) .full) rfl rfl rfl rfl (by dsimp only [aput, List.set]) ?_
              refine h_end ?_
              refine w_opB (a := .bsl 3 0 (p.length - 2 + 1) 8 false) rfl rfl rfl (opB_sl2 (n := p.length) (m := 1) rfl rfl rfl rfl rfl rfl (cellsL_length p) hp2 (aSrc_list ⟨rfl, cellsL_length _, by decide⟩) (by decide) (by omega)) (by dsimp only [aput, List.set]) (show _ = (⟨[(29, [.raw (.int .u8 0), .raw (.int .u64 0), .raw (.int .u64 0), .raw (.int .u64 0), .raw (.int .u64 0), .raw (.int .i64 0), .raw (.int .i64 0), .list 0 [] .full]), (29, cellsL p), (53, smc (kd, a, b)), (29, cellsL (p.take (p.length - 2) ++ [(Tr.mk kr sr mnr mxr tsr)]))], [], [], 0, false⟩ : St) from by rw [cellsL_append, ← cellsL_takei]; rfl) ?_
              refine w_op rfl rfl rfl rfl (by dsimp only [aput, List.set, aval, List.getElem?_cons_zero, List.getElem?_cons_succ, Option.getD]) ?_
              refine w_region (id := 27) ?_
              refine w_op rfl rfl rfl (op_q (q_add rfl rfl rfl rfl (by omega) (by omega))) (by dsimp only [aput, List.set]) ?_
              refine w_op rfl rfl rfl rfl (by dsimp only [aput, List.set, aval, List.getElem?_cons_zero, List.getElem?_cons_succ, Option.getD]) ?_
              refine ⟨by omega, trivial, ?_⟩
              try dsimp only
              rw [hnext, show stepM (p, u, g) (kd, a, b) = (p.take (p.length - 2) ++ [(Tr.mk kr sr mnr mxr tsr)], u, g) from by simp only [stepM, h2, h3, h6, h9, Bool.true_and, Bool.and_true, Bool.false_and, Bool.and_false, Bool.true_or, Bool.or_true, Bool.false_or, Bool.or_false, Bool.not_true, Bool.not_false, cond_true, cond_false, Bool.false_eq_true, Bool.true_eq_false]; rw [hxv2, hxv1, hxr]]
              dsimp only
              rw [pileAV_pos (n := (p.take (p.length - 2) ++ [(Tr.mk kr sr mnr mxr tsr)]).length) (by simp), show (p.take (p.length - 2) ++ [(Tr.mk kr sr mnr mxr tsr)]).length = p.length - 2 + 1 from by simp]
              exact wm_keep [true, true, true, true, true, true, true, false, false, false, false, false, false, true, true, true, true, true, true, true, true, true, true, false, false, false, false, false, false, false, false, false, false, false, false, false, false, false, false, false, false, false, false, false, false, false, false, false, false, false, false, false, false, false, false, false, false, false, false, false, false, false, false, false, false, false, false, false, false, false, false, false, false, false, false, false, false, false, false, false, false, false, false, false, false, false, false, false, false, false, false, false, false, false, false, false, false, false, false, false, false, false, false, false, false, false, false, false, false, false, false, false, false, false, false, false, false, false, false, false, false, false, false, false, false, false, false, false, false, false, false, false, false, false, false, false, false, false, false, false, false, false, false, false, false, false, false, false, false, false, false, false, false, false, false, false, false, false, false, false, false, false, false, false, false, false, false, false, false, false, false, false, false, false, false, false, false, false, false, false, false, false, false, false, false, true, true, true, true, true, true, true, true, true, true, true, true, true, true, true, true, true, true, true] 1 [] [3] 0 (by decide) (by rfl) (by simp only [mapKL, mapK, roomK, mapKL_clo _ _ _ (clo_cellsL _), mapKL_clo _ _ _ (clo_smcL _)]; kernel_rfl) (by simp [keepSt, keepBoxes, mapKL, mapK, roomK, mapKL_clo _ _ _ (clo_cellsL _), mapKL_clo _ _ _ (clo_smcL _)])
            ·
              refine w_cutS 3 [100, 101, 102, 103, 104, 105, 106, 107, 108, 109, 110] [(100, .raw (.bool (cC p g (kd, a, b))))] ⟨[(29, [.raw (.int .u8 0), .raw (.int .u64 0), .raw (.int .u64 0), .raw (.int .u64 0), .raw (.int .u64 0), .raw (.int .i64 0), .raw (.int .i64 0), .list 0 [] .full]), (29, cellsL p), (53, smc (kd, a, b))], [], [], 0, false⟩ rfl ?_ ?_
              ·
                refine w_region (id := 16) ?_
                refine w_op rfl rfl rfl rfl (by dsimp only [aput, List.set, aval, List.getElem?_cons_zero, List.getElem?_cons_succ, Option.getD]) ?_
                refine w_opb rfl rfl rfl rfl (by dsimp only [aput, List.set]) (by dsimp only [aput, List.set]) (fun h10 => ?_) (fun h10 => ?_)
                ·
                  refine w_op (a := .raw (.bool true)) rfl rfl rfl rfl (by dsimp only [aput, List.set]) ?_
                  refine w_met rfl rfl ?_
                  refine w_op rfl rfl rfl rfl (by dsimp only [aput, List.set, aval, List.getElem?_cons_zero, List.getElem?_cons_succ, Option.getD]) ?_
                  refine w_met rfl rfl ?_
                  refine w_opb rfl rfl rfl rfl (by dsimp only [aput, List.set]) (by dsimp only [aput, List.set]) (fun h11 => ?_) (fun h11 => ?_)
                  ·
                    refine w_op (a := .raw (.bool true)) rfl rfl rfl rfl (by dsimp only [aput, List.set]) ?_
                    refine w_op (a := .raw (.bool true)) rfl rfl rfl rfl (by dsimp only [aput, List.set]) ?_
                    refine w_met rfl rfl ?_
                    refine w_op rfl rfl rfl rfl (by dsimp only [aput, List.set, aval, List.getElem?_cons_zero, List.getElem?_cons_succ, Option.getD]) ?_
                    refine w_met rfl rfl ?_
                    refine w_opb rfl rfl rfl rfl (by dsimp only [aput, List.set]) (by dsimp only [aput, List.set]) (fun h12 => ?_) (fun h12 => ?_)
                    ·
                      refine w_op (a := .raw (.bool true)) rfl rfl rfl rfl (by dsimp only [aput, List.set]) ?_
                      refine w_op (a := .raw (.bool true)) rfl rfl rfl rfl (by dsimp only [aput, List.set]) ?_
                      have e100 : (cC p g (kd, a, b)) = true := by simp only [cC, h1, h2, h3, h6, h9, h10, h11, h12, Bool.true_and, Bool.and_true, Bool.false_and, Bool.and_false, Bool.true_or, Bool.or_true, Bool.false_or, Bool.or_false, Bool.not_true, Bool.not_false, cond_true, cond_false, Bool.false_eq_true, Bool.true_eq_false]
                      rw [e100]
                      exact wm_of [true, true, true, true, true, true, true, true, true, true, true, true, true, true, true, true, true, true, true, true, true, true, true, true, true, true, true, true, true, true, true, true, true, true, true, true, true, true, true, true, true, true, true, true, true, true, true, true, true, true, true, true, true, true, true, true, true, true, true, true, true, true, true, true, true, true, true, true, true, true, true, true, true, true, true, true, true, true, true, true, true, true, true, true, true, true, true, true, true, true, true, true, true, true, true, true, true, true, true, true, true, false, false, false, false, false, false, false, false, false, false, true, true, true, true, true, true, true, true, true, true, true, true, true, true, true, true, true, true, true, true, true, true, true, true, true, true, true, true, true, true, true, true, true, true, true, true, true, true, true, true, true, true, true, true, true, true, true, true, true, true, true, true, true, true, true, true, true, true, true, true, true, true, true, true, true, true, true, true, true, true, true, true, true, true, true, true, true, true, true, true, true, true, true, true, true, true, true, true, true, true, true, true, true] (by kernel_rfl) (by kernel_rfl)
                    ·
                      refine w_op (a := .raw (.bool false)) rfl rfl rfl rfl (by dsimp only [aput, List.set]) ?_
                      refine w_op (a := .raw (.bool false)) rfl rfl rfl rfl (by dsimp only [aput, List.set]) ?_
                      have e100 : (cC p g (kd, a, b)) = false := by simp only [cC, h1, h2, h3, h6, h9, h10, h11, h12, Bool.true_and, Bool.and_true, Bool.false_and, Bool.and_false, Bool.true_or, Bool.or_true, Bool.false_or, Bool.or_false, Bool.not_true, Bool.not_false, cond_true, cond_false, Bool.false_eq_true, Bool.true_eq_false]
                      rw [e100]
                      exact wm_of [true, true, true, true, true, true, true, true, true, true, true, true, true, true, true, true, true, true, true, true, true, true, true, true, true, true, true, true, true, true, true, true, true, true, true, true, true, true, true, true, true, true, true, true, true, true, true, true, true, true, true, true, true, true, true, true, true, true, true, true, true, true, true, true, true, true, true, true, true, true, true, true, true, true, true, true, true, true, true, true, true, true, true, true, true, true, true, true, true, true, true, true, true, true, true, true, true, true, true, true, true, false, false, false, false, false, false, false, false, false, false, true, true, true, true, true, true, true, true, true, true, true, true, true, true, true, true, true, true, true, true, true, true, true, true, true, true, true, true, true, true, true, true, true, true, true, true, true, true, true, true, true, true, true, true, true, true, true, true, true, true, true, true, true, true, true, true, true, true, true, true, true, true, true, true, true, true, true, true, true, true, true, true, true, true, true, true, true, true, true, true, true, true, true, true, true, true, true, true, true, true, true, true, true] (by kernel_rfl) (by kernel_rfl)
                  ·
                    refine w_op (a := .raw (.bool false)) rfl rfl rfl rfl (by dsimp only [aput, List.set]) ?_
                    refine w_op (a := .raw (.bool false)) rfl rfl rfl rfl (by dsimp only [aput, List.set]) ?_
                    refine w_pass rfl rfl (by decide) (by dsimp only [aput, List.set]) ?_
                    refine w_pass rfl rfl (by decide) (by dsimp only [aput, List.set]) ?_
                    refine w_op (a := .raw (.bool false)) rfl rfl rfl rfl (by dsimp only [aput, List.set]) ?_
                    refine w_op (a := .raw (.bool false)) rfl rfl rfl rfl (by dsimp only [aput, List.set]) ?_
                    have e100 : (cC p g (kd, a, b)) = false := by simp only [cC, h1, h2, h3, h6, h9, h10, h11, Bool.true_and, Bool.and_true, Bool.false_and, Bool.and_false, Bool.true_or, Bool.or_true, Bool.false_or, Bool.or_false, Bool.not_true, Bool.not_false, cond_true, cond_false, Bool.false_eq_true, Bool.true_eq_false]
                    rw [e100]
                    exact wm_of [true, true, true, true, true, true, true, true, true, true, true, true, true, true, true, true, true, true, true, true, true, true, true, true, true, true, true, true, true, true, true, true, true, true, true, true, true, true, true, true, true, true, true, true, true, true, true, true, true, true, true, true, true, true, true, true, true, true, true, true, true, true, true, true, true, true, true, true, true, true, true, true, true, true, true, true, true, true, true, true, true, true, true, true, true, true, true, true, true, true, true, true, true, true, true, true, true, true, true, true, true, false, false, false, false, false, false, false, false, false, false, true, true, true, true, true, true, true, true, true, true, true, true, true, true, true, true, true, true, true, true, true, true, true, true, true, true, true, true, true, true, true, true, true, true, true, true, true, true, true, true, true, true, true, true, true, true, true, true, true, true, true, true, true, true, true, true, true, true, true, true, true, true, true, true, true, true, true, true, true, true, true, true, true, true, true, true, true, true, true, true, true, true, true, true, true, true, true, true, true, true, true, true, true] (by kernel_rfl) (by kernel_rfl)
                ·
                  refine w_op (a := .raw (.bool false)) rfl rfl rfl rfl (by dsimp only [aput, List.set]) ?_
                  refine w_pass rfl rfl (by decide) (by dsimp only [aput, List.set]) ?_
                  refine w_pass rfl rfl (by decide) (by dsimp only [aput, List.set]) ?_
                  refine w_op (a := .raw (.bool false)) rfl rfl rfl rfl (by dsimp only [aput, List.set]) ?_
                  refine w_op (a := .raw (.bool false)) rfl rfl rfl rfl (by dsimp only [aput, List.set]) ?_
                  refine w_pass rfl rfl (by decide) (by dsimp only [aput, List.set]) ?_
                  refine w_pass rfl rfl (by decide) (by dsimp only [aput, List.set]) ?_
                  refine w_op (a := .raw (.bool false)) rfl rfl rfl rfl (by dsimp only [aput, List.set]) ?_
                  refine w_op (a := .raw (.bool false)) rfl rfl rfl rfl (by dsimp only [aput, List.set]) ?_
                  have e100 : (cC p g (kd, a, b)) = false := by simp only [cC, h1, h2, h3, h6, h9, h10, Bool.true_and, Bool.and_true, Bool.false_and, Bool.and_false, Bool.true_or, Bool.or_true, Bool.false_or, Bool.or_false, Bool.not_true, Bool.not_false, cond_true, cond_false, Bool.false_eq_true, Bool.true_eq_false]
                  rw [e100]
                  exact wm_of [true, true, true, true, true, true, true, true, true, true, true, true, true, true, true, true, true, true, true, true, true, true, true, true, true, true, true, true, true, true, true, true, true, true, true, true, true, true, true, true, true, true, true, true, true, true, true, true, true, true, true, true, true, true, true, true, true, true, true, true, true, true, true, true, true, true, true, true, true, true, true, true, true, true, true, true, true, true, true, true, true, true, true, true, true, true, true, true, true, true, true, true, true, true, true, true, true, true, true, true, true, false, false, false, false, false, false, false, false, false, false, true, true, true, true, true, true, true, true, true, true, true, true, true, true, true, true, true, true, true, true, true, true, true, true, true, true, true, true, true, true, true, true, true, true, true, true, true, true, true, true, true, true, true, true, true, true, true, true, true, true, true, true, true, true, true, true, true, true, true, true, true, true, true, true, true, true, true, true, true, true, true, true, true, true, true, true, true, true, true, true, true, true, true, true, true, true, true, true, true, true, true, true, true] (by kernel_rfl) (by kernel_rfl)
              refine w_start (by dsimp only [setAll, topAll, List.foldl, List.set]) rfl ?_
              refine w_cond rfl (fun h13 => ?_) (fun h13 => ?_)
              ·
                have hp1 : 1 ≤ p.length := by have := h13; simp only [cC, Bool.and_eq_true, decide_eq_true_eq] at this; omega
                rw [pileAV_pos (show 0 < p.length by omega)]
                refine w_seq (w_region ?_)
                refine w_op rfl rfl rfl rfl (by dsimp only [aput, List.set, aval, List.getElem?_cons_zero, List.getElem?_cons_succ, Option.getD]) ?_
                refine w_op rfl rfl rfl rfl (by dsimp only [aput, List.set, aval, List.getElem?_cons_zero, List.getElem?_cons_succ, Option.getD]) ?_
                refine w_op (a := .raw (.int .i64 ((p.length - 1 : Nat) : Int))) rfl rfl rfl (op_q (q_sub rfl rfl rfl (by omega) (by omega) (by omega))) (by dsimp only [aput, List.set]) ?_
                refine w_op rfl rfl rfl rfl (by dsimp only [aput, List.set, aval, List.getElem?_cons_zero, List.getElem?_cons_succ, Option.getD]) ?_
                refine w_op rfl rfl rfl rfl (by dsimp only [aput, List.set, aval, List.getElem?_cons_zero, List.getElem?_cons_succ, Option.getD]) ?_
                refine w_op (a := .raw (.int .i64 ((p.length - 1 : Nat) : Int))) rfl rfl rfl (op_q (q_sub rfl rfl rfl (by omega) (by omega) (by omega))) (by dsimp only [aput, List.set]) ?_
                refine w_op (a := .ptr 1 (0 + (p.length - 1) * 8)) rfl rfl rfl (op_q (q_indexB (n := ((p.length - 1 : Nat) : Int)) rfl rfl rfl rfl rfl ⟨by omega, by omega⟩)) (by dsimp only [aput, List.set]) ?_
                have hgv1 := cellsL_get p (p.length - 1) (by omega)
                rw [← lastT_lt (p := p) (i := 1) (by omega) (by omega)] at hgv1
                obtain ⟨xv1, hxv1⟩ : ∃ xv1, lastT p 1 = xv1 := ⟨_, rfl⟩
                rw [hxv1] at hgv1
                obtain ⟨kv1, sv1, mnv1, mxv1, tsv1⟩ := xv1
                refine w_op rfl rfl rfl (op_q (q_load (a := enc (Tr.mk kv1 sv1 mnv1 mxv1 tsv1)) (.ptr 1 (0 + (p.length - 1) * 8)) rfl rfl (by show rd Try.prog 29 ((cellsL p).drop (0 + _)) = _; rw [Nat.zero_add]; exact hgv1))) (by dsimp only [aput, List.set]) ?_
                refine w_callk (group_mk kv1 sv1 mnv1 mxv1 tsv1) (by simp [cloL, clo, clo_enc]) rfl rfl (by dsimp only [aput, List.set]) ?_
                obtain ⟨xr, hxr⟩ : ∃ xr, Tr.mk 6 0#256 0 0 [(Tr.mk kv1 sv1 mnv1 mxv1 tsv1)] = xr := ⟨_, rfl⟩
                rw [hxr]
                obtain ⟨kr, sr, mnr, mxr, tsr⟩ := xr
                refine w_op (a := .ptr 1 (0 + (p.length - 1) * 8)) rfl rfl rfl (op_q (q_indexB (n := ((p.length - 1 : Nat) : Int)) rfl rfl rfl rfl rfl ⟨by omega, by omega⟩)) (by dsimp only [aput, List.set]) ?_
                refine w_opm rfl rfl rfl (op_store (n := 8) (v := enc (Tr.mk kr sr mnr mxr tsr)) rfl rfl rfl rfl rfl ⟨rfl, rfl, by show 0 + (p.length - 1) * 8 + 8 ≤ _; rw [Nat.zero_add]; exact cellsL_len8 p (p.length - 1) (by omega), by decide⟩) (by dsimp only [aput, List.set]) (show _ = (⟨[(29, [.raw (.int .u8 0), .raw (.int .u64 0), .raw (.int .u64 0), .raw (.int .u64 0), .raw (.int .u64 0), .raw (.int .i64 0), .raw (.int .i64 0), .list 0 [] .full]), (29, cellsL (p.set (p.length - 1) (Tr.mk kr sr mnr mxr tsr))), (53, smc (kd, a, b))], [], [], 0, false⟩ : St) from by rw [← cellsL_set p (p.length - 1) (by omega)]; simp only [List.set, Nat.zero_add, cellsOf_enc]) ?_
                refine w_region (id := 18) ?_
                refine w_op rfl rfl rfl rfl (by dsimp only [aput, List.set, aval, List.getElem?_cons_zero, List.getElem?_cons_succ, Option.getD]) ?_
                refine w_op (a := .raw (.int .i64 (g + 1))) rfl rfl rfl (op_q (q_add rfl rfl rfl rfl (by omega) (by omega))) (by dsimp only [aput, List.set]) ?_
                refine w_op rfl rfl rfl rfl (by dsimp only [aput, List.set, aval, List.getElem?_cons_zero, List.getElem?_cons_succ, Option.getD]) ?_
                refine w_region (id := 27) ?_
                refine w_op rfl rfl rfl (op_q (q_add rfl rfl rfl rfl (by omega) (by omega))) (by dsimp only [aput, List.set]) ?_
                refine w_op rfl rfl rfl rfl (by dsimp only [aput, List.set, aval, List.getElem?_cons_zero, List.getElem?_cons_succ, Option.getD]) ?_
                refine ⟨by omega, trivial, ?_⟩
                try dsimp only
                rw [hnext, show stepM (p, u, g) (kd, a, b) = (p.set (p.length - 1) (Tr.mk kr sr mnr mxr tsr), u, g + 1) from by simp only [stepM, h2, h3, h6, h9, h13, Bool.true_and, Bool.and_true, Bool.false_and, Bool.and_false, Bool.true_or, Bool.or_true, Bool.false_or, Bool.or_false, Bool.not_true, Bool.not_false, cond_true, cond_false, Bool.false_eq_true, Bool.true_eq_false]; rw [hxv1, hxr]]
                dsimp only
                rw [pileAV_pos (n := (p.set (p.length - 1) (Tr.mk kr sr mnr mxr tsr)).length) (by simp; omega), show (p.set (p.length - 1) (Tr.mk kr sr mnr mxr tsr)).length = p.length from by simp]
                exact wm_trim [true, true, true, true, true, true, true, false, false, false, false, false, false, true, true, true, true, true, true, true, true, true, true, false, false, false, false, false, false, false, false, false, false, false, false, false, false, false, false, false, false, false, false, false, false, false, false, false, false, false, false, false, false, false, false, false, false, false, false, false, false, false, false, false, false, false, false, false, false, false, false, false, false, false, false, false, false, false, false, false, false, false, false, false, false, false, false, false, false, false, false, false, false, false, false, false, false, false, false, false, false, false, false, false, false, false, false, false, false, false, false, false, false, false, false, false, false, false, false, false, false, false, false, false, false, false, false, false, false, false, false, false, false, false, false, false, false, false, false, false, false, false, false, false, false, false, false, false, false, false, false, false, false, false, false, false, false, false, false, false, false, false, false, false, false, false, false, false, false, false, false, false, false, false, false, false, false, false, false, false, false, false, false, false, false, true, true, true, true, true, true, true, true, true, true, true, true, true, true, true, true, true, true, true] 2 (by kernel_rfl) (by decide) (by simp [okSt, okTrimL, okTrim, okTrim_cellsL]) (by simp [okTrimL, okTrim, okTrim_smcL, setAll, topAll]) (by kernel_rfl)
              ·
                refine w_cutS 3 [123, 124, 125, 126, 127, 128, 129, 130, 131, 132, 133, 134, 135, 136, 137, 138] [(123, .raw (.bool (cD p (kd, a, b))))] ⟨[(29, [.raw (.int .u8 0), .raw (.int .u64 0), .raw (.int .u64 0), .raw (.int .u64 0), .raw (.int .u64 0), .raw (.int .i64 0), .raw (.int .i64 0), .list 0 [] .full]), (29, cellsL p), (53, smc (kd, a, b))], [], [], 0, false⟩ rfl ?_ ?_
                ·
                  refine w_region (id := 19) ?_
                  refine w_op rfl rfl rfl rfl (by dsimp only [aput, List.set, aval, List.getElem?_cons_zero, List.getElem?_cons_succ, Option.getD]) ?_
                  refine w_opb rfl rfl rfl rfl (by dsimp only [aput, List.set]) (by dsimp only [aput, List.set]) (fun h14 => ?_) (fun h14 => ?_)
                  ·
                    refine w_op (a := .raw (.bool true)) rfl rfl rfl rfl (by dsimp only [aput, List.set]) ?_
                    refine w_met rfl rfl ?_
                    refine w_op rfl rfl rfl rfl (by dsimp only [aput, List.set, aval, List.getElem?_cons_zero, List.getElem?_cons_succ, Option.getD]) ?_
                    refine w_met rfl rfl ?_
                    refine w_opb rfl rfl rfl rfl (by dsimp only [aput, List.set]) (by dsimp only [aput, List.set]) (fun h15 => ?_) (fun h15 => ?_)
                    ·
                      refine w_op (a := .raw (.bool true)) rfl rfl rfl rfl (by dsimp only [aput, List.set]) ?_
                      refine w_op (a := .raw (.bool true)) rfl rfl rfl rfl (by dsimp only [aput, List.set]) ?_
                      refine w_met rfl rfl ?_
                      refine w_op rfl rfl rfl rfl (by dsimp only [aput, List.set, aval, List.getElem?_cons_zero, List.getElem?_cons_succ, Option.getD]) ?_
                      refine w_met rfl rfl ?_
                      refine w_op rfl rfl rfl rfl (by dsimp only [aput, List.set, aval, List.getElem?_cons_zero, List.getElem?_cons_succ, Option.getD]) ?_
                      refine w_met rfl rfl ?_
                      have hp1 : 1 ≤ p.length := by have := h15; simp only [decide_eq_true_eq] at this; omega
                      refine w_op (a := .raw (.int .i64 ((p.length - 1 : Nat) : Int))) rfl rfl rfl (op_q (q_sub rfl rfl rfl (by omega) (by omega) (by omega))) (by dsimp only [aput, List.set]) ?_
                      refine w_met rfl rfl ?_
                      have hgk := cellsL_get p (p.length - 1) (by omega)
                      rw [← lastT_lt (p := p) (i := 1) (by omega) (by omega)] at hgk
                      rw [pileAV_pos (show 0 < p.length by omega)]
                      refine w_op (a := .ptr 1 (0 + (p.length - 1) * 8)) rfl rfl rfl (op_q (q_indexB (n := ((p.length - 1 : Nat) : Int)) rfl rfl rfl rfl rfl ⟨by omega, by omega⟩)) (by dsimp only [aput, List.set]) ?_
                      refine w_met rfl rfl ?_
                      refine w_op (a := .ptr 1 (0 + (p.length - 1) * 8 + 0)) rfl rfl rfl rfl (by dsimp only [aput, List.set]) ?_
                      refine w_met rfl rfl ?_
                      refine w_op (a := .raw (.int .u8 (lastT p 1).k)) rfl rfl rfl (op_load (.ptr 1 (0 + (p.length - 1) * 8 + 0)) rfl rfl (by show rd Try.prog 5 ((cellsL p).drop (0 + _ + 0)) = _; rw [Nat.zero_add, Nat.add_zero]; exact rd_kind hgk)) (by dsimp only [aput, List.set]) ?_
                      refine w_met rfl rfl ?_
                      refine w_opb rfl rfl rfl rfl (by dsimp only [aput, List.set]) (by dsimp only [aput, List.set]) (fun h16 => ?_) (fun h16 => ?_)
                      ·
                        refine w_op (a := .raw (.bool true)) rfl rfl rfl rfl (by dsimp only [aput, List.set]) ?_
                        refine w_op (a := .raw (.bool true)) rfl rfl rfl rfl (by dsimp only [aput, List.set]) ?_
                        have e123 : (cD p (kd, a, b)) = true := by simp only [cD, h1, h2, h3, h6, h9, h13, h14, h15, h16, Bool.true_and, Bool.and_true, Bool.false_and, Bool.and_false, Bool.true_or, Bool.or_true, Bool.false_or, Bool.or_false, Bool.not_true, Bool.not_false, cond_true, cond_false, Bool.false_eq_true, Bool.true_eq_false]
                        rw [e123]
                        exact wm_of [true, true, true, true, true, true, true, true, true, true, true, true, true, true, true, true, true, true, true, true, true, true, true, true, true, true, true, true, true, true, true, true, true, true, true, true, true, true, true, true, true, true, true, true, true, true, true, true, true, true, true, true, true, true, true, true, true, true, true, true, true, true, true, true, true, true, true, true, true, true, true, true, true, true, true, true, true, true, true, true, true, true, true, true, true, true, true, true, true, true, true, true, true, true, true, true, true, true, true, true, true, true, true, true, true, true, true, true, true, true, true, true, true, true, true, true, true, true, true, true, true, true, true, true, false, false, false, false, false, false, false, false, false, false, false, false, false, false, false, true, true, true, true, true, true, true, true, true, true, true, true, true, true, true, true, true, true, true, true, true, true, true, true, true, true, true, true, true, true, true, true, true, true, true, true, true, true, true, true, true, true, true, true, true, true, true, true, true, true, true, true, true, true, true, true, true, true, true, true, true, true, true, true, true] (by kernel_rfl) (by kernel_rfl)
                      ·
                        refine w_op (a := .raw (.bool false)) rfl rfl rfl rfl (by dsimp only [aput, List.set]) ?_
                        refine w_op (a := .raw (.bool false)) rfl rfl rfl rfl (by dsimp only [aput, List.set]) ?_
                        have e123 : (cD p (kd, a, b)) = false := by simp only [cD, h1, h2, h3, h6, h9, h13, h14, h15, h16, Bool.true_and, Bool.and_true, Bool.false_and, Bool.and_false, Bool.true_or, Bool.or_true, Bool.false_or, Bool.or_false, Bool.not_true, Bool.not_false, cond_true, cond_false, Bool.false_eq_true, Bool.true_eq_false]
                        rw [e123]
                        exact wm_of [true, true, true, true, true, true, true, true, true, true, true, true, true, true, true, true, true, true, true, true, true, true, true, true, true, true, true, true, true, true, true, true, true, true, true, true, true, true, true, true, true, true, true, true, true, true, true, true, true, true, true, true, true, true, true, true, true, true, true, true, true, true, true, true, true, true, true, true, true, true, true, true, true, true, true, true, true, true, true, true, true, true, true, true, true, true, true, true, true, true, true, true, true, true, true, true, true, true, true, true, true, true, true, true, true, true, true, true, true, true, true, true, true, true, true, true, true, true, true, true, true, true, true, true, false, false, false, false, false, false, false, false, false, false, false, false, false, false, false, true, true, true, true, true, true, true, true, true, true, true, true, true, true, true, true, true, true, true, true, true, true, true, true, true, true, true, true, true, true, true, true, true, true, true, true, true, true, true, true, true, true, true, true, true, true, true, true, true, true, true, true, true, true, true, true, true, true, true, true, true, true, true, true, true] (by kernel_rfl) (by kernel_rfl)
                    ·
                      refine w_op (a := .raw (.bool false)) rfl rfl rfl rfl (by dsimp only [aput, List.set]) ?_
                      refine w_op (a := .raw (.bool false)) rfl rfl rfl rfl (by dsimp only [aput, List.set]) ?_
                      refine w_pass rfl rfl (by decide) (by dsimp only [aput, List.set]) ?_
                      refine w_pass rfl rfl (by decide) (by dsimp only [aput, List.set]) ?_
                      refine w_pass rfl rfl (by decide) (by dsimp only [aput, List.set]) ?_
                      refine w_pass rfl rfl (by decide) (by dsimp only [aput, List.set]) ?_
                      refine w_pass rfl rfl (by decide) (by dsimp only [aput, List.set]) ?_
                      refine w_pass rfl rfl (by decide) (by dsimp only [aput, List.set]) ?_
                      refine w_pass rfl rfl (by decide) (by dsimp only [aput, List.set]) ?_
                      refine w_op (a := .raw (.bool false)) rfl rfl rfl rfl (by dsimp only [aput, List.set]) ?_
                      refine w_op (a := .raw (.bool false)) rfl rfl rfl rfl (by dsimp only [aput, List.set]) ?_
                      have e123 : (cD p (kd, a, b)) = false := by simp only [cD, h1, h2, h3, h6, h9, h13, h14, h15, Bool.true_and, Bool.and_true, Bool.false_and, Bool.and_false, Bool.true_or, Bool.or_true, Bool.false_or, Bool.or_false, Bool.not_true, Bool.not_false, cond_true, cond_false, Bool.false_eq_true, Bool.true_eq_false]
                      rw [e123]
                      exact wm_of [true, true, true, true, true, true, true, true, true, true, true, true, true, true, true, true, true, true, true, true, true, true, true, true, true, true, true, true, true, true, true, true, true, true, true, true, true, true, true, true, true, true, true, true, true, true, true, true, true, true, true, true, true, true, true, true, true, true, true, true, true, true, true, true, true, true, true, true, true, true, true, true, true, true, true, true, true, true, true, true, true, true, true, true, true, true, true, true, true, true, true, true, true, true, true, true, true, true, true, true, true, true, true, true, true, true, true, true, true, true, true, true, true, true, true, true, true, true, true, true, true, true, true, true, false, false, false, false, false, false, false, false, false, false, false, false, false, false, false, true, true, true, true, true, true, true, true, true, true, true, true, true, true, true, true, true, true, true, true, true, true, true, true, true, true, true, true, true, true, true, true, true, true, true, true, true, true, true, true, true, true, true, true, true, true, true, true, true, true, true, true, true, true, true, true, true, true, true, true, true, true, true, true, true] (by kernel_rfl) (by kernel_rfl)
                  ·
                    refine w_op (a := .raw (.bool false)) rfl rfl rfl rfl (by dsimp only [aput, List.set]) ?_
                    refine w_pass rfl rfl (by decide) (by dsimp only [aput, List.set]) ?_
                    refine w_pass rfl rfl (by decide) (by dsimp only [aput, List.set]) ?_
                    refine w_op (a := .raw (.bool false)) rfl rfl rfl rfl (by dsimp only [aput, List.set]) ?_
                    refine w_op (a := .raw (.bool false)) rfl rfl rfl rfl (by dsimp only [aput, List.set]) ?_
                    refine w_pass rfl rfl (by decide) (by dsimp only [aput, List.set]) ?_
                    refine w_pass rfl rfl (by decide) (by dsimp only [aput, List.set]) ?_
                    refine w_pass rfl rfl (by decide) (by dsimp only [aput, List.set]) ?_
                    refine w_pass rfl rfl (by decide) (by dsimp only [aput, List.set]) ?_
                    refine w_pass rfl rfl (by decide) (by dsimp only [aput, List.set]) ?_
                    refine w_pass rfl rfl (by decide) (by dsimp only [aput, List.set]) ?_
                    refine w_pass rfl rfl (by decide) (by dsimp only [aput, List.set]) ?_
                    refine w_op (a := .raw (.bool false)) rfl rfl rfl rfl (by dsimp only [aput, List.set]) ?_
                    refine w_op (a := .raw (.bool false)) rfl rfl rfl rfl (by dsimp only [aput, List.set]) ?_
                    have e123 : (cD p (kd, a, b)) = false := by simp only [cD, h1, h2, h3, h6, h9, h13, h14, Bool.true_and, Bool.and_true, Bool.false_and, Bool.and_false, Bool.true_or, Bool.or_true, Bool.false_or, Bool.or_false, Bool.not_true, Bool.not_false, cond_true, cond_false, Bool.false_eq_true, Bool.true_eq_false]
                    rw [e123]
                    exact wm_of [true, true, true, true, true, true, true, true, true, true, true, true, true, true, true, true, true, true, true, true, true, true, true, true, true, true, true, true, true, true, true, true, true, true, true, true, true, true, true, true, true, true, true, true, true, true, true, true, true, true, true, true, true, true, true, true, true, true, true, true, true, true, true, true, true, true, true, true, true, true, true, true, true, true, true, true, true, true, true, true, true, true, true, true, true, true, true, true, true, true, true, true, true, true, true, true, true, true, true, true, true, true, true, true, true, true, true, true, true, true, true, true, true, true, true, true, true, true, true, true, true, true, true, true, false, false, false, false, false, false, false, false, false, false, false, false, false, false, false, true, true, true, true, true, true, true, true, true, true, true, true, true, true, true, true, true, true, true, true, true, true, true, true, true, true, true, true, true, true, true, true, true, true, true, true, true, true, true, true, true, true, true, true, true, true, true, true, true, true, true, true, true, true, true, true, true, true, true, true, true, true, true, true, true] (by kernel_rfl) (by kernel_rfl)
                refine w_start (by dsimp only [setAll, topAll, List.foldl, List.set]) rfl ?_
                refine w_cond rfl (fun h17 => ?_) (fun h17 => ?_)
                ·
                  have hp1 : 1 ≤ p.length := by have := h17; simp only [cD, Bool.and_eq_true, decide_eq_true_eq] at this; omega
                  rw [pileAV_pos (show 0 < p.length by omega)]
                  have hm1 : 1 ≤ u * tmM (kd, a, b) := by have := Int.mul_le_mul hq4 (tmM_le (kd, a, b)).1 (by omega) (by omega); omega
                  have hm2 : u * tmM (kd, a, b) ≤ 48 := by have := Int.mul_le_mul hq5 (tmM_le (kd, a, b)).2 (by have := (tmM_le (kd, a, b)).1; omega) (by omega); omega
                  refine w_seq ?_
                  refine w_draw (id := 20) 10 (by kernel_rfl) (by kernel_rfl) ?_
                  refine h_op (a := .ptr 2 1) rfl rfl rfl rfl (by dsimp only [aput, List.set]) ?_
                  refine h_op (a := .raw (.int .u8 a)) rfl rfl rfl rfl (by dsimp only [aput, List.set]) ?_
                  refine h_op (a := .raw (.int .u8 ((a % 3 : Nat) : Int))) rfl rfl rfl (q_rem (b := 3) rfl rfl rfl rfl (by decide)) (by dsimp only [aput, List.set]) ?_
                  refine h_op (a := .raw (.int .i64 (loM (kd, a, b)))) rfl rfl rfl (q_conv (a := a % 3) rfl rfl (by omega)) (by dsimp only [aput, List.set]) ?_
                  refine h_op (a := .ptr 2 2) rfl rfl rfl rfl (by dsimp only [aput, List.set]) ?_
                  refine h_op (a := .raw (.int .u8 b)) rfl rfl rfl rfl (by dsimp only [aput, List.set]) ?_
                  refine h_op (a := .raw (.int .u8 ((b % 4 : Nat) : Int))) rfl rfl rfl (q_rem (b := 4) rfl rfl rfl rfl (by decide)) (by dsimp only [aput, List.set]) ?_
                  refine h_op (a := .raw (.int .i64 (m4 (kd, a, b)))) rfl rfl rfl (q_conv (a := b % 4) rfl rfl (by omega)) (by dsimp only [aput, List.set]) ?_
                  refine h_op rfl rfl rfl rfl (by dsimp only [aput, List.set, aval, List.getElem?_cons_zero, List.getElem?_cons_succ, Option.getD]) ?_
                  refine h_op rfl rfl rfl rfl (by dsimp only [aput, List.set, aval, List.getElem?_cons_zero, List.getElem?_cons_succ, Option.getD]) ?_
                  refine h_end ?_
                  refine w_cutS 3 [11, 147, 148, 149, 150, 151, 152, 153, 154, 155, 156, 157, 158, 159, 160, 161] [(11, .raw (.int .i64 (moM (kd, a, b))))] ⟨[(29, [.raw (.int .u8 0), .raw (.int .u64 0), .raw (.int .u64 0), .raw (.int .u64 0), .raw (.int .u64 0), .raw (.int .i64 0), .raw (.int .i64 0), .list 0 [] .full]), (29, cellsL p), (53, smc (kd, a, b))], [], [], 0, false⟩ rfl ?_ ?_
                  ·
                    refine w_seq (w_region ?_)
                    refine w_op rfl rfl rfl rfl (by dsimp only [aput, List.set, aval, List.getElem?_cons_zero, List.getElem?_cons_succ, Option.getD]) ?_
                    refine w_op rfl rfl rfl rfl (by dsimp only [aput, List.set, aval, List.getElem?_cons_zero, List.getElem?_cons_succ, Option.getD]) ?_
                    refine w_opb rfl rfl rfl rfl (by dsimp only [aput, List.set]) (by dsimp only [aput, List.set]) (fun h18 => ?_) (fun h18 => ?_)
                    ·
                      refine w_op (a := .raw (.bool true)) rfl rfl rfl rfl (by dsimp only [aput, List.set]) ?_
                      refine w_pass rfl rfl (by decide) (by dsimp only [aput, List.set]) ?_
                      refine w_pass rfl rfl (by decide) (by dsimp only [aput, List.set]) ?_
                      refine w_op (a := .raw (.bool true)) rfl rfl rfl rfl (by dsimp only [aput, List.set]) ?_
                      refine w_op (a := .raw (.bool true)) rfl rfl rfl rfl (by dsimp only [aput, List.set]) ?_
                      refine w_pass rfl rfl (by decide) (by dsimp only [aput, List.set]) ?_
                      refine w_pass rfl rfl (by decide) (by dsimp only [aput, List.set]) ?_
                      refine w_pass rfl rfl (by decide) (by dsimp only [aput, List.set]) ?_
                      refine w_pass rfl rfl (by decide) (by dsimp only [aput, List.set]) ?_
                      refine w_pass rfl rfl (by decide) (by dsimp only [aput, List.set]) ?_
                      refine w_pass rfl rfl (by decide) (by dsimp only [aput, List.set]) ?_
                      refine w_op (a := .raw (.bool true)) rfl rfl rfl rfl (by dsimp only [aput, List.set]) ?_
                      refine w_true rfl ?_
                      refine w_region (id := 22) ?_
                      refine w_op (a := .raw (.int .i64 (-1))) rfl rfl rfl rfl (by dsimp only [aput, List.set, aval, List.getElem?_cons_zero, List.getElem?_cons_succ, Option.getD]) ?_
                      rw [show moM (kd, a, b) = -1 from by simp only [moM, badM, h1, h2, h3, h6, h9, h13, h17, h18, Bool.true_and, Bool.and_true, Bool.false_and, Bool.and_false, Bool.true_or, Bool.or_true, Bool.false_or, Bool.or_false, Bool.not_true, Bool.not_false, cond_true, cond_false, Bool.false_eq_true, Bool.true_eq_false]]
                      exact wm_of [true, true, true, true, true, true, true, true, true, true, true, true, true, true, true, true, true, true, true, true, true, true, true, true, true, true, true, true, true, true, true, true, true, true, true, true, true, true, true, true, true, true, true, true, true, true, true, true, true, true, true, true, true, true, true, true, true, true, true, true, true, true, true, true, true, true, true, true, true, true, true, true, true, true, true, true, true, true, true, true, true, true, true, true, true, true, true, true, true, true, true, true, true, true, true, true, true, true, true, true, true, true, true, true, true, true, true, true, true, true, true, true, true, true, true, true, true, true, true, true, true, true, true, true, true, true, true, true, true, true, true, true, true, true, true, true, true, true, true, true, true, true, true, true, true, true, true, false, false, false, false, false, false, false, false, false, false, false, false, false, false, false, true, true, true, true, true, true, true, true, true, true, true, true, true, true, true, true, true, true, true, true, true, true, true, true, true, true, true, true, true, true, true, true, true, true, true, true, true, true, true, true, true, true] (by kernel_rfl) (by kernel_rfl)
                    ·
                      refine w_op (a := .raw (.bool false)) rfl rfl rfl rfl (by dsimp only [aput, List.set]) ?_
                      refine w_met rfl rfl ?_
                      refine w_op rfl rfl rfl rfl (by dsimp only [aput, List.set, aval, List.getElem?_cons_zero, List.getElem?_cons_succ, Option.getD]) ?_
                      refine w_met rfl rfl ?_
                      refine w_opb rfl rfl rfl rfl (by dsimp only [aput, List.set]) (by dsimp only [aput, List.set]) (fun h19 => ?_) (fun h19 => ?_)
                      ·
                        refine w_op (a := .raw (.bool true)) rfl rfl rfl rfl (by dsimp only [aput, List.set]) ?_
                        refine w_op (a := .raw (.bool true)) rfl rfl rfl rfl (by dsimp only [aput, List.set]) ?_
                        refine w_pass rfl rfl (by decide) (by dsimp only [aput, List.set]) ?_
                        refine w_pass rfl rfl (by decide) (by dsimp only [aput, List.set]) ?_
                        refine w_pass rfl rfl (by decide) (by dsimp only [aput, List.set]) ?_
                        refine w_pass rfl rfl (by decide) (by dsimp only [aput, List.set]) ?_
                        refine w_pass rfl rfl (by decide) (by dsimp only [aput, List.set]) ?_
                        refine w_pass rfl rfl (by decide) (by dsimp only [aput, List.set]) ?_
                        refine w_op (a := .raw (.bool true)) rfl rfl rfl rfl (by dsimp only [aput, List.set]) ?_
                        refine w_true rfl ?_
                        refine w_region (id := 22) ?_
                        refine w_op (a := .raw (.int .i64 (-1))) rfl rfl rfl rfl (by dsimp only [aput, List.set, aval, List.getElem?_cons_zero, List.getElem?_cons_succ, Option.getD]) ?_
                        rw [show moM (kd, a, b) = -1 from by simp only [moM, badM, h1, h2, h3, h6, h9, h13, h17, h18, h19, Bool.true_and, Bool.and_true, Bool.false_and, Bool.and_false, Bool.true_or, Bool.or_true, Bool.false_or, Bool.or_false, Bool.not_true, Bool.not_false, cond_true, cond_false, Bool.false_eq_true, Bool.true_eq_false]]
                        exact wm_of [true, true, true, true, true, true, true, true, true, true, true, true, true, true, true, true, true, true, true, true, true, true, true, true, true, true, true, true, true, true, true, true, true, true, true, true, true, true, true, true, true, true, true, true, true, true, true, true, true, true, true, true, true, true, true, true, true, true, true, true, true, true, true, true, true, true, true, true, true, true, true, true, true, true, true, true, true, true, true, true, true, true, true, true, true, true, true, true, true, true, true, true, true, true, true, true, true, true, true, true, true, true, true, true, true, true, true, true, true, true, true, true, true, true, true, true, true, true, true, true, true, true, true, true, true, true, true, true, true, true, true, true, true, true, true, true, true, true, true, true, true, true, true, true, true, true, true, false, false, false, false, false, false, false, false, false, false, false, false, false, false, false, true, true, true, true, true, true, true, true, true, true, true, true, true, true, true, true, true, true, true, true, true, true, true, true, true, true, true, true, true, true, true, true, true, true, true, true, true, true, true, true, true, true] (by kernel_rfl) (by kernel_rfl)
                      ·
                        refine w_op (a := .raw (.bool false)) rfl rfl rfl rfl (by dsimp only [aput, List.set]) ?_
                        refine w_op (a := .raw (.bool false)) rfl rfl rfl rfl (by dsimp only [aput, List.set]) ?_
                        refine w_met rfl rfl ?_
                        refine w_op rfl rfl rfl rfl (by dsimp only [aput, List.set, aval, List.getElem?_cons_zero, List.getElem?_cons_succ, Option.getD]) ?_
                        refine w_met rfl rfl ?_
                        refine w_opb rfl rfl rfl rfl (by dsimp only [aput, List.set]) (by dsimp only [aput, List.set]) (fun h20 => ?_) (fun h20 => ?_)
                        ·
                          refine w_met rfl rfl ?_
                          refine w_op (a := .raw (.bool true)) rfl rfl rfl rfl (by dsimp only [aput, List.set]) ?_
                          refine w_met rfl rfl ?_
                          refine w_op rfl rfl rfl rfl (by dsimp only [aput, List.set, aval, List.getElem?_cons_zero, List.getElem?_cons_succ, Option.getD]) ?_
                          refine w_met rfl rfl ?_
                          refine w_opb rfl rfl rfl rfl (by dsimp only [aput, List.set]) (by dsimp only [aput, List.set]) (fun h21 => ?_) (fun h21 => ?_)
                          ·
                            refine w_met rfl rfl ?_
                            refine w_op (a := .raw (.bool true)) rfl rfl rfl rfl (by dsimp only [aput, List.set]) ?_
                            refine w_op (a := .raw (.bool true)) rfl rfl rfl rfl (by dsimp only [aput, List.set]) ?_
                            refine w_true rfl ?_
                            refine w_region (id := 22) ?_
                            refine w_op (a := .raw (.int .i64 (-1))) rfl rfl rfl rfl (by dsimp only [aput, List.set, aval, List.getElem?_cons_zero, List.getElem?_cons_succ, Option.getD]) ?_
                            rw [show moM (kd, a, b) = -1 from by simp only [moM, badM, h1, h2, h3, h6, h9, h13, h17, h18, h19, h20, h21, Bool.true_and, Bool.and_true, Bool.false_and, Bool.and_false, Bool.true_or, Bool.or_true, Bool.false_or, Bool.or_false, Bool.not_true, Bool.not_false, cond_true, cond_false, Bool.false_eq_true, Bool.true_eq_false]]
                            exact wm_of [true, true, true, true, true, true, true, true, true, true, true, true, true, true, true, true, true, true, true, true, true, true, true, true, true, true, true, true, true, true, true, true, true, true, true, true, true, true, true, true, true, true, true, true, true, true, true, true, true, true, true, true, true, true, true, true, true, true, true, true, true, true, true, true, true, true, true, true, true, true, true, true, true, true, true, true, true, true, true, true, true, true, true, true, true, true, true, true, true, true, true, true, true, true, true, true, true, true, true, true, true, true, true, true, true, true, true, true, true, true, true, true, true, true, true, true, true, true, true, true, true, true, true, true, true, true, true, true, true, true, true, true, true, true, true, true, true, true, true, true, true, true, true, true, true, true, true, false, false, false, false, false, false, false, false, false, false, false, false, false, false, false, true, true, true, true, true, true, true, true, true, true, true, true, true, true, true, true, true, true, true, true, true, true, true, true, true, true, true, true, true, true, true, true, true, true, true, true, true, true, true, true, true, true] (by kernel_rfl) (by kernel_rfl)
                          ·
                            refine w_met rfl rfl ?_
                            refine w_op (a := .raw (.bool false)) rfl rfl rfl rfl (by dsimp only [aput, List.set]) ?_
                            refine w_op (a := .raw (.bool false)) rfl rfl rfl rfl (by dsimp only [aput, List.set]) ?_
                            refine w_false rfl ?_
                            rw [show moM (kd, a, b) = m4 (kd, a, b) from by simp only [moM, badM, h1, h2, h3, h6, h9, h13, h17, h18, h19, h20, h21, Bool.true_and, Bool.and_true, Bool.false_and, Bool.and_false, Bool.true_or, Bool.or_true, Bool.false_or, Bool.or_false, Bool.not_true, Bool.not_false, cond_true, cond_false, Bool.false_eq_true, Bool.true_eq_false]]
                            exact wm_of [true, true, true, true, true, true, true, true, true, true, true, true, true, true, true, true, true, true, true, true, true, true, true, true, true, true, true, true, true, true, true, true, true, true, true, true, true, true, true, true, true, true, true, true, true, true, true, true, true, true, true, true, true, true, true, true, true, true, true, true, true, true, true, true, true, true, true, true, true, true, true, true, true, true, true, true, true, true, true, true, true, true, true, true, true, true, true, true, true, true, true, true, true, true, true, true, true, true, true, true, true, true, true, true, true, true, true, true, true, true, true, true, true, true, true, true, true, true, true, true, true, true, true, true, true, true, true, true, true, true, true, true, true, true, true, true, true, true, true, true, true, true, true, true, true, true, true, false, false, false, false, false, false, false, false, false, false, false, false, false, false, false, true, true, true, true, true, true, true, true, true, true, true, true, true, true, true, true, true, true, true, true, true, true, true, true, true, true, true, true, true, true, true, true, true, true, true, true, true, true, true, true, true, true] (by kernel_rfl) (by kernel_rfl)
                        ·
                          refine w_met rfl rfl ?_
                          refine w_op (a := .raw (.bool false)) rfl rfl rfl rfl (by dsimp only [aput, List.set]) ?_
                          refine w_pass rfl rfl (by decide) (by dsimp only [aput, List.set]) ?_
                          refine w_pass rfl rfl (by decide) (by dsimp only [aput, List.set]) ?_
                          refine w_met rfl rfl ?_
                          refine w_op (a := .raw (.bool false)) rfl rfl rfl rfl (by dsimp only [aput, List.set]) ?_
                          refine w_op (a := .raw (.bool false)) rfl rfl rfl rfl (by dsimp only [aput, List.set]) ?_
                          refine w_false rfl ?_
                          rw [show moM (kd, a, b) = m4 (kd, a, b) from by simp only [moM, badM, h1, h2, h3, h6, h9, h13, h17, h18, h19, h20, Bool.true_and, Bool.and_true, Bool.false_and, Bool.and_false, Bool.true_or, Bool.or_true, Bool.false_or, Bool.or_false, Bool.not_true, Bool.not_false, cond_true, cond_false, Bool.false_eq_true, Bool.true_eq_false]]
                          exact wm_of [true, true, true, true, true, true, true, true, true, true, true, true, true, true, true, true, true, true, true, true, true, true, true, true, true, true, true, true, true, true, true, true, true, true, true, true, true, true, true, true, true, true, true, true, true, true, true, true, true, true, true, true, true, true, true, true, true, true, true, true, true, true, true, true, true, true, true, true, true, true, true, true, true, true, true, true, true, true, true, true, true, true, true, true, true, true, true, true, true, true, true, true, true, true, true, true, true, true, true, true, true, true, true, true, true, true, true, true, true, true, true, true, true, true, true, true, true, true, true, true, true, true, true, true, true, true, true, true, true, true, true, true, true, true, true, true, true, true, true, true, true, true, true, true, true, true, true, false, false, false, false, false, false, false, false, false, false, false, false, false, false, false, true, true, true, true, true, true, true, true, true, true, true, true, true, true, true, true, true, true, true, true, true, true, true, true, true, true, true, true, true, true, true, true, true, true, true, true, true, true, true, true, true, true] (by kernel_rfl) (by kernel_rfl)
                  refine w_start (by dsimp only [setAll, topAll, List.foldl, List.set]) rfl ?_
                  refine w_seq (w_region ?_)
                  refine w_op rfl rfl rfl rfl (by dsimp only [aput, List.set, aval, List.getElem?_cons_zero, List.getElem?_cons_succ, Option.getD]) ?_
                  refine w_op rfl rfl rfl rfl (by dsimp only [aput, List.set, aval, List.getElem?_cons_zero, List.getElem?_cons_succ, Option.getD]) ?_
                  refine w_op (a := .raw (.int .i64 (tmM (kd, a, b)))) rfl rfl rfl (op_q (q_max3 rfl rfl rfl rfl rfl rfl)) (by dsimp only [aput, List.set]) ?_
                  refine w_op rfl rfl rfl rfl (by dsimp only [aput, List.set, aval, List.getElem?_cons_zero, List.getElem?_cons_succ, Option.getD]) ?_
                  refine w_seq (w_region ?_)
                  refine w_op rfl rfl rfl rfl (by dsimp only [aput, List.set, aval, List.getElem?_cons_zero, List.getElem?_cons_succ, Option.getD]) ?_
                  refine w_op rfl rfl rfl rfl (by dsimp only [aput, List.set, aval, List.getElem?_cons_zero, List.getElem?_cons_succ, Option.getD]) ?_
                  refine w_op (a := .raw (.int .i64 (u * tmM (kd, a, b)))) rfl rfl rfl (op_q (q_mul rfl rfl rfl rfl (by omega) (by omega))) (by dsimp only [aput, List.set]) ?_
                  refine w_opb rfl rfl rfl rfl (by dsimp only [aput, List.set]) (by dsimp only [aput, List.set]) (fun h22 => ?_) (fun h22 => ?_)
                  ·
                    refine w_true rfl ?_
                    refine w_seq (w_region ?_)
                    refine w_op rfl rfl rfl rfl (by dsimp only [aput, List.set, aval, List.getElem?_cons_zero, List.getElem?_cons_succ, Option.getD]) ?_
                    refine w_op rfl rfl rfl rfl (by dsimp only [aput, List.set, aval, List.getElem?_cons_zero, List.getElem?_cons_succ, Option.getD]) ?_
                    refine w_op (a := .raw (.int .i64 (u * tmM (kd, a, b)))) rfl rfl rfl (op_q (q_mul rfl rfl rfl rfl (by omega) (by omega))) (by dsimp only [aput, List.set]) ?_
                    refine w_op rfl rfl rfl rfl (by dsimp only [aput, List.set, aval, List.getElem?_cons_zero, List.getElem?_cons_succ, Option.getD]) ?_
                    refine w_region (id := 26) ?_
                    refine w_op rfl rfl rfl rfl (by dsimp only [aput, List.set, aval, List.getElem?_cons_zero, List.getElem?_cons_succ, Option.getD]) ?_
                    refine w_op rfl rfl rfl rfl (by dsimp only [aput, List.set, aval, List.getElem?_cons_zero, List.getElem?_cons_succ, Option.getD]) ?_
                    refine w_op (a := .raw (.int .i64 ((p.length - 1 : Nat) : Int))) rfl rfl rfl (op_q (q_sub rfl rfl rfl (by omega) (by omega) (by omega))) (by dsimp only [aput, List.set]) ?_
                    refine w_op rfl rfl rfl rfl (by dsimp only [aput, List.set, aval, List.getElem?_cons_zero, List.getElem?_cons_succ, Option.getD]) ?_
                    refine w_op rfl rfl rfl rfl (by dsimp only [aput, List.set, aval, List.getElem?_cons_zero, List.getElem?_cons_succ, Option.getD]) ?_
                    refine w_op (a := .raw (.int .i64 ((p.length - 1 : Nat) : Int))) rfl rfl rfl (op_q (q_sub rfl rfl rfl (by omega) (by omega) (by omega))) (by dsimp only [aput, List.set]) ?_
                    refine w_op (a := .ptr 1 (0 + (p.length - 1) * 8)) rfl rfl rfl (op_q (q_indexB (n := ((p.length - 1 : Nat) : Int)) rfl rfl rfl rfl rfl ⟨by omega, by omega⟩)) (by dsimp only [aput, List.set]) ?_
                    have hgv1 := cellsL_get p (p.length - 1) (by omega)
                    rw [← lastT_lt (p := p) (i := 1) (by omega) (by omega)] at hgv1
                    obtain ⟨xv1, hxv1⟩ : ∃ xv1, lastT p 1 = xv1 := ⟨_, rfl⟩
                    rw [hxv1] at hgv1
                    obtain ⟨kv1, sv1, mnv1, mxv1, tsv1⟩ := xv1
                    refine w_op rfl rfl rfl (op_q (q_load (a := enc (Tr.mk kv1 sv1 mnv1 mxv1 tsv1)) (.ptr 1 (0 + (p.length - 1) * 8)) rfl rfl (by show rd Try.prog 29 ((cellsL p).drop (0 + _)) = _; rw [Nat.zero_add]; exact hgv1))) (by dsimp only [aput, List.set]) ?_
                    refine w_op rfl rfl rfl rfl (by dsimp only [aput, List.set, aval, List.getElem?_cons_zero, List.getElem?_cons_succ, Option.getD]) ?_
                    refine w_op rfl rfl rfl rfl (by dsimp only [aput, List.set, aval, List.getElem?_cons_zero, List.getElem?_cons_succ, Option.getD]) ?_
                    refine w_callk (rep_mk kv1 sv1 mnv1 mxv1 tsv1 (loM (kd, a, b)) (moM (kd, a, b))) (by simp [cloL, clo, clo_enc]) rfl rfl (by dsimp only [aput, List.set]) ?_
                    obtain ⟨xr, hxr⟩ : ∃ xr, Tr.mk 5 0#256 (loM (kd, a, b)) (moM (kd, a, b)) [(Tr.mk kv1 sv1 mnv1 mxv1 tsv1)] = xr := ⟨_, rfl⟩
                    rw [hxr]
                    obtain ⟨kr, sr, mnr, mxr, tsr⟩ := xr
                    refine w_op (a := .ptr 1 (0 + (p.length - 1) * 8)) rfl rfl rfl (op_q (q_indexB (n := ((p.length - 1 : Nat) : Int)) rfl rfl rfl rfl rfl ⟨by omega, by omega⟩)) (by dsimp only [aput, List.set]) ?_
                    refine w_opm rfl rfl rfl (op_store (n := 8) (v := enc (Tr.mk kr sr mnr mxr tsr)) rfl rfl rfl rfl rfl ⟨rfl, rfl, by show 0 + (p.length - 1) * 8 + 8 ≤ _; rw [Nat.zero_add]; exact cellsL_len8 p (p.length - 1) (by omega), by decide⟩) (by dsimp only [aput, List.set]) (show _ = (⟨[(29, [.raw (.int .u8 0), .raw (.int .u64 0), .raw (.int .u64 0), .raw (.int .u64 0), .raw (.int .u64 0), .raw (.int .i64 0), .raw (.int .i64 0), .list 0 [] .full]), (29, cellsL (p.set (p.length - 1) (Tr.mk kr sr mnr mxr tsr))), (53, smc (kd, a, b))], [], [], 0, false⟩ : St) from by rw [← cellsL_set p (p.length - 1) (by omega)]; simp only [List.set, Nat.zero_add, cellsOf_enc]) ?_
                    refine w_region (id := 27) ?_
                    refine w_op rfl rfl rfl (op_q (q_add rfl rfl rfl rfl (by omega) (by omega))) (by dsimp only [aput, List.set]) ?_
                    refine w_op rfl rfl rfl rfl (by dsimp only [aput, List.set, aval, List.getElem?_cons_zero, List.getElem?_cons_succ, Option.getD]) ?_
                    refine ⟨by omega, trivial, ?_⟩
                    try dsimp only
                    rw [hnext, show stepM (p, u, g) (kd, a, b) = (p.set (p.length - 1) (Tr.mk kr sr mnr mxr tsr), u * tmM (kd, a, b), g) from by simp only [stepM, h2, h3, h6, h9, h13, h17, h22, Bool.true_and, Bool.and_true, Bool.false_and, Bool.and_false, Bool.true_or, Bool.or_true, Bool.false_or, Bool.or_false, Bool.not_true, Bool.not_false, cond_true, cond_false, Bool.false_eq_true, Bool.true_eq_false]; rw [hxv1, hxr]]
                    dsimp only
                    rw [pileAV_pos (n := (p.set (p.length - 1) (Tr.mk kr sr mnr mxr tsr)).length) (by simp; omega), show (p.set (p.length - 1) (Tr.mk kr sr mnr mxr tsr)).length = p.length from by simp]
                    exact wm_trim [true, true, true, true, true, true, true, false, false, false, false, false, false, true, true, true, true, true, true, true, true, true, true, false, false, false, false, false, false, false, false, false, false, false, false, false, false, false, false, false, false, false, false, false, false, false, false, false, false, false, false, false, false, false, false, false, false, false, false, false, false, false, false, false, false, false, false, false, false, false, false, false, false, false, false, false, false, false, false, false, false, false, false, false, false, false, false, false, false, false, false, false, false, false, false, false, false, false, false, false, false, false, false, false, false, false, false, false, false, false, false, false, false, false, false, false, false, false, false, false, false, false, false, false, false, false, false, false, false, false, false, false, false, false, false, false, false, false, false, false, false, false, false, false, false, false, false, false, false, false, false, false, false, false, false, false, false, false, false, false, false, false, false, false, false, false, false, false, false, false, false, false, false, false, false, false, false, false, false, false, false, false, false, false, false, true, true, true, true, true, true, true, true, true, true, true, true, true, true, true, true, true, true, true] 2 (by kernel_rfl) (by decide) (by simp [okSt, okTrimL, okTrim, okTrim_cellsL]) (by simp [okTrimL, okTrim, okTrim_smcL, setAll, topAll]) (by kernel_rfl)
                  ·
                    refine w_false rfl ?_
                    refine w_region (id := 27) ?_
                    refine w_op rfl rfl rfl (op_q (q_add rfl rfl rfl rfl (by omega) (by omega))) (by dsimp only [aput, List.set]) ?_
                    refine w_op rfl rfl rfl rfl (by dsimp only [aput, List.set, aval, List.getElem?_cons_zero, List.getElem?_cons_succ, Option.getD]) ?_
                    refine ⟨by omega, trivial, ?_⟩
                    try dsimp only
                    rw [hnext, show stepM (p, u, g) (kd, a, b) = (p, u, g) from by simp only [stepM, h2, h3, h6, h9, h13, h17, h22, Bool.true_and, Bool.and_true, Bool.false_and, Bool.and_false, Bool.true_or, Bool.or_true, Bool.false_or, Bool.or_false, Bool.not_true, Bool.not_false, cond_true, cond_false, Bool.false_eq_true, Bool.true_eq_false]]
                    dsimp only
                    rw [pileAV_pos (n := p.length) (by omega)]
                    exact wm_trim [true, true, true, true, true, true, true, false, false, false, false, false, false, true, true, true, true, true, true, true, true, true, true, false, false, false, false, false, false, false, false, false, false, false, false, false, false, false, false, false, false, false, false, false, false, false, false, false, false, false, false, false, false, false, false, false, false, false, false, false, false, false, false, false, false, false, false, false, false, false, false, false, false, false, false, false, false, false, false, false, false, false, false, false, false, false, false, false, false, false, false, false, false, false, false, false, false, false, false, false, false, false, false, false, false, false, false, false, false, false, false, false, false, false, false, false, false, false, false, false, false, false, false, false, false, false, false, false, false, false, false, false, false, false, false, false, false, false, false, false, false, false, false, false, false, false, false, false, false, false, false, false, false, false, false, false, false, false, false, false, false, false, false, false, false, false, false, false, false, false, false, false, false, false, false, false, false, false, false, false, false, false, false, false, false, true, true, true, true, true, true, true, true, true, true, true, true, true, true, true, true, true, true, true] 2 (by kernel_rfl) (by decide) (by simp [okSt, okTrimL, okTrim, okTrim_cellsL]) (by simp [okTrimL, okTrim, okTrim_smcL, setAll, topAll]) (by kernel_rfl)
                ·
                  refine w_region (id := 27) ?_
                  refine w_op rfl rfl rfl (op_q (q_add rfl rfl rfl rfl (by omega) (by omega))) (by dsimp only [aput, List.set]) ?_
                  refine w_op rfl rfl rfl rfl (by dsimp only [aput, List.set, aval, List.getElem?_cons_zero, List.getElem?_cons_succ, Option.getD]) ?_
                  refine ⟨by omega, trivial, ?_⟩
                  try dsimp only
                  rw [hnext, show stepM (p, u, g) (kd, a, b) = (p, u, g) from by simp only [stepM, h2, h3, h6, h9, h13, h17, Bool.true_and, Bool.and_true, Bool.false_and, Bool.and_false, Bool.true_or, Bool.or_true, Bool.false_or, Bool.or_false, Bool.not_true, Bool.not_false, cond_true, cond_false, Bool.false_eq_true, Bool.true_eq_false]]
                  dsimp only
                  exact wm_trim [true, true, true, true, true, true, true, false, false, false, false, false, false, true, true, true, true, true, true, true, true, true, true, false, false, false, false, false, false, false, false, false, false, false, false, false, false, false, false, false, false, false, false, false, false, false, false, false, false, false, false, false, false, false, false, false, false, false, false, false, false, false, false, false, false, false, false, false, false, false, false, false, false, false, false, false, false, false, false, false, false, false, false, false, false, false, false, false, false, false, false, false, false, false, false, false, false, false, false, false, false, false, false, false, false, false, false, false, false, false, false, false, false, false, false, false, false, false, false, false, false, false, false, false, false, false, false, false, false, false, false, false, false, false, false, false, false, false, false, false, false, false, false, false, false, false, false, false, false, false, false, false, false, false, false, false, false, false, false, false, false, false, false, false, false, false, false, false, false, false, false, false, false, false, false, false, false, false, false, false, false, false, false, false, false, true, true, true, true, true, true, true, true, true, true, true, true, true, true, true, true, true, true, true] 2 (by kernel_rfl) (by decide) (by simp [okSt, okTrimL, okTrim, okTrim_cellsL]) (by simp [okTrimL, okTrim, okTrim_smcL, okTrim_pile, setAll, topAll]) (by kernel_rfl)
    ·
      refine w_seq ?_
      refine w_false rfl ?_
      refine w_seq ?_
      refine w_seq (w_region ?_)
      refine w_op rfl rfl rfl rfl (by dsimp only [aput, List.set, aval, List.getElem?_cons_zero, List.getElem?_cons_succ, Option.getD]) ?_
      refine w_op (a := .raw (.int .i64 p.length)) rfl rfl rfl (op_q (q_lenPile rfl rfl rfl rfl rfl)) (by dsimp only [aput, List.set]) ?_
      refine w_opb rfl rfl rfl rfl (by dsimp only [aput, List.set]) (by dsimp only [aput, List.set]) (fun h23 => ?_) (fun h23 => ?_)
      ·
        refine w_true rfl ?_
        refine w_seq (w_region ?_)
        refine w_callk class_97 (by simp [cloL, clo, clo_enc]) rfl rfl (by dsimp only [aput, List.set]) ?_
        refine w_opm rfl rfl rfl (op_storeW (n := 8) rfl rfl rfl rfl rfl rfl rfl rfl (by decide)) (by dsimp only [aput, List.set]) (by dsimp only [cellsOf_enc, List.append_nil, List.nil_append, List.cons_append, List.set, List.take, List.drop, List.length, List.length_cons, List.length_nil, cellsOf, aval, List.getElem?_cons_zero, List.getElem?_cons_succ, Option.getD]) ?_
        have hie : i = L.length := by simp at h1; omega
        refine end_pure (a := enc (clsT [97])) rfl (okTrim_enc _ _) ?_
        rw [← hres, hmade, MM_ge L 25 hL25, ← hie, hst]; show _ = enc (endM p); rw [show p = [] from List.length_eq_zero_iff.1 (by have := h23; simpa using this)]; exact strip_enc _
      ·
        refine w_false rfl ?_
        refine w_seq (w_region ?_)
        refine w_op rfl rfl rfl rfl (by dsimp only [aput, List.set, aval, List.getElem?_cons_zero, List.getElem?_cons_succ, Option.getD]) ?_
        have hp0 : 0 < p.length := by have := h23; rw [beq_eq_false_iff_ne] at this; omega
        have hpn : p ≠ [] := fun e => by rw [e] at hp0; simp at hp0
        rw [pileAV_pos hp0]
        refine w_op (a := .ptr 1 (0 + 0 * 8)) rfl rfl rfl (op_indexB (n := 0) rfl rfl rfl rfl rfl ⟨by omega, by omega⟩) (by dsimp only [aput, List.set]) ?_
        have hg0 := cellsL_get p 0 hp0
        rw [show p[0] = accM p 0 from by cases p with | nil => simp at hp0 | cons x r => rfl] at hg0
        obtain ⟨x0, hx0⟩ : ∃ x0, accM p 0 = x0 := ⟨_, rfl⟩
        rw [hx0] at hg0
        obtain ⟨k0, s0, mn0, mx0, ts0⟩ := x0
        refine w_op (a := enc (Tr.mk k0 s0 mn0 mx0 ts0)) rfl rfl rfl (op_load (.ptr 1 (0 + 0 * 8)) rfl rfl (by show rd Try.prog 29 ((cellsL p).drop (0 + 0 * 8)) = _; rw [Nat.zero_add]; exact hg0)) (by dsimp only [aput, List.set]) ?_
        refine w_opm (a := .ptr 2 0) rfl rfl rfl rfl (by dsimp only [aput, List.set]) (by dsimp only [cellsOf_enc, List.append_nil, List.nil_append, List.cons_append, List.set, List.take, List.drop, List.length, List.length_cons, List.length_nil, cellsOf, aval, List.getElem?_cons_zero, List.getElem?_cons_succ, Option.getD]) ?_
        refine w_opm rfl rfl rfl (op_storeW (n := 8) rfl rfl rfl rfl rfl rfl rfl rfl (by decide)) (by dsimp only [aput, List.set]) (by dsimp only [cellsOf_enc, List.append_nil, List.nil_append, List.cons_append, List.set, List.take, List.drop, List.length, List.length_cons, List.length_nil, cellsOf, aval, List.getElem?_cons_zero, List.getElem?_cons_succ, Option.getD]) ?_
        refine w_seq ?_
        refine w_seq (w_region ?_)
        refine w_op rfl rfl rfl rfl (by dsimp only [aput, List.set, aval, List.getElem?_cons_zero, List.getElem?_cons_succ, Option.getD]) ?_
        refine w_op (a := restAV p.length) rfl rfl rfl (op_q (q_sliceFrom1 rfl (by omega) rfl rfl)) (by dsimp only [aput, List.set]) ?_
        refine w_op (a := .raw (.int .i64 ((p.length - 1 : Nat) : Int))) rfl rfl rfl (op_q (q_lenRest rfl rfl rfl rfl rfl (by omega))) (by dsimp only [aput, List.set]) ?_
        refine w_op (a := .raw (.int .i64 0)) rfl rfl rfl rfl (by dsimp only [aput, List.set, aval, List.getElem?_cons_zero, List.getElem?_cons_succ, Option.getD]) ?_
        refine w_block ?_
        have hie1 : i = L.length := by simp at h1; omega
        refine w_loopP (p.length - 1) 3 (fun i => True) [15, 195, 196, 197, 198, 199, 200, 201, 202] (fun i => [(195, .raw (.int .i64 (i : Nat)))]) (fun i => ⟨[(29, [.raw (.int .u8 0), .raw (.int .u64 0), .raw (.int .u64 0), .raw (.int .u64 0), .raw (.int .u64 0), .raw (.int .i64 0), .raw (.int .i64 0), .list 0 [] .full]), (29, cellsL p), (29, cells (accM p i))], [], [], 0, false⟩) rfl trivial ?_ ?_
        · exact wm_of [true, true, true, true, true, true, true, true, true, true, true, true, true, true, true, false, true, true, true, true, true, true, true, true, true, true, true, true, true, true, true, true, true, true, true, true, true, true, true, true, true, true, true, true, true, true, true, true, true, true, true, true, true, true, true, true, true, true, true, true, true, true, true, true, true, true, true, true, true, true, true, true, true, true, true, true, true, true, true, true, true, true, true, true, true, true, true, true, true, true, true, true, true, true, true, true, true, true, true, true, true, true, true, true, true, true, true, true, true, true, true, true, true, true, true, true, true, true, true, true, true, true, true, true, true, true, true, true, true, true, true, true, true, true, true, true, true, true, true, true, true, true, true, true, true, true, true, true, true, true, true, true, true, true, true, true, true, true, true, true, true, true, true, true, true, true, true, true, true, true, true, true, true, true, true, true, true, true, true, true, true, true, true, true, true, true, true, true, true, true, true, true, true, true, true, true, false, false, false, false, false, false, false, true] (by kernel_rfl) (by first | rw [hx0] | (dsimp only; rw [hx0]))
        · intro i hi hI
          try dsimp only
          have hacc := accM_le hpn i (by omega)
          have hpt := preL_take_le p (i + 1)
          obtain ⟨xo, hxo⟩ : ∃ xo, accM p i = xo := ⟨_, rfl⟩
          rw [hxo] at hacc ⊢
          obtain ⟨ko, so, mno, mxo, tso⟩ := xo
          refine w_start (by dsimp only [setAll, topAll, List.foldl, List.set]) rfl ?_
          refine w_seq (w_region ?_)
          refine w_opb rfl rfl rfl rfl (by dsimp only [aput, List.set]) (by dsimp only [aput, List.set]) (fun h24 => ?_) (fun h24 => ?_)
          ·
            refine w_seq ?_
            refine w_true rfl ?_
            refine w_seq ?_
            refine w_block ?_
            refine w_seq (w_region ?_)
            have hi2 : i + 1 < p.length := by simp at h24; omega
            rw [show restAV p.length = .bsl 1 8 (p.length - 1) 8 false from if_neg (by omega)]
            refine w_op (a := .ptr 1 (8 + i * 8)) rfl rfl rfl (op_indexB (n := (i : Nat)) rfl rfl rfl rfl rfl ⟨by omega, by omega⟩) (by dsimp only [aput, List.set]) ?_
            have hgy := cellsL_get p (i + 1) hi2
            have hay := accM_succ hi2
            have hpy := pre_le_preL (List.getElem_mem hi2)
            rw [hxo] at hay
            obtain ⟨xy, hxy⟩ : ∃ xy, p[i + 1] = xy := ⟨_, rfl⟩
            rw [hxy] at hgy hay hpy
            obtain ⟨ky, sy, mny, mxy, tsy⟩ := xy
            refine w_op (a := enc (Tr.mk ky sy mny mxy tsy)) rfl rfl rfl (op_load (.ptr 1 (8 + i * 8)) rfl rfl (by show rd Try.prog 29 ((cellsL p).drop (8 + i * 8)) = _; rw [show 8 + i * 8 = (i + 1) * 8 by omega]; exact hgy)) (by dsimp only [aput, List.set]) ?_
            refine w_opm (a := .ptr 3 0) rfl rfl rfl rfl (by dsimp only [aput, List.set]) (by dsimp only [cellsOf_enc, List.append_nil, List.nil_append, List.cons_append, List.set, List.take, List.drop, List.length, List.length_cons, List.length_nil, cellsOf, aval, List.getElem?_cons_zero, List.getElem?_cons_succ, Option.getD]) ?_
            refine w_opm rfl rfl rfl (op_storeW (n := 8) rfl rfl rfl rfl rfl rfl rfl rfl (by decide)) (by dsimp only [aput, List.set]) (by dsimp only [cellsOf_enc, List.append_nil, List.nil_append, List.cons_append, List.set, List.take, List.drop, List.length, List.length_cons, List.length_nil, cellsOf, aval, List.getElem?_cons_zero, List.getElem?_cons_succ, Option.getD]) ?_
            refine w_region (id := 34) ?_
            refine w_op (a := enc (Tr.mk ko so mno mxo tso)) rfl rfl rfl rfl (by dsimp only [aput, List.set]) ?_
            refine w_op (a := enc (Tr.mk ky sy mny mxy tsy)) rfl rfl rfl rfl (by dsimp only [aput, List.set]) ?_
            refine w_callk (joins_mk 4 ko so mno mxo tso ky sy mny mxy tsy (by simp only [preL, List.append_nil, List.length_append]; omega)) (by simp [cloL, clo, clo_enc]) rfl rfl (by dsimp only [aput, List.set]) ?_
            obtain ⟨xr, hxr⟩ : ∃ xr, joinsT 4 (Tr.mk ko so mno mxo tso) (Tr.mk ky sy mny mxy tsy) = xr := ⟨_, rfl⟩
            rw [hxr]
            obtain ⟨kr, sr, mnr, mxr, tsr⟩ := xr
            refine w_opm rfl rfl rfl (op_storeW (n := 8) rfl rfl rfl rfl rfl rfl rfl rfl (by decide)) (by dsimp only [aput, List.set]) (by dsimp only [cellsOf_enc, List.append_nil, List.nil_append, List.cons_append, List.set, List.take, List.drop, List.length, List.length_cons, List.length_nil, cellsOf, aval, List.getElem?_cons_zero, List.getElem?_cons_succ, Option.getD]) ?_
            refine w_region (id := 35) ?_
            refine w_op rfl rfl rfl (op_q (q_add rfl rfl rfl rfl (by omega) (by omega))) (by dsimp only [aput, List.set]) ?_
            refine w_op rfl rfl rfl rfl (by dsimp only [aput, List.set, aval, List.getElem?_cons_zero, List.getElem?_cons_succ, Option.getD]) ?_
            refine ⟨by omega, trivial, ?_⟩
            try dsimp only
            rw [hay, hxr]
            refine wm_trim [true, true, true, true, true, true, true, true, true, true, true, true, true, true, true, false, true, true, true, true, true, true, true, true, true, true, true, true, true, true, true, true, true, true, true, true, true, true, true, true, true, true, true, true, true, true, true, true, true, true, true, true, true, true, true, true, true, true, true, true, true, true, true, true, true, true, true, true, true, true, true, true, true, true, true, true, true, true, true, true, true, true, true, true, true, true, true, true, true, true, true, true, true, true, true, true, true, true, true, true, true, true, true, true, true, true, true, true, true, true, true, true, true, true, true, true, true, true, true, true, true, true, true, true, true, true, true, true, true, true, true, true, true, true, true, true, true, true, true, true, true, true, true, true, true, true, true, true, true, true, true, true, true, true, true, true, true, true, true, true, true, true, true, true, true, true, true, true, true, true, true, true, true, true, true, true, true, true, true, true, true, true, true, true, true, true, true, true, true, true, true, true, true, true, true, true, false, false, false, false, false, false, false, true] 3 (by kernel_rfl) (by decide) (by simp [okSt, ownSt, okTrimL, okTrim, okTrim_cells, okTrim_cellsL, okTrim_enc, okTrim_smcL, okTrim_rest, okTrim_pile]) (by simp [okTrimL, okTrim, okTrim_cells, okTrim_cellsL, okTrim_enc, okTrim_smcL, okTrim_rest, okTrim_pile, setAll, topAll]) (by kernel_rfl)
          ·
            refine w_seq ?_
            refine w_false rfl ?_
            refine w_seq (w_region ?_)
            refine w_op (a := enc (Tr.mk ko so mno mxo tso)) rfl rfl rfl rfl (by dsimp only [aput, List.set]) ?_
            refine w_opm rfl rfl rfl (op_storeW (n := 8) rfl rfl rfl rfl rfl rfl rfl rfl (by decide)) (by dsimp only [aput, List.set]) (by dsimp only [cellsOf_enc, List.append_nil, List.nil_append, List.cons_append, List.set, List.take, List.drop, List.length, List.length_cons, List.length_nil, cellsOf, aval, List.getElem?_cons_zero, List.getElem?_cons_succ, Option.getD]) ?_
            have hie2 : i = p.length - 1 := by simp at h24; omega
            refine end_pure (a := enc (Tr.mk ko so mno mxo tso)) rfl (okTrim_enc _ _) ?_
            rw [← hres, hmade, MM_ge L 25 hL25, ← hie1, hst]; show _ = enc (endM p); rw [← accM_end hpn, ← hie2, hxo]; exact strip_enc _
end Go.Ab
