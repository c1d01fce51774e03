/-
  rx: EqualFunc, same, Same, good, Copy, checked.
-/
import Derived.Test.YtaocggpaiafeeaaZrxCp
set_option linter.unusedSimpArgs false
set_option linter.unusedVariables false
namespace Go.Ab
open Go Go.RowKit Go.Fwd Go.Proofs

def allP (p : Tr → Tr → Bool) : List Tr → List Tr → Bool
  | [], [] => true
  | x :: a, y :: b => p x y && allP p a b
  | _, _ => false
theorem allP_iff (p : Tr → Tr → Bool) : ∀ a b : List Tr, allP p a b = true ↔ a.length = b.length ∧ ∀ (i : Nat) (h1 : i < a.length) (h2 : i < b.length), p a[i] b[i] = true
  | [], [] => by simp [allP]
  | x :: a, [] => by simp [allP]
  | [], y :: b => by simp [allP]
  | x :: a, y :: b => by
    rw [allP, Bool.and_eq_true, allP_iff p a b]
    constructor
    · rintro ⟨h1, h2, h3⟩
      refine ⟨by simp [h2], fun i k1 k2 => ?_⟩
      cases i with
      | zero => exact h1
      | succ i => simpa using h3 i (by simpa using k1) (by simpa using k2)
    · rintro ⟨h1, h2⟩
      exact ⟨h2 0 (by simp) (by simp), by simpa using h1, fun i k1 k2 => h2 (i + 1) (by simpa using k1) (by simpa using k2)⟩
theorem allP_false {p : Tr → Tr → Bool} {a b : List Tr} (i : Nat) (h1 : i < a.length) (h2 : i < b.length) (h : p a[i] b[i] = false) : allP p a b = false := by
  rw [Bool.eq_false_iff, ne_eq, allP_iff]
  rintro ⟨_, h3⟩
  have := h3 i h1 h2
  rw [h] at this; cases this
theorem allP_len {p : Tr → Tr → Bool} {a b : List Tr} (h : a.length ≠ b.length) : allP p a b = false := by
  rw [Bool.eq_false_iff, ne_eq, allP_iff]
  exact fun h3 => h h3.1
mutual
def sameT : Tr → Tr → Bool
  | .mk k s mn mx l, .mk k' s' mn' mx' l' => (k : Int) == k' && decide (s = s') && mn == mn' && mx == mx' && sameL l l'
def sameL : List Tr → List Tr → Bool
  | [], [] => true
  | x :: a, y :: b => sameT x y && sameL a b
  | _, _ => false
end
theorem sameL_all : ∀ a b, sameL a b = allP sameT a b
  | [], [] => by simp [sameL, allP]
  | x :: a, [] => by simp [sameL, allP]
  | [], y :: b => by simp [sameL, allP]
  | x :: a, y :: b => by rw [sameL, allP, sameL_all a b]
mutual
theorem sameT_iff : ∀ a b, sameT a b = true ↔ a = b
  | .mk k s mn mx l, .mk k' s' mn' mx' l' => by
    rw [sameT]
    simp only [Bool.and_eq_true, sameL_iff l l', Tr.mk.injEq, beq_iff_eq, decide_eq_true_eq]
    constructor
    · rintro ⟨⟨⟨⟨h1, h2⟩, h3⟩, h4⟩, h5⟩; exact ⟨by omega, h2, h3, h4, h5⟩
    · rintro ⟨h1, h2, h3, h4, h5⟩; exact ⟨⟨⟨⟨by omega, h2⟩, h3⟩, h4⟩, h5⟩
theorem sameL_iff : ∀ a b, sameL a b = true ↔ a = b
  | [], [] => by simp [sameL]
  | x :: a, [] => by simp [sameL]
  | [], y :: b => by simp [sameL]
  | x :: a, y :: b => by rw [sameL, Bool.and_eq_true, sameT_iff x y, sameL_iff a b]; simp
end
def sameB (a b : Tr) : Bool := lightT a && lightT b && sameT a b
theorem ent47 : Ent Try.prog 47 := enters_of Try.func47 (by kernel_rfl) rfl
set_option maxRecDepth 100000 in
set_option maxHeartbeats 4000000 in
theorem equalFunc_pure (a b : List Tr) (hla : a.length < 2 ^ 62) (hlb : b.length < 2 ^ 62) (g : FuncId) (caps : List AV) (p : Tr → Tr → Bool) (hcs : cloL caps = true) (hp : ∀ x ∈ a, ∀ y ∈ b, Pure (ITP Try.prog) Try.prog g ([enc x, enc y] ++ caps) (.raw (.bool (p x y)))) : Pure (ITP Try.prog) Try.prog 47 [.list a.length (cellsL a) .none, .list b.length (cellsL b) .none, .clos g caps] (.raw (.bool (allP p a b))) := by
  obtain ⟨d, hd⟩ : ∃ d, Try.f47.body = some d := ⟨_, rfl⟩
  refine pure_of mix Try.func47 hd ent47 ?_
  cases hd
  generalize hres : AV.raw (.bool (allP p a b)) = res
  refine w_start (by dsimp only [abeginS, Try.f47, List.length_cons, List.length_nil, Nat.zero_add, Nat.reduceAdd, Nat.reduceSub, List.replicate, List.cons_append, List.nil_append]) (by dsimp only [St.empty]) ?_
  refine w_seq (w_region ?_)
  refine w_op (a := .raw (.bool false)) rfl rfl rfl rfl (by dsimp only [aput, List.set]) ?_
  refine w_seq ?_
  refine w_seq (w_region ?_)
  refine w_op (a := .list a.length (cellsL a) .none) rfl rfl rfl rfl (by dsimp only [aput, List.set]) ?_
  refine w_op (a := .raw (.int .i64 a.length)) rfl rfl rfl rfl (by dsimp only [aput, List.set]) ?_
  refine w_op rfl rfl rfl rfl (by dsimp only [aput, List.set, aval, List.getElem?_cons_zero, List.getElem?_cons_succ, Option.getD]) ?_
  refine w_op (a := .raw (.int .i64 b.length)) rfl rfl rfl rfl (by dsimp only [aput, List.set]) ?_
  refine w_opb rfl rfl rfl rfl (by dsimp only [aput, List.set]) (by dsimp only [aput, List.set]) (fun h1 => ?_) (fun h1 => ?_)
  ·
    refine w_true rfl ?_
    refine w_seq (w_region ?_)
    refine w_op (a := .raw (.bool false)) rfl rfl rfl rfl (by dsimp only [aput, List.set]) ?_
    refine end_pure (a := .raw (.bool false)) rfl rfl ?_
    rw [← hres, show allP p a b = false from allP_len (by simp at h1; omega)]; rfl
  ·
    refine w_false rfl ?_
    refine w_seq ?_
    refine w_seq (w_region ?_)
    refine w_op rfl rfl rfl rfl (by dsimp only [aput, List.set, aval, List.getElem?_cons_zero, List.getElem?_cons_succ, Option.getD]) ?_
    refine w_op (a := .raw (.int .i64 a.length)) rfl rfl rfl rfl (by dsimp only [aput, List.set]) ?_
    refine w_op (a := .raw (.int .i64 0)) rfl rfl rfl rfl (by dsimp only [aput, List.set, aval, List.getElem?_cons_zero, List.getElem?_cons_succ, Option.getD]) ?_
    refine w_block ?_
    refine w_loopP (a.length) 0 (fun i => ∀ (j : Nat) (k1 : j < a.length) (k2 : j < b.length), j < i → p a[j] b[j] = true) [6, 7, 8, 9, 17, 18, 19, 20, 21, 22, 23, 24, 25, 26, 27, 28, 29, 30, 31] (fun i => [(17, .raw (.int .i64 (i : Nat)))]) (fun i => ⟨[], [], [], 0, false⟩) rfl (fun j _ _ hj => by omega) ?_ ?_
    · exact wm_of [true, true, true, true, true, true, false, false, false, false, true, true, true, true, true, true, true, true, false, false, false, false, false, false, false, false, false, false, false, false, false, false] (by kernel_rfl) (by kernel_rfl)
    · intro i hi hI
      refine w_start (by dsimp only [setAll, topAll, List.foldl, List.set]) rfl ?_
      refine w_seq (w_region ?_)
      refine w_opb rfl rfl rfl rfl (by dsimp only [aput, List.set]) (by dsimp only [aput, List.set]) (fun h2 => ?_) (fun h2 => ?_)
      ·
        refine w_seq ?_
        refine w_true rfl ?_
        refine w_seq ?_
        refine w_block ?_
        refine w_seq (w_region ?_)
        refine w_op rfl rfl rfl rfl (by dsimp only [aput, List.set, aval, List.getElem?_cons_zero, List.getElem?_cons_succ, Option.getD]) ?_
        have hia : i < a.length := by simp at h2; omega
        have hib : i < b.length := by simp at h1; omega
        refine w_op rfl rfl rfl (op_indexAddr rfl rfl rfl rfl rfl ⟨by omega, by omega, cellsL_ne (List.ne_nil_of_length_pos (by omega))⟩) (by dsimp only [aput, List.set]) ?_
        obtain ⟨xx, hxx⟩ : ∃ xx, a[i] = xx := ⟨_, rfl⟩
        have hgetx := cellsL_get a i (by omega)
        rw [hxx] at hgetx
        obtain ⟨kx, sx, mnx, mxx, tsx⟩ := xx
        refine w_op rfl rfl rfl (op_load (a := enc (Tr.mk kx sx mnx mxx tsx)) (.iptr ((cellsL a).drop (i * 8))) rfl rfl hgetx) (by dsimp only [aput, List.set]) ?_
        refine w_opm (a := .ptr 0 0) rfl rfl rfl rfl (by dsimp only [aput, List.set]) (by dsimp only [cellsOf_enc, List.append_nil, List.nil_append, List.cons_append, List.set, List.take, List.drop, List.length, List.length_cons, List.length_nil, cellsOf, aval, List.getElem?_cons_zero, List.getElem?_cons_succ, Option.getD]) ?_
        refine w_op rfl rfl rfl rfl (by dsimp only [aput, List.set, aval, List.getElem?_cons_zero, List.getElem?_cons_succ, Option.getD]) ?_
        refine w_opm rfl rfl rfl (op_storeW (n := 8) rfl rfl rfl rfl rfl rfl rfl rfl (by decide)) (by dsimp only [aput, List.set]) (by dsimp only [cellsOf_enc, List.append_nil, List.nil_append, List.cons_append, List.set, List.take, List.drop, List.length, List.length_cons, List.length_nil, cellsOf, aval, List.getElem?_cons_zero, List.getElem?_cons_succ, Option.getD]) ?_
        refine w_seq (w_region ?_)
        refine w_op rfl rfl rfl rfl (by dsimp only [aput, List.set, aval, List.getElem?_cons_zero, List.getElem?_cons_succ, Option.getD]) ?_
        refine w_op rfl rfl rfl rfl (by dsimp only [aput, List.set, aval, List.getElem?_cons_zero, List.getElem?_cons_succ, Option.getD]) ?_
        refine w_op rfl rfl rfl (op_indexAddr rfl rfl rfl rfl rfl ⟨by omega, by omega, cellsL_ne (List.ne_nil_of_length_pos (by omega))⟩) (by dsimp only [aput, List.set]) ?_
        obtain ⟨xy, hxy⟩ : ∃ xy, b[i] = xy := ⟨_, rfl⟩
        have hgety := cellsL_get b i (by omega)
        rw [hxy] at hgety
        obtain ⟨ky, sy, mny, mxy, tsy⟩ := xy
        refine w_op rfl rfl rfl (op_load (a := enc (Tr.mk ky sy mny mxy tsy)) (.iptr ((cellsL b).drop (i * 8))) rfl rfl hgety) (by dsimp only [aput, List.set]) ?_
        refine w_opm (a := .ptr 1 0) rfl rfl rfl rfl (by dsimp only [aput, List.set]) (by dsimp only [cellsOf_enc, List.append_nil, List.nil_append, List.cons_append, List.set, List.take, List.drop, List.length, List.length_cons, List.length_nil, cellsOf, aval, List.getElem?_cons_zero, List.getElem?_cons_succ, Option.getD]) ?_
        refine w_opm rfl rfl rfl (op_storeW (n := 8) rfl rfl rfl rfl rfl rfl rfl rfl (by decide)) (by dsimp only [aput, List.set]) (by dsimp only [cellsOf_enc, List.append_nil, List.nil_append, List.cons_append, List.set, List.take, List.drop, List.length, List.length_cons, List.length_nil, cellsOf, aval, List.getElem?_cons_zero, List.getElem?_cons_succ, Option.getD]) ?_
        refine w_seq (w_region ?_)
        refine w_op rfl rfl rfl rfl (by dsimp only [aput, List.set, aval, List.getElem?_cons_zero, List.getElem?_cons_succ, Option.getD]) ?_
        refine w_op (a := enc (.mk kx sx mnx mxx tsx)) rfl rfl rfl rfl (by dsimp only [aput, List.set]) ?_
        refine w_op (a := enc (Tr.mk ky sy mny mxy tsy)) rfl rfl rfl rfl (by dsimp only [aput, List.set]) ?_
        refine w_callkb (show Pure (ITP Try.prog) Try.prog g ([enc (.mk kx sx mnx mxx tsx), enc (Tr.mk ky sy mny mxy tsy)] ++ caps) (.raw (.bool (p (.mk kx sx mnx mxx tsx) (Tr.mk ky sy mny mxy tsy)))) from hxx ▸ hxy ▸ hp _ (List.getElem_mem hia) _ (List.getElem_mem hib)) (by simp [cloL, clo, clo_enc, hcs]) rfl rfl (by dsimp only [aput, List.set]) (by dsimp only [aput, List.set]) (fun h3 => ?_) (fun h3 => ?_)
        ·
          refine w_op (a := .raw (.bool false)) rfl rfl rfl rfl (by dsimp only [aput, List.set]) ?_
          refine w_false rfl ?_
          refine w_region (id := 9) ?_
          refine w_op rfl rfl rfl (op_q (q_add rfl rfl rfl rfl (by omega) (by omega))) (by dsimp only [aput, List.set]) ?_
          refine w_op rfl rfl rfl rfl (by dsimp only [aput, List.set, aval, List.getElem?_cons_zero, List.getElem?_cons_succ, Option.getD]) ?_
          refine ⟨by omega, fun j k1 k2 hj => ?_, ?_⟩
          · rcases Nat.lt_or_ge j i with hlt | hge
            · exact hI j k1 k2 hlt
            · obtain rfl : j = i := by omega
              rw [hxx, hxy]; exact h3
          · refine wm_trim [true, true, true, true, true, true, false, false, false, false, true, true, true, true, true, true, true, true, false, false, false, false, false, false, false, false, false, false, false, false, false, false] 0 (by kernel_rfl) (by decide) (by simp [okSt, ownSt, okTrimL, okTrim, okTrim_cells, okTrim_cellsL, okTrim_enc, okTrimL_clo _ _ hcs]) (by simp [okTrimL, okTrim, okTrim_cells, okTrim_cellsL, okTrim_enc, okTrimL_clo _ _ hcs, setAll, topAll]) (by kernel_rfl)
        ·
          refine w_op (a := .raw (.bool true)) rfl rfl rfl rfl (by dsimp only [aput, List.set]) ?_
          refine w_true rfl ?_
          refine w_seq (w_region ?_)
          refine w_op (a := .raw (.bool false)) rfl rfl rfl rfl (by dsimp only [aput, List.set]) ?_
          refine end_pure (a := .raw (.bool false)) rfl rfl ?_
          rw [← hres, show allP p a b = false from allP_false i (by simp at h2; omega) (by simp at h1 h2; omega) (by rw [hxx, hxy]; exact h3)]; rfl
      ·
        refine w_seq ?_
        refine w_false rfl ?_
        refine w_seq (w_region ?_)
        refine w_op (a := .raw (.bool true)) rfl rfl rfl rfl (by dsimp only [aput, List.set]) ?_
        refine end_pure (a := .raw (.bool true)) rfl rfl ?_
        rw [← hres, show allP p a b = true from (allP_iff p a b).2 ⟨by simp at h1; omega, fun j k1 k2 => hI j k1 k2 (by simp at h2; omega)⟩]; rfl
theorem sameT_mk (k : Nat) (s : BS) (mn mx : Int) (ts : List Tr) (k2 : Nat) (s2 : BS) (mn2 mx2 : Int) (us : List Tr) : sameT (.mk k s mn mx ts) (.mk k2 s2 mn2 mx2 us) = ((k : Int) == k2 && decide (s = s2) && mn == mn2 && mx == mx2 && allP sameT ts us) := by rw [sameT, sameL_all]
theorem ent38 : Ent Try.prog 38 := enters_of Try.func38 (by kernel_rfl) rfl
set_option maxRecDepth 100000 in
set_option maxHeartbeats 4000000 in
theorem same_walk (k : Nat) (s : BS) (mn mx : Int) (ts : List Tr) (k2 : Nat) (s2 : BS) (mn2 mx2 : Int) (us : List Tr) (h1 : ts.length < 2 ^ 62) (h2 : us.length < 2 ^ 62) (ih : ∀ x ∈ ts, ∀ y ∈ us, Pure (ITP Try.prog) Try.prog 38 ([enc x, enc y] ++ []) (.raw (.bool (sameT x y)))) : Pure (ITP Try.prog) Try.prog 38 [enc (Tr.mk k s mn mx ts), enc (.mk k2 s2 mn2 mx2 us)] (.raw (.bool (sameT (Tr.mk k s mn mx ts) (.mk k2 s2 mn2 mx2 us)))) := by
  obtain ⟨d, hd⟩ : ∃ d, Try.f38.body = some d := ⟨_, rfl⟩
  refine pure_of mix Try.func38 hd ent38 ?_
  cases hd
  generalize hres : AV.raw (.bool (sameT (Tr.mk k s mn mx ts) (.mk k2 s2 mn2 mx2 us))) = res
  refine w_start (by dsimp only [abeginS, Try.f38, List.length_cons, List.length_nil, Nat.zero_add, Nat.reduceAdd, Nat.reduceSub, List.replicate, List.cons_append, List.nil_append]) (by dsimp only [St.empty]) ?_
  refine w_seq (w_region ?_)
  refine w_opm (a := .ptr 0 0) rfl rfl rfl rfl (by dsimp only [aput, List.set]) (by dsimp only [cellsOf_enc, List.append_nil, List.nil_append, List.cons_append, List.set, List.take, List.drop, List.length, List.length_cons, List.length_nil, cellsOf, aval, List.getElem?_cons_zero, List.getElem?_cons_succ, Option.getD]) ?_
  refine w_opm (a := .ptr 1 0) rfl rfl rfl rfl (by dsimp only [aput, List.set]) (by dsimp only [cellsOf_enc, List.append_nil, List.nil_append, List.cons_append, List.set, List.take, List.drop, List.length, List.length_cons, List.length_nil, cellsOf, aval, List.getElem?_cons_zero, List.getElem?_cons_succ, Option.getD]) ?_
  refine w_op (a := .raw (.bool false)) rfl rfl rfl rfl (by dsimp only [aput, List.set]) ?_
  refine w_seq (w_region ?_)
  refine w_op (a := .ptr 0 0) rfl rfl rfl rfl (by dsimp only [aput, List.set]) ?_
  refine w_op rfl rfl rfl rfl (by dsimp only [aput, List.set]) ?_
  refine w_op (a := .ptr 1 0) rfl rfl rfl rfl (by dsimp only [aput, List.set]) ?_
  refine w_op rfl rfl rfl rfl (by dsimp only [aput, List.set]) ?_
  refine w_opb rfl rfl rfl rfl (by dsimp only [aput, List.set]) (by dsimp only [aput, List.set]) (fun h1 => ?_) (fun h1 => ?_)
  ·
    refine w_op (a := .raw (.bool true)) rfl rfl rfl rfl (by dsimp only [aput, List.set]) ?_
    refine w_met rfl rfl ?_
    refine w_op (a := .ptr 0 1) rfl rfl rfl rfl (by dsimp only [aput, List.set]) ?_
    refine w_met rfl rfl ?_
    refine w_q (set4 s) rfl rfl rfl rfl (by dsimp only [aput, List.set]) ?_
    refine w_met rfl rfl ?_
    refine w_op (a := .ptr 1 1) rfl rfl rfl rfl (by dsimp only [aput, List.set]) ?_
    refine w_met rfl rfl ?_
    refine w_q (set4 s2) rfl rfl rfl rfl (by dsimp only [aput, List.set]) ?_
    refine w_met rfl rfl ?_
    refine w_runb (run_eqset s s2 rfl rfl rfl) rfl rfl rfl (by dsimp only [aput, List.set]) (by dsimp only [aput, List.set]) (fun h2 => ?_) (fun h2 => ?_)
    ·
      refine w_op (a := .raw (.bool true)) rfl rfl rfl rfl (by dsimp only [aput, List.set]) ?_
      refine w_op (a := .raw (.bool true)) rfl rfl rfl rfl (by dsimp only [aput, List.set]) ?_
      refine w_met rfl rfl ?_
      refine w_op (a := .ptr 0 5) rfl rfl rfl rfl (by dsimp only [aput, List.set]) ?_
      refine w_met rfl rfl ?_
      refine w_op rfl rfl rfl rfl (by dsimp only [aput, List.set]) ?_
      refine w_met rfl rfl ?_
      refine w_op (a := .ptr 1 5) rfl rfl rfl rfl (by dsimp only [aput, List.set]) ?_
      refine w_met rfl rfl ?_
      refine w_op rfl rfl rfl rfl (by dsimp only [aput, List.set]) ?_
      refine w_met rfl rfl ?_
      refine w_opb rfl rfl rfl rfl (by dsimp only [aput, List.set]) (by dsimp only [aput, List.set]) (fun h3 => ?_) (fun h3 => ?_)
      ·
        refine w_op (a := .raw (.bool true)) rfl rfl rfl rfl (by dsimp only [aput, List.set]) ?_
        refine w_op (a := .raw (.bool true)) rfl rfl rfl rfl (by dsimp only [aput, List.set]) ?_
        refine w_met rfl rfl ?_
        refine w_op (a := .ptr 0 6) rfl rfl rfl rfl (by dsimp only [aput, List.set]) ?_
        refine w_met rfl rfl ?_
        refine w_op rfl rfl rfl rfl (by dsimp only [aput, List.set]) ?_
        refine w_met rfl rfl ?_
        refine w_op (a := .ptr 1 6) rfl rfl rfl rfl (by dsimp only [aput, List.set]) ?_
        refine w_met rfl rfl ?_
        refine w_op rfl rfl rfl rfl (by dsimp only [aput, List.set]) ?_
        refine w_met rfl rfl ?_
        refine w_opb rfl rfl rfl rfl (by dsimp only [aput, List.set]) (by dsimp only [aput, List.set]) (fun h4 => ?_) (fun h4 => ?_)
        ·
          refine w_op (a := .raw (.bool true)) rfl rfl rfl rfl (by dsimp only [aput, List.set]) ?_
          refine w_op (a := .raw (.bool true)) rfl rfl rfl rfl (by dsimp only [aput, List.set]) ?_
          refine w_met rfl rfl ?_
          refine w_op (a := .ptr 0 7) rfl rfl rfl rfl (by dsimp only [aput, List.set]) ?_
          refine w_met rfl rfl ?_
          refine w_op (a := .list ts.length (cellsL ts) .none) rfl rfl rfl rfl (by dsimp only [aput, List.set]) ?_
          refine w_met rfl rfl ?_
          refine w_op (a := .ptr 1 7) rfl rfl rfl rfl (by dsimp only [aput, List.set]) ?_
          refine w_met rfl rfl ?_
          refine w_op (a := .list us.length (cellsL us) .none) rfl rfl rfl rfl (by dsimp only [aput, List.set]) ?_
          refine w_met rfl rfl ?_
          refine w_callkb (equalFunc_pure ts us (by omega) (by omega) 38 [] sameT rfl ih) (by simp [cloL, clo, clo_cellsL]) rfl rfl (by dsimp only [aput, List.set]) (by dsimp only [aput, List.set]) (fun h5 => ?_) (fun h5 => ?_)
          ·
            refine w_op (a := .raw (.bool true)) rfl rfl rfl rfl (by dsimp only [aput, List.set]) ?_
            refine w_op (a := .raw (.bool true)) rfl rfl rfl rfl (by dsimp only [aput, List.set]) ?_
            refine end_pure (a := .raw (.bool true)) rfl rfl ?_
            rw [← hres, show sameT (Tr.mk k s mn mx ts) (.mk k2 s2 mn2 mx2 us) = true from by simp only [sameT_mk, h1, h2, h3, h4, h5, Bool.true_and, Bool.and_true, Bool.false_and, Bool.and_false, Bool.true_or, Bool.or_true, Bool.false_or, Bool.or_false, Bool.not_true, Bool.not_false, cond_true, cond_false, Bool.false_eq_true, Bool.true_eq_false]]; rfl
          ·
            refine w_op (a := .raw (.bool false)) rfl rfl rfl rfl (by dsimp only [aput, List.set]) ?_
            refine w_op (a := .raw (.bool false)) rfl rfl rfl rfl (by dsimp only [aput, List.set]) ?_
            refine end_pure (a := .raw (.bool false)) rfl rfl ?_
            rw [← hres, show sameT (Tr.mk k s mn mx ts) (.mk k2 s2 mn2 mx2 us) = false from by simp only [sameT_mk, h1, h2, h3, h4, h5, Bool.true_and, Bool.and_true, Bool.false_and, Bool.and_false, Bool.true_or, Bool.or_true, Bool.false_or, Bool.or_false, Bool.not_true, Bool.not_false, cond_true, cond_false, Bool.false_eq_true, Bool.true_eq_false]]; rfl
        ·
          refine w_op (a := .raw (.bool false)) rfl rfl rfl rfl (by dsimp only [aput, List.set]) ?_
          refine w_op (a := .raw (.bool false)) rfl rfl rfl rfl (by dsimp only [aput, List.set]) ?_
          refine w_pass rfl rfl (by decide) (by dsimp only [aput, List.set]) ?_
          refine w_pass rfl rfl (by decide) (by dsimp only [aput, List.set]) ?_
          refine w_pass rfl rfl (by decide) (by dsimp only [aput, List.set]) ?_
          refine w_pass rfl rfl (by decide) (by dsimp only [aput, List.set]) ?_
          refine w_pass rfl rfl (by decide) (by dsimp only [aput, List.set]) ?_
          refine w_op (a := .raw (.bool false)) rfl rfl rfl rfl (by dsimp only [aput, List.set]) ?_
          refine w_op (a := .raw (.bool false)) rfl rfl rfl rfl (by dsimp only [aput, List.set]) ?_
          refine end_pure (a := .raw (.bool false)) rfl rfl ?_
          rw [← hres, show sameT (Tr.mk k s mn mx ts) (.mk k2 s2 mn2 mx2 us) = false from by simp only [sameT_mk, h1, h2, h3, h4, Bool.true_and, Bool.and_true, Bool.false_and, Bool.and_false, Bool.true_or, Bool.or_true, Bool.false_or, Bool.or_false, Bool.not_true, Bool.not_false, cond_true, cond_false, Bool.false_eq_true, Bool.true_eq_false]]; rfl
      ·
        refine w_op (a := .raw (.bool false)) rfl rfl rfl rfl (by dsimp only [aput, List.set]) ?_
        refine w_op (a := .raw (.bool false)) rfl rfl rfl rfl (by dsimp only [aput, List.set]) ?_
        refine w_pass rfl rfl (by decide) (by dsimp only [aput, List.set]) ?_
        refine w_pass rfl rfl (by decide) (by dsimp only [aput, List.set]) ?_
        refine w_pass rfl rfl (by decide) (by dsimp only [aput, List.set]) ?_
        refine w_pass rfl rfl (by decide) (by dsimp only [aput, List.set]) ?_
        refine w_pass rfl rfl (by decide) (by dsimp only [aput, List.set]) ?_
        refine w_op (a := .raw (.bool false)) rfl rfl rfl rfl (by dsimp only [aput, List.set]) ?_
        refine w_op (a := .raw (.bool false)) rfl rfl rfl rfl (by dsimp only [aput, List.set]) ?_
        refine w_pass rfl rfl (by decide) (by dsimp only [aput, List.set]) ?_
        refine w_pass rfl rfl (by decide) (by dsimp only [aput, List.set]) ?_
        refine w_pass rfl rfl (by decide) (by dsimp only [aput, List.set]) ?_
        refine w_pass rfl rfl (by decide) (by dsimp only [aput, List.set]) ?_
        refine w_pass rfl rfl (by decide) (by dsimp only [aput, List.set]) ?_
        refine w_op (a := .raw (.bool false)) rfl rfl rfl rfl (by dsimp only [aput, List.set]) ?_
        refine w_op (a := .raw (.bool false)) rfl rfl rfl rfl (by dsimp only [aput, List.set]) ?_
        refine end_pure (a := .raw (.bool false)) rfl rfl ?_
        rw [← hres, show sameT (Tr.mk k s mn mx ts) (.mk k2 s2 mn2 mx2 us) = false from by simp only [sameT_mk, h1, h2, h3, Bool.true_and, Bool.and_true, Bool.false_and, Bool.and_false, Bool.true_or, Bool.or_true, Bool.false_or, Bool.or_false, Bool.not_true, Bool.not_false, cond_true, cond_false, Bool.false_eq_true, Bool.true_eq_false]]; rfl
    ·
      refine w_op (a := .raw (.bool false)) rfl rfl rfl rfl (by dsimp only [aput, List.set]) ?_
      refine w_op (a := .raw (.bool false)) rfl rfl rfl rfl (by dsimp only [aput, List.set]) ?_
      refine w_pass rfl rfl (by decide) (by dsimp only [aput, List.set]) ?_
      refine w_pass rfl rfl (by decide) (by dsimp only [aput, List.set]) ?_
      refine w_pass rfl rfl (by decide) (by dsimp only [aput, List.set]) ?_
      refine w_pass rfl rfl (by decide) (by dsimp only [aput, List.set]) ?_
      refine w_pass rfl rfl (by decide) (by dsimp only [aput, List.set]) ?_
      refine w_op (a := .raw (.bool false)) rfl rfl rfl rfl (by dsimp only [aput, List.set]) ?_
      refine w_op (a := .raw (.bool false)) rfl rfl rfl rfl (by dsimp only [aput, List.set]) ?_
      refine w_pass rfl rfl (by decide) (by dsimp only [aput, List.set]) ?_
      refine w_pass rfl rfl (by decide) (by dsimp only [aput, List.set]) ?_
      refine w_pass rfl rfl (by decide) (by dsimp only [aput, List.set]) ?_
      refine w_pass rfl rfl (by decide) (by dsimp only [aput, List.set]) ?_
      refine w_pass rfl rfl (by decide) (by dsimp only [aput, List.set]) ?_
      refine w_op (a := .raw (.bool false)) rfl rfl rfl rfl (by dsimp only [aput, List.set]) ?_
      refine w_op (a := .raw (.bool false)) rfl rfl rfl rfl (by dsimp only [aput, List.set]) ?_
      refine w_pass rfl rfl (by decide) (by dsimp only [aput, List.set]) ?_
      refine w_pass rfl rfl (by decide) (by dsimp only [aput, List.set]) ?_
      refine w_pass rfl rfl (by decide) (by dsimp only [aput, List.set]) ?_
      refine w_pass rfl rfl (by decide) (by dsimp only [aput, List.set]) ?_
      refine w_pass rfl rfl (by decide) (by dsimp only [aput, List.set]) ?_
      refine w_op (a := .raw (.bool false)) rfl rfl rfl rfl (by dsimp only [aput, List.set]) ?_
      refine w_op (a := .raw (.bool false)) rfl rfl rfl rfl (by dsimp only [aput, List.set]) ?_
      refine end_pure (a := .raw (.bool false)) rfl rfl ?_
      rw [← hres, show sameT (Tr.mk k s mn mx ts) (.mk k2 s2 mn2 mx2 us) = false from by simp only [sameT_mk, h1, h2, Bool.true_and, Bool.and_true, Bool.false_and, Bool.and_false, Bool.true_or, Bool.or_true, Bool.false_or, Bool.or_false, Bool.not_true, Bool.not_false, cond_true, cond_false, Bool.false_eq_true, Bool.true_eq_false]]; rfl
  ·
    refine w_op (a := .raw (.bool false)) rfl rfl rfl rfl (by dsimp only [aput, List.set]) ?_
    refine w_pass rfl rfl (by decide) (by dsimp only [aput, List.set]) ?_
    refine w_pass rfl rfl (by decide) (by dsimp only [aput, List.set]) ?_
    refine w_pass rfl rfl (by decide) (by dsimp only [aput, List.set]) ?_
    refine w_pass rfl rfl (by decide) (by dsimp only [aput, List.set]) ?_
    refine w_pass rfl rfl (by decide) (by dsimp only [aput, List.set]) ?_
    refine w_op (a := .raw (.bool false)) rfl rfl rfl rfl (by dsimp only [aput, List.set]) ?_
    refine w_op (a := .raw (.bool false)) rfl rfl rfl rfl (by dsimp only [aput, List.set]) ?_
    refine w_pass rfl rfl (by decide) (by dsimp only [aput, List.set]) ?_
    refine w_pass rfl rfl (by decide) (by dsimp only [aput, List.set]) ?_
    refine w_pass rfl rfl (by decide) (by dsimp only [aput, List.set]) ?_
    refine w_pass rfl rfl (by decide) (by dsimp only [aput, List.set]) ?_
    refine w_pass rfl rfl (by decide) (by dsimp only [aput, List.set]) ?_
    refine w_op (a := .raw (.bool false)) rfl rfl rfl rfl (by dsimp only [aput, List.set]) ?_
    refine w_op (a := .raw (.bool false)) rfl rfl rfl rfl (by dsimp only [aput, List.set]) ?_
    refine w_pass rfl rfl (by decide) (by dsimp only [aput, List.set]) ?_
    refine w_pass rfl rfl (by decide) (by dsimp only [aput, List.set]) ?_
    refine w_pass rfl rfl (by decide) (by dsimp only [aput, List.set]) ?_
    refine w_pass rfl rfl (by decide) (by dsimp only [aput, List.set]) ?_
    refine w_pass rfl rfl (by decide) (by dsimp only [aput, List.set]) ?_
    refine w_op (a := .raw (.bool false)) rfl rfl rfl rfl (by dsimp only [aput, List.set]) ?_
    refine w_op (a := .raw (.bool false)) rfl rfl rfl rfl (by dsimp only [aput, List.set]) ?_
    refine w_pass rfl rfl (by decide) (by dsimp only [aput, List.set]) ?_
    refine w_pass rfl rfl (by decide) (by dsimp only [aput, List.set]) ?_
    refine w_pass rfl rfl (by decide) (by dsimp only [aput, List.set]) ?_
    refine w_pass rfl rfl (by decide) (by dsimp only [aput, List.set]) ?_
    refine w_pass rfl rfl (by decide) (by dsimp only [aput, List.set]) ?_
    refine w_op (a := .raw (.bool false)) rfl rfl rfl rfl (by dsimp only [aput, List.set]) ?_
    refine w_op (a := .raw (.bool false)) rfl rfl rfl rfl (by dsimp only [aput, List.set]) ?_
    refine end_pure (a := .raw (.bool false)) rfl rfl ?_
    rw [← hres, show sameT (Tr.mk k s mn mx ts) (.mk k2 s2 mn2 mx2 us) = false from by simp only [sameT_mk, h1, Bool.true_and, Bool.and_true, Bool.false_and, Bool.and_false, Bool.true_or, Bool.or_true, Bool.false_or, Bool.or_false, Bool.not_true, Bool.not_false, cond_true, cond_false, Bool.false_eq_true, Bool.true_eq_false]]; rfl
theorem same_at : ∀ (a b : Tr), (pre a).length < 2 ^ 62 → (pre b).length < 2 ^ 62 → Pure (ITP Try.prog) Try.prog 38 [enc a, enc b] (.raw (.bool (sameT a b)))
  | .mk k s mn mx ts, .mk k2 s2 mn2 mx2 us => fun h1 h2 => same_walk k s mn mx ts k2 s2 mn2 mx2 us (by have := pre_l_length (.mk k s mn mx ts); simp only [Tr.l] at this; omega) (by have := pre_l_length (.mk k2 s2 mn2 mx2 us); simp only [Tr.l] at this; omega)
      (fun x hx y hy => same_at x y (Nat.lt_of_le_of_lt (mem_pre_length (mem_l_pre (t := .mk k s mn mx ts) hx)) h1) (Nat.lt_of_le_of_lt (mem_pre_length (mem_l_pre (t := .mk k2 s2 mn2 mx2 us) hy)) h2))
theorem ent14 : Ent Try.prog 14 := enters_of Try.func14 (by kernel_rfl) rfl
set_option maxRecDepth 100000 in
set_option maxHeartbeats 4000000 in
theorem sameB_mk (k : Nat) (s : BS) (mn mx : Int) (ts : List Tr) (k2 : Nat) (s2 : BS) (mn2 mx2 : Int) (us : List Tr) (ha : (pre (Tr.mk k s mn mx ts)).length < 2 ^ 62) (hb : (pre (.mk k2 s2 mn2 mx2 us)).length < 2 ^ 62) : Pure (ITP Try.prog) Try.prog 14 [enc (Tr.mk k s mn mx ts), enc (.mk k2 s2 mn2 mx2 us)] (.raw (.bool (sameB (Tr.mk k s mn mx ts) (.mk k2 s2 mn2 mx2 us)))) := by
  obtain ⟨d, hd⟩ : ∃ d, Try.f14.body = some d := ⟨_, rfl⟩
  refine pure_of mix Try.func14 hd ent14 ?_
  cases hd
  generalize hres : AV.raw (.bool (sameB (Tr.mk k s mn mx ts) (.mk k2 s2 mn2 mx2 us))) = res
  refine w_start (by dsimp only [abeginS, Try.f14, List.length_cons, List.length_nil, Nat.zero_add, Nat.reduceAdd, Nat.reduceSub, List.replicate, List.cons_append, List.nil_append]) (by dsimp only [St.empty]) ?_
  refine w_seq (w_region ?_)
  refine w_opm (a := .ptr 0 0) rfl rfl rfl rfl (by dsimp only [aput, List.set]) (by dsimp only [cellsOf_enc, List.append_nil, List.nil_append, List.cons_append, List.set, List.take, List.drop, List.length, List.length_cons, List.length_nil, cellsOf, aval, List.getElem?_cons_zero, List.getElem?_cons_succ, Option.getD]) ?_
  refine w_opm (a := .ptr 1 0) rfl rfl rfl rfl (by dsimp only [aput, List.set]) (by dsimp only [cellsOf_enc, List.append_nil, List.nil_append, List.cons_append, List.set, List.take, List.drop, List.length, List.length_cons, List.length_nil, cellsOf, aval, List.getElem?_cons_zero, List.getElem?_cons_succ, Option.getD]) ?_
  refine w_op (a := .raw (.bool false)) rfl rfl rfl rfl (by dsimp only [aput, List.set]) ?_
  refine w_seq (w_region ?_)
  refine w_op (a := enc (Tr.mk k s mn mx ts)) rfl rfl rfl rfl (by dsimp only [aput, List.set]) ?_
  refine w_callkb (light_at (Tr.mk k s mn mx ts) ha) (by simp [cloL, clo, clo_enc]) rfl rfl (by dsimp only [aput, List.set]) (by dsimp only [aput, List.set]) (fun h1 => ?_) (fun h1 => ?_)
  ·
    refine w_op (a := .raw (.bool true)) rfl rfl rfl rfl (by dsimp only [aput, List.set]) ?_
    refine w_met rfl rfl ?_
    refine w_op (a := enc (.mk k2 s2 mn2 mx2 us)) rfl rfl rfl rfl (by dsimp only [aput, List.set]) ?_
    refine w_met rfl rfl ?_
    refine w_callkb (light_at (.mk k2 s2 mn2 mx2 us) hb) (by simp [cloL, clo, clo_enc]) rfl rfl (by dsimp only [aput, List.set]) (by dsimp only [aput, List.set]) (fun h2 => ?_) (fun h2 => ?_)
    ·
      refine w_op (a := .raw (.bool true)) rfl rfl rfl rfl (by dsimp only [aput, List.set]) ?_
      refine w_op (a := .raw (.bool true)) rfl rfl rfl rfl (by dsimp only [aput, List.set]) ?_
      refine w_met rfl rfl ?_
      refine w_op (a := enc (Tr.mk k s mn mx ts)) rfl rfl rfl rfl (by dsimp only [aput, List.set]) ?_
      refine w_met rfl rfl ?_
      refine w_op (a := enc (.mk k2 s2 mn2 mx2 us)) rfl rfl rfl rfl (by dsimp only [aput, List.set]) ?_
      refine w_met rfl rfl ?_
      refine w_callkb (same_at (Tr.mk k s mn mx ts) (.mk k2 s2 mn2 mx2 us) ha hb) (by simp [cloL, clo, clo_enc]) rfl rfl (by dsimp only [aput, List.set]) (by dsimp only [aput, List.set]) (fun h3 => ?_) (fun h3 => ?_)
      ·
        refine w_op (a := .raw (.bool true)) rfl rfl rfl rfl (by dsimp only [aput, List.set]) ?_
        refine w_op (a := .raw (.bool true)) rfl rfl rfl rfl (by dsimp only [aput, List.set]) ?_
        refine end_pure (a := .raw (.bool true)) rfl rfl ?_
        rw [← hres, show sameB (Tr.mk k s mn mx ts) (.mk k2 s2 mn2 mx2 us) = true from by simp only [sameB, h1, h2, h3, Bool.true_and, Bool.and_true, Bool.false_and, Bool.and_false, Bool.true_or, Bool.or_true, Bool.false_or, Bool.or_false, Bool.not_true, Bool.not_false, cond_true, cond_false, Bool.false_eq_true, Bool.true_eq_false]]; rfl
      ·
        refine w_op (a := .raw (.bool false)) rfl rfl rfl rfl (by dsimp only [aput, List.set]) ?_
        refine w_op (a := .raw (.bool false)) rfl rfl rfl rfl (by dsimp only [aput, List.set]) ?_
        refine end_pure (a := .raw (.bool false)) rfl rfl ?_
        rw [← hres, show sameB (Tr.mk k s mn mx ts) (.mk k2 s2 mn2 mx2 us) = false from by simp only [sameB, h1, h2, h3, Bool.true_and, Bool.and_true, Bool.false_and, Bool.and_false, Bool.true_or, Bool.or_true, Bool.false_or, Bool.or_false, Bool.not_true, Bool.not_false, cond_true, cond_false, Bool.false_eq_true, Bool.true_eq_false]]; rfl
    ·
      refine w_op (a := .raw (.bool false)) rfl rfl rfl rfl (by dsimp only [aput, List.set]) ?_
      refine w_op (a := .raw (.bool false)) rfl rfl rfl rfl (by dsimp only [aput, List.set]) ?_
      refine w_pass rfl rfl (by decide) (by dsimp only [aput, List.set]) ?_
      refine w_pass rfl rfl (by decide) (by dsimp only [aput, List.set]) ?_
      refine w_pass rfl rfl (by decide) (by dsimp only [aput, List.set]) ?_
      refine w_op (a := .raw (.bool false)) rfl rfl rfl rfl (by dsimp only [aput, List.set]) ?_
      refine w_op (a := .raw (.bool false)) rfl rfl rfl rfl (by dsimp only [aput, List.set]) ?_
      refine end_pure (a := .raw (.bool false)) rfl rfl ?_
      rw [← hres, show sameB (Tr.mk k s mn mx ts) (.mk k2 s2 mn2 mx2 us) = false from by simp only [sameB, h1, h2, Bool.true_and, Bool.and_true, Bool.false_and, Bool.and_false, Bool.true_or, Bool.or_true, Bool.false_or, Bool.or_false, Bool.not_true, Bool.not_false, cond_true, cond_false, Bool.false_eq_true, Bool.true_eq_false]]; rfl
  ·
    refine w_op (a := .raw (.bool false)) rfl rfl rfl rfl (by dsimp only [aput, List.set]) ?_
    refine w_pass rfl rfl (by decide) (by dsimp only [aput, List.set]) ?_
    refine w_pass rfl rfl (by decide) (by dsimp only [aput, List.set]) ?_
    refine w_op (a := .raw (.bool false)) rfl rfl rfl rfl (by dsimp only [aput, List.set]) ?_
    refine w_op (a := .raw (.bool false)) rfl rfl rfl rfl (by dsimp only [aput, List.set]) ?_
    refine w_pass rfl rfl (by decide) (by dsimp only [aput, List.set]) ?_
    refine w_pass rfl rfl (by decide) (by dsimp only [aput, List.set]) ?_
    refine w_pass rfl rfl (by decide) (by dsimp only [aput, List.set]) ?_
    refine w_op (a := .raw (.bool false)) rfl rfl rfl rfl (by dsimp only [aput, List.set]) ?_
    refine w_op (a := .raw (.bool false)) rfl rfl rfl rfl (by dsimp only [aput, List.set]) ?_
    refine end_pure (a := .raw (.bool false)) rfl rfl ?_
    rw [← hres, show sameB (Tr.mk k s mn mx ts) (.mk k2 s2 mn2 mx2 us) = false from by simp only [sameB, h1, Bool.true_and, Bool.and_true, Bool.false_and, Bool.and_false, Bool.true_or, Bool.or_true, Bool.false_or, Bool.or_false, Bool.not_true, Bool.not_false, cond_true, cond_false, Bool.false_eq_true, Bool.true_eq_false]]; rfl
def noneT : Tr := .mk 0 0#256 0 0 []
def emptyT : Tr := .mk 1 0#256 0 0 []
/-- A zero Node. -/
def zero29 : AV := .agg [.raw (.int .u8 0), .raw (.int .u64 0), .raw (.int .u64 0), .raw (.int .u64 0), .raw (.int .u64 0), .raw (.int .i64 0), .raw (.int .i64 0), .list 0 [] .full]
theorem strip_zero29 : strip zero29 = enc noneT := by kernel_rfl
theorem okTrim_zero29 (n : Nat) : okTrim n zero29 = true := by kernel_rfl
def goodT (t : Tr) : Bool := sameT t noneT || cleanT t
def checkedT (t : Tr) : Tr := if cleanT t = true then t else noneT
def copyT (t : Tr) : Tr := if lightT t = true then t else noneT
theorem clean_at (t : Tr) (h : (pre t).length < 2 ^ 62) : Pure (ITP Try.prog) Try.prog 12 [enc t] (.raw (.bool (cleanT t))) := by
  cases t with
  | mk k s mn mx ts => exact clean_mk k s mn mx ts h
theorem light_of_clean {t : Tr} (h : cleanT t = true) : (pre t).length ≤ 10000 := by rw [cleanT, Bool.and_eq_true] at h; simpa [lightT] using h.1
theorem ent34 : Ent Try.prog 34 := enters_of Try.func34 (by kernel_rfl) rfl
set_option maxRecDepth 100000 in
set_option maxHeartbeats 4000000 in
theorem good_mk (k : Nat) (s : BS) (mn mx : Int) (ts : List Tr) (h : (pre (Tr.mk k s mn mx ts)).length < 2 ^ 62) : Pure (ITP Try.prog) Try.prog 34 [enc (Tr.mk k s mn mx ts)] (.raw (.bool (goodT (Tr.mk k s mn mx ts)))) := by
  obtain ⟨d, hd⟩ : ∃ d, Try.f34.body = some d := ⟨_, rfl⟩
  refine pure_of mix Try.func34 hd ent34 ?_
  cases hd
  generalize hres : AV.raw (.bool (goodT (Tr.mk k s mn mx ts))) = res
  refine w_start (by dsimp only [abeginS, Try.f34, List.length_cons, List.length_nil, Nat.zero_add, Nat.reduceAdd, Nat.reduceSub, List.replicate, List.cons_append, List.nil_append]) (by dsimp only [St.empty]) ?_
  refine w_seq (w_region ?_)
  refine w_opm (a := .ptr 0 0) rfl rfl rfl rfl (by dsimp only [aput, List.set]) (by dsimp only [cellsOf_enc, List.append_nil, List.nil_append, List.cons_append, List.set, List.take, List.drop, List.length, List.length_cons, List.length_nil, cellsOf, aval, List.getElem?_cons_zero, List.getElem?_cons_succ, Option.getD]) ?_
  refine w_op (a := .raw (.bool false)) rfl rfl rfl rfl (by dsimp only [aput, List.set]) ?_
  refine w_seq (w_region ?_)
  refine w_op (a := enc (Tr.mk k s mn mx ts)) rfl rfl rfl rfl (by dsimp only [aput, List.set]) ?_
  refine w_op (a := zero29) rfl rfl rfl rfl (by dsimp only [aput, List.set]) ?_
  refine w_callcb (args := [enc (Tr.mk k s mn mx ts), zero29]) (same_at (Tr.mk k s mn mx ts) noneT h (by decide)) rfl rfl (by simp [stripL, strip_enc, strip_zero29]) (by simp [okTrimL, okTrim_enc, okTrim_zero29]) (by dsimp only [aput, List.set]) (by dsimp only [aput, List.set]) (fun h1 => ?_) (fun h1 => ?_)
  ·
    refine w_op (a := .raw (.bool true)) rfl rfl rfl rfl (by dsimp only [aput, List.set]) ?_
    refine w_pass rfl rfl (by decide) (by dsimp only [aput, List.set]) ?_
    refine w_pass rfl rfl (by decide) (by dsimp only [aput, List.set]) ?_
    refine w_op (a := .raw (.bool true)) rfl rfl rfl rfl (by dsimp only [aput, List.set]) ?_
    refine w_op (a := .raw (.bool true)) rfl rfl rfl rfl (by dsimp only [aput, List.set]) ?_
    refine end_pure (a := .raw (.bool true)) rfl rfl ?_
    rw [← hres, show goodT (Tr.mk k s mn mx ts) = true from by simp only [goodT, h1, Bool.true_and, Bool.and_true, Bool.false_and, Bool.and_false, Bool.true_or, Bool.or_true, Bool.false_or, Bool.or_false, Bool.not_true, Bool.not_false, cond_true, cond_false, Bool.false_eq_true, Bool.true_eq_false]]; rfl
  ·
    refine w_op (a := .raw (.bool false)) rfl rfl rfl rfl (by dsimp only [aput, List.set]) ?_
    refine w_met rfl rfl ?_
    refine w_op (a := enc (Tr.mk k s mn mx ts)) rfl rfl rfl rfl (by dsimp only [aput, List.set]) ?_
    refine w_met rfl rfl ?_
    refine w_callkb (clean_at (Tr.mk k s mn mx ts) h) (by simp [cloL, clo, clo_enc]) rfl rfl (by dsimp only [aput, List.set]) (by dsimp only [aput, List.set]) (fun h2 => ?_) (fun h2 => ?_)
    ·
      refine w_op (a := .raw (.bool true)) rfl rfl rfl rfl (by dsimp only [aput, List.set]) ?_
      refine w_op (a := .raw (.bool true)) rfl rfl rfl rfl (by dsimp only [aput, List.set]) ?_
      refine end_pure (a := .raw (.bool true)) rfl rfl ?_
      rw [← hres, show goodT (Tr.mk k s mn mx ts) = true from by simp only [goodT, h1, h2, Bool.true_and, Bool.and_true, Bool.false_and, Bool.and_false, Bool.true_or, Bool.or_true, Bool.false_or, Bool.or_false, Bool.not_true, Bool.not_false, cond_true, cond_false, Bool.false_eq_true, Bool.true_eq_false]]; rfl
    ·
      refine w_op (a := .raw (.bool false)) rfl rfl rfl rfl (by dsimp only [aput, List.set]) ?_
      refine w_op (a := .raw (.bool false)) rfl rfl rfl rfl (by dsimp only [aput, List.set]) ?_
      refine end_pure (a := .raw (.bool false)) rfl rfl ?_
      rw [← hres, show goodT (Tr.mk k s mn mx ts) = false from by simp only [goodT, h1, h2, Bool.true_and, Bool.and_true, Bool.false_and, Bool.and_false, Bool.true_or, Bool.or_true, Bool.false_or, Bool.or_false, Bool.not_true, Bool.not_false, cond_true, cond_false, Bool.false_eq_true, Bool.true_eq_false]]; rfl
end Go.Ab
